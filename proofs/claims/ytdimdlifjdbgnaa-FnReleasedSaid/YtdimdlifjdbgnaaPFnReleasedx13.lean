-- Written by a program of this session (wip/xprint.py) out of the translation; Lean checks it.
import Derived.Test.YtdimdlifjdbgnaaPFnReleasedx0
import Derived.Test.YtdimdlifjdbgnaaPFnReleasedx1
import Derived.Test.YtdimdlifjdbgnaaPFnReleasedx2
import Derived.Test.YtdimdlifjdbgnaaPFnReleasedx3
import Derived.Test.YtdimdlifjdbgnaaPFnReleasedx4
import Derived.Test.YtdimdlifjdbgnaaPFnReleasedx5
import Derived.Test.YtdimdlifjdbgnaaPFnReleasedx6
import Derived.Test.YtdimdlifjdbgnaaPFnReleasedx7
import Derived.Test.YtdimdlifjdbgnaaPFnReleasedx8
import Derived.Test.YtdimdlifjdbgnaaPFnReleasedx9
import Derived.Test.YtdimdlifjdbgnaaPFnReleasedx10
import Derived.Test.YtdimdlifjdbgnaaPFnReleasedx11
import Derived.Test.YtdimdlifjdbgnaaPFnReleasedx12
namespace Go.Proofs.Ytdimdlifjdbgnaa.PFnReleased
open Go.RowKit Go.Proofs.YtdimdlifjdbgnaaW.PrintWords Go.Proofs.YtdimdlifjdbgnaaW.PrintLast Go.Proofs.YtdimdlifjdbgnaaW.PrintMore Go.Proofs.Ytdimdlifjdbgnaa.Sq
attribute [local go_sem] max2_int min2_int max_two min_two max_three min_three max_four min_four   -- for this text's walks alone
set_option linter.unusedVariables false
set_option linter.unusedSimpArgs false

-- HAND FROM
open Go.Proofs.Ytdimdlifjdbgnaa.Base Go.Proofs.Ytdimdlifjdbgnaa.Sq
/-! ### Stores of parts of a block as one event (by hand) -/
def pcs (cs : Array Value) (o : Nat) : List Value → Array Value
 | [] => cs
 | v :: r => pcs (cs.setIfInBounds o v) (o + 1) r
theorem size_pcs : ∀ (vs : List Value) (cs : Array Value) (o : Nat), (pcs cs o vs).size = cs.size
 | [], _, _ => rfl
 | v :: r, cs, o => by unfold pcs; rw [size_pcs r]; simp
theorem blk_pcs : ∀ (vs : List Value) (o : Nat) {w : World} {g : Nat} {t : TypeId} {cs : Array Value} (h : w.heap[g]? = some (.cells cs t (0, 0))), (w.setCells g o vs).heap[g]? = some (.cells (pcs cs o vs) t (0, 0))
 | [], _, _, _, _, _, h => h
 | v :: r, o, _, _, _, _, h => blk_pcs r (o + 1) (blk_set h o v)
theorem grown_pcs (vs : List Value) (o : Nat) (w : World) (g : Nat) : w.grownBy (w.setCells g o vs) (some g) := by
 obtain ⟨s1, s2, s3, s4⟩ := setCells_same g vs o w
 exact ⟨s1, s2, s3, by omega, fun k _ hk => setCells_far vs o k (fun he => hk (by rw [he]))⟩
theorem stm_ {P : Program} {ops : Array Oper} {o : Oper} {rest : List Oper} {a : Act} {W : World} {Q : Exit → Act → World → Prop} (ty : TypeId) (p : Tmp) (y : Operand) (g off : Nat) (cells old new : Array Value) (t : TypeId) (hgd : o.guard = none) (ho : o.op = .store ty (.tmp p) y) (hd : o.dst = none)
  (hx : a.eval (.tmp p) = .pointer (some ⟨g, off, none⟩)) (hy : a.eval y = .agg cells) (hg : W.heap[g]? = some (.cells old t (0, 0))) (hi : (P.info? ty).map (·.size) = some cells.size) (hn : off + cells.size ≤ old.size) (h1 : cells.all (·.oneCell') = true) (hnew : pcs old off cells.toList = new)
  (h : ∀ w1, w1.heap[g]? = some (.cells new t (0, 0)) → W.grownBy w1 (some g) → wpList P ops Q rest a w1) : wpList P ops Q (o :: rest) a W := by
 refine wpList_store_mid hgd ty (.tmp p) y ho g off cells hx hy (fun j hj => ⟨?_, blk_frozen hg _⟩) hi h1 ?_
 · rw [blk_cell hg]; simp; omega
 rw [hd]
 show wpList P ops Q rest a _
 exact h _ (by have := blk_pcs cells.toList off hg; rwa [hnew] at this) (grown_pcs _ _ _ _)
theorem r_put {α : Type} {d : Kd α} {e : Nat} {w w1 : World} {base : Nat} {ok : Nat → Prop} {v : Value} {xs : List α} (h : d.R e w base ok v xs) {g t : Nat} {cells : Array Value} (hb : w.heap[g]? = some (.cells cells t (0, 0))) (ht : ∀ q, q ∈ e :: d.E → q ≠ t) (hg : w.grownBy w1 (some g)) : d.R e w1 base ok v xs :=
 Kd.R_mono (Kd.R_grown (Kd.R_types h hb ht) hg (fun k hk e_ => hk.2 (by injection e_))) (fun _ h_ => h_.1)
theorem b_put {w W w1 : World} {g : Nat} (h : Below w.heap.size w W) (hg : W.grownBy w1 (some g)) (hn : w.heap.size ≤ g) : Below w.heap.size w w1 := h.grown hg h.size (fun k hk => by injection hk with hk; rw [← hk]; exact hn)
/-! ### impl.DoWork (by hand) -/
def fleetCopyB (ts : List S44) (cs : List S84) (ds : List S57) : Bool := decide (ts.length < 2199023255552) && (decide (cs.length < 4398046511104) && decide (ds.length < 4398046511104))
theorem clone_is (l0 : List S44) (l1 : List S84) (l2 : List S57) (p q r : Int) (h : fleetCopyB l0 l1 l2 = true) : impl_cloneFleet.f l0 l1 l2 p q r = some (l0, l1, l2, p, q, r) := by
  unfold fleetCopyB at h
  simp only [Bool.and_eq_true, decide_eq_true_eq] at h
  simp [impl_cloneFleet.f, impl_Task.f, impl_Carry.f, impl_Defect_77.f, h.1, h.2.1, h.2.2]
theorem workF_false {ts : List S44} {cs : List S84} {ds : List S57} {p q r d0 : Int} {d1 : ByteArray} {d2 d3 : Int} (h : ¬ (workF ts cs ds p q r d0 d1 d2 d3).2.2.2.2.2.2 = true) : workF ts cs ds p q r d0 d1 d2 d3 = (ts, cs, ds, p, q, r, false) ∧ (fleetB ts cs ds p q r = false ∨ (fleetB ts cs ds p q r = true ∧ doF ts cs ds p q r d0 d1 d2 d3 = none) ∨ (fleetB ts cs ds p q r = true ∧ ∃ ts' ds' p' q' r', doF ts cs ds p q r d0 d1 d2 d3 = some (ts', ds', p', q', r') ∧ clockB p' q' r' = false)) := by
  unfold workF at h ⊢
  split
  · rename_i hf
    rw [if_pos hf] at h
    split
    · rename_i ts' ds' p' q' r' hd
      rw [hd] at h
      by_cases hc : clockB p' q' r' = true
      · exact absurd (by dsimp only; rw [if_pos hc]) h
      · rw [if_neg hc]; exact ⟨rfl, .inr (.inr ⟨hf, _, _, _, _, _, hd, by simpa using hc⟩)⟩
    · rename_i hd; exact ⟨rfl, .inr (.inl ⟨hf, hd⟩)⟩
  · rename_i hf; exact ⟨rfl, .inl (by simpa using hf)⟩
theorem workF_true {ts : List S44} {cs : List S84} {ds : List S57} {p q r d0 : Int} {d1 : ByteArray} {d2 d3 : Int} (h : (workF ts cs ds p q r d0 d1 d2 d3).2.2.2.2.2.2 = true) : fleetB ts cs ds p q r = true ∧ ∃ ts' ds' p' q' r', doF ts cs ds p q r d0 d1 d2 d3 = some (ts', ds', p', q', r') ∧ clockB p' q' r' = true ∧ workF ts cs ds p q r d0 d1 d2 d3 = (ts', cs, ds', p', q', r', true) := by
  unfold workF at h ⊢
  by_cases hf : fleetB ts cs ds p q r = true
  · rw [if_pos hf] at h ⊢
    refine ⟨hf, ?_⟩
    cases hd : doF ts cs ds p q r d0 d1 d2 d3 with
    | none => rw [hd] at h; simp at h
    | some x =>
      obtain ⟨ts', ds', p', q', r'⟩ := x
      rw [hd] at h
      dsimp only at h
      by_cases hc : clockB p' q' r' = true
      · exact ⟨ts', ds', p', q', r', rfl, hc, by dsimp only; rw [if_pos hc]⟩
      · rw [if_neg hc] at h; simp at h
  · rw [if_neg hf] at h; simp at h
set_option maxHeartbeats 16000000 in
set_option maxRecDepth 100000 in
theorem dowork_t (A0 : Option Addr) (c0 : Nat) (l0 : List S44) (A1 : Option Addr) (c1 : Nat) (l1 : List S84) (A2 : Option Addr) (c2 : Nat) (l2 : List S57) (p q r d0 : Int) (d1 : ByteArray) (d2 d3 : Int) (w : World)
    (hr0 : Kd.C k44 w A0 l0.length l0) (hc0 : l0.length ≤ c0) (hr1 : Kd.C k84 w A1 l1.length l1) (hc1 : l1.length ≤ c1) (hr2 : Kd.C k57 w A2 l2.length l2) (hc2 : l2.length ≤ c2) (hz : FleetSz l0 l1 l2) (hy : fleetCopyB l0 l1 l2 = true) (hd : d1.size ≤ 140737488355328) :
    Calls Try.prog 12 #[.agg #[.slice A0 l0.length c0, .slice A1 l1.length c1, .slice A2 l2.length c2, .int .i64 p, .int .i64 q, .int .i64 r], .agg #[.int .i64 d0, .string d1, .int .i64 d2, .int .i64 d3]] w fun e w' =>
      ∃ v0 v1 v2 : Value, e = .returned (.tuple #[.agg #[v0, v1, v2, .int .i64 (workF l0 l1 l2 p q r d0 d1 d2 d3).2.2.2.1, .int .i64 (workF l0 l1 l2 p q r d0 d1 d2 d3).2.2.2.2.1, .int .i64 (workF l0 l1 l2 p q r d0 d1 d2 d3).2.2.2.2.2.1], .bool (workF l0 l1 l2 p q r d0 d1 d2 d3).2.2.2.2.2.2]) ∧
        Kd.R k44 44 w' w.heap.size (fun _ => True) v0 (workF l0 l1 l2 p q r d0 d1 d2 d3).1 ∧ Kd.R k84 84 w' w.heap.size (fun _ => True) v1 (workF l0 l1 l2 p q r d0 d1 d2 d3).2.1 ∧ Kd.R k57 57 w' w.heap.size (fun _ => True) v2 (workF l0 l1 l2 p q r d0 d1 d2 d3).2.2.1 ∧ Below w.heap.size w w' := by
  have hu1 := Try.underlying30
  have hu2 := Try.underlying42
  have hu3 := Try.underlying28
  have HC0 := Aside0.mk hr0
  have HC1 := Aside0.mk hr1
  have HC2 := Aside0.mk hr2
  have HZ := Aside0.mk hz
  have n1 := below_alloc (Below.refl w.heap.size w) (.cells #[.slice A0 l0.length c0, .slice A1 l1.length c1, .slice A2 l2.length c2, .int .i64 p, .int .i64 q, .int .i64 r] 30 (0, 0))
  have n2 := below_alloc n1 (.cells #[.int .i64 d0, .string d1, .int .i64 d2, .int .i64 d3] 42 (0, 0))
  have n3 := below_alloc n2 (.cells #[.slice none 0 0, .slice none 0 0, .slice none 0 0, .int .i64 0, .int .i64 0, .int .i64 0] 30 (0, 0))
  have m1 := blk_alloc (blk_alloc (blk_new w (.cells #[.slice A0 l0.length c0, .slice A1 l1.length c1, .slice A2 l2.length c2, .int .i64 p, .int .i64 q, .int .i64 r] 30 (0, 0))) (.cells #[.int .i64 d0, .string d1, .int .i64 d2, .int .i64 d3] 42 (0, 0))) (.cells #[.slice none 0 0, .slice none 0 0, .slice none 0 0, .int .i64 0, .int .i64 0, .int .i64 0] 30 (0, 0))
  have m2 := blk_alloc (blk_new (w.alloc (.cells #[.slice A0 l0.length c0, .slice A1 l1.length c1, .slice A2 l2.length c2, .int .i64 p, .int .i64 q, .int .i64 r] 30 (0, 0))) (.cells #[.int .i64 d0, .string d1, .int .i64 d2, .int .i64 d3] 42 (0, 0))) (.cells #[.slice none 0 0, .slice none 0 0, .slice none 0 0, .int .i64 0, .int .i64 0, .int .i64 0] 30 (0, 0))
  have m3 := blk_new ((w.alloc (.cells #[.slice A0 l0.length c0, .slice A1 l1.length c1, .slice A2 l2.length c2, .int .i64 p, .int .i64 q, .int .i64 r] 30 (0, 0))).alloc (.cells #[.int .i64 d0, .string d1, .int .i64 d2, .int .i64 d3] 42 (0, 0))) (.cells #[.slice none 0 0, .slice none 0 0, .slice none 0 0, .int .i64 0, .int .i64 0, .int .i64 0] 30 (0, 0))
  rw [World.size_alloc] at m2
  rw [World.size_alloc, World.size_alloc] at m3
  have HF := Aside0.mk (And.intro m1 (And.intro m2 (And.intro m3 n3)))
  have KC := Aside0.mk (fun w' (h : Below w.heap.size w w') => impl_cloneFleet.calls A0 c0 l0 A1 c1 l1 A2 c2 l2 p q r _ _ _ _ _ _ w' (Kd.C_below hr0 h) hc0 (Kd.C_below hr1 h) hc1 (Kd.C_below hr2 h) hc2 (clone_is l0 l1 l2 p q r hy))
  have KO := Aside0.mk (fun w' (h : Below w.heap.size w w') => impl_FleetOk.go A0 c0 l0 A1 c1 l1 A2 c2 l2 p q r w' (Kd.C_below hr0 h) hc0 (Kd.C_below hr1 h) hc1 (Kd.C_below hr2 h) hc2 hz)
  clear hr0 hr1 hr2 hy n1 n2 n3 m1 m2 m3 hz
  go_enter Try.func12, Try.ntmps12
  go_upto_region 1 with (fail)
  refine world_ (fun W => W.heap[w.heap.size]? = some (.cells #[.slice A0 l0.length c0, .slice A1 l1.length c1, .slice A2 l2.length c2, .int .i64 p, .int .i64 q, .int .i64 r] 30 (0, 0)) ∧ W.heap[w.heap.size + 1]? = some (.cells #[.int .i64 d0, .string d1, .int .i64 d2, .int .i64 d3] 42 (0, 0)) ∧ W.heap[w.heap.size + 1 + 1]? = some (.cells #[.slice none 0 0, .slice none 0 0, .slice none 0 0, .int .i64 0, .int .i64 0, .int .i64 0] 30 (0, 0)) ∧ Below w.heap.size w W) HF.out ?_
  clear HF
  rintro W ⟨BF, BD, BR, HB⟩
  replace BF := Aside0.mk BF
  replace BD := Aside0.mk BD
  replace BR := Aside0.mk BR
  replace HB := Aside0.mk HB
  obtain ⟨f0, f1, f2, f3, f4, f5⟩ := ck6 BF.out
  go_upto_region 2 with (first | (go_at_call 36; (with_reducible refine (KC.out _ HB.out).mono ?_); rintro e w5 ⟨v0, v1, v2, rfl, hR0, hR1, hR2, hb5⟩; obtain ⟨B0, b0, rfl⟩ := Kd.R_slice hR0; obtain ⟨B1, b1, rfl⟩ := Kd.R_slice hR1; obtain ⟨B2, b2, rfl⟩ := Kd.R_slice hR2; clear f0 f1 f2 f3 f4 f5))
  have hn := blk_new w5 (.cells #[.slice B0 l0.length b0, .slice B1 l1.length b1, .slice B2 l2.length b2, .int .i64 p, .int .i64 q, .int .i64 r] 30 (0, 0))
  have hm := below_alloc (Below.refl w5.heap.size w5) (.cells #[.slice B0 l0.length b0, .slice B1 l1.length b1, .slice B2 l2.length b2, .int .i64 p, .int .i64 q, .int .i64 r] 30 (0, 0))
  have hs0 := blk_lt (blk_below BF.out hb5)
  have hs1 := blk_lt (blk_below BD.out hb5)
  have hs2 := blk_lt (blk_below BR.out hb5)
  have HF := Aside0.mk (And.intro (blk_below (blk_below BF.out hb5) hm) (And.intro (blk_below (blk_below BD.out hb5) hm) (And.intro (blk_below (blk_below BR.out hb5) hm) (And.intro hn (And.intro (Kd.R_lower (Kd.R_below hR0 hm) HB.out.size) (And.intro (Kd.R_lower (Kd.R_below hR1 hm) HB.out.size) (And.intro (Kd.R_lower (Kd.R_below hR2 hm) HB.out.size) (And.intro (below_step (below_step HB.out hb5) hm) (And.intro hs0 (And.intro hs1 hs2))))))))))
  clear hn hm hs0 hs1 hs2 hR0 hR1 hR2 HB hb5 BF BD BR
  generalize w5.heap.size = g at HF ⊢
  refine world_ (fun W => W.heap[w.heap.size]? = some (.cells #[.slice A0 l0.length c0, .slice A1 l1.length c1, .slice A2 l2.length c2, .int .i64 p, .int .i64 q, .int .i64 r] 30 (0, 0)) ∧ W.heap[w.heap.size + 1]? = some (.cells #[.int .i64 d0, .string d1, .int .i64 d2, .int .i64 d3] 42 (0, 0)) ∧ W.heap[w.heap.size + 1 + 1]? = some (.cells #[.slice none 0 0, .slice none 0 0, .slice none 0 0, .int .i64 0, .int .i64 0, .int .i64 0] 30 (0, 0)) ∧ W.heap[g]? = some (.cells #[.slice B0 l0.length b0, .slice B1 l1.length b1, .slice B2 l2.length b2, .int .i64 p, .int .i64 q, .int .i64 r] 30 (0, 0)) ∧ Kd.R k44 44 W w.heap.size (fun _ => True) (.slice B0 l0.length b0) l0 ∧ Kd.R k84 84 W w.heap.size (fun _ => True) (.slice B1 l1.length b1) l1 ∧ Kd.R k57 57 W w.heap.size (fun _ => True) (.slice B2 l2.length b2) l2 ∧ Below w.heap.size w W ∧ w.heap.size < g ∧ w.heap.size + 1 < g ∧ w.heap.size + 1 + 1 < g) HF.out ?_
  clear HF
  rintro W6 ⟨BF, BD, BR, BG, HR0, HR1, HR2, HB, g0, g1, g2⟩
  replace BF := Aside0.mk BF
  replace BD := Aside0.mk BD
  replace BR := Aside0.mk BR
  replace BG := Aside0.mk BG
  replace HR0 := Aside0.mk HR0
  replace HR1 := Aside0.mk HR1
  replace HR2 := Aside0.mk HR2
  replace HB := Aside0.mk HB
  obtain ⟨f0, f1, f2, f3, f4, f5⟩ := ck6 BF.out
  have KD := Aside0.mk (fun (hok : fleetB l0 l1 l2 p q r = true) w' (h : Below W6.heap.size W6 w') => do_t w g (.slice B0 l0.length b0) (.slice B1 l1.length b1) (.slice B2 l2.length b2) l0 l1 l2 p q r d0 d1 d2 d3 w' (blk_below BG.out h) (Nat.le_of_lt g0) (below_step HB.out h) (Kd.R_below HR0.out h) (Kd.R_below HR1.out h) (Kd.R_below HR2.out h) hd HZ.out hok)
  by_cases hw : (workF l0 l1 l2 p q r d0 d1 d2 d3).2.2.2.2.2.2 = true
  · obtain ⟨hok, ts, ds, p', q', r', hD, hcl, hW⟩ := workF_true hw
    have KD := Aside0.mk (KD.out hok)
    have KK := Aside0.mk (fun w' => kb_ (clock_t p' q' r' w') hcl)
    rw [hok] at KO
    rw [hD] at KD
    have HW := Aside0.mk hW
    clear hW hcl hD hok hw
    go_upto_region 4 with (first | (go_at_call 8; (with_reducible refine (KO.out _ HB.out).mono ?_); rintro e w7 ⟨rfl, hb7⟩; clear f0 f1 f2 f3 f4 f5; obtain ⟨x0, x1, x2, x3⟩ := ck4 (blk_below BD.out hb7)) | (go_at_call 37; (with_reducible refine (KD.out _ hb7).mono ?_); rintro e w8 ⟨rfl, hO, hB8, hI⟩; obtain ⟨v0, v2, hG8, hR0, hR1, hR2⟩ := hI _ _ _ _ _ rfl; obtain ⟨f3', f4', f5'⟩ := (ck6 hG8).2.2.2) | (go_at_call 9; (with_reducible refine (KK.out _).mono ?_); rintro e w9 ⟨rfl, hb9⟩))
    have HF := Aside0.mk (And.intro (blk_below (blk_only (blk_below BR.out hb7) hO (Nat.ne_of_lt g2) (by decide)) hb9) (And.intro (blk_below hG8 hb9) (And.intro (Kd.R_below hR0 hb9) (And.intro (Kd.R_below hR1 hb9) (And.intro (Kd.R_below hR2 hb9) (below_step hB8 hb9))))))
    obtain ⟨Y0, y0, rfl⟩ := Kd.R_slice hR0
    obtain ⟨Y2, y2, rfl⟩ := Kd.R_slice hR2
    clear hI hO hG8 hR0 hR1 hR2 hB8 hb9 hb7 f3' f4' f5' x0 x1 x2 x3 KO KD KK BF BD BR BG HR0 HR1 HR2 HB
    obtain ⟨BR5, hG, hR0, hR1, hR2, hB⟩ := HF.out
    clear HF
    have HG := Aside0.mk hG
    have BR6 := Aside0.mk BR5
    have HB := Aside0.mk hB
    have HR := Aside0.mk (And.intro hR0 (And.intro hR1 hR2))
    obtain ⟨f0, f1, f2, f3, f4, f5⟩ := ck6 hG
    clear hG hB hR0 hR1 hR2
    go_wp2_with (first | ((with_reducible refine gate_store (t := 30) (p := 4) rfl ?_); refine stm_ 30 4 (.tmp 25) (w.heap.size + 1 + 1) 0 #[.slice Y0 ts.length y0, .slice B1 l1.length b1, .slice Y2 ds.length y2, .int .i64 p', .int .i64 q', .int .i64 r'] #[.slice none 0 0, .slice none 0 0, .slice none 0 0, .int .i64 0, .int .i64 0, .int .i64 0] #[.slice Y0 ts.length y0, .slice B1 l1.length b1, .slice Y2 ds.length y2, .int .i64 p', .int .i64 q', .int .i64 r'] 30 ?e1 ?e2 ?e3 ?e4 ?e5 ?e6 ?e7 ?e8 ?e9 ?e10 ?_; (case e1 => rfl); (case e2 => rfl); (case e3 => rfl); (case e4 => rfl); (case e5 => rfl); (case e6 => exact BR5); (case e7 => kernel_rfl); (case e8 => exact Nat.le_of_ble_eq_true rfl); (case e9 => kernel_rfl); (case e10 => kernel_rfl); intro w6 hn6 hg6))
    refine bodyPost_ret (results_ct rfl _ _ (w.heap.size + 1 + 1) 30 #[.slice Y0 ts.length y0, .slice B1 l1.length b1, .slice Y2 ds.length y2, .int .i64 p', .int .i64 q', .int .i64 r'] (0, 0) _ rfl hn6 Try.underlying30 rfl (by kernel_rfl)) rfl ?_
    rw [HW.out]
    exact ⟨_, _, _, rfl, r_put HR.out.1 BR6.out (by decide) hg6, r_put HR.out.2.1 BR6.out (by decide) hg6, r_put HR.out.2.2 BR6.out (by decide) hg6, b_put HB.out hg6 (by omega)⟩
  · obtain ⟨hW, hE⟩ := workF_false hw
    have HW := Aside0.mk hW
    clear hW hw
    refine Or.elim hE (fun h => ?c1) (fun h => Or.elim h (fun h => ?c2) (fun h => ?c3))
    case' c1 =>
      rw [h] at KO
      clear hE h KD
      go_upto_region 3 with (first | (go_at_call 8; (with_reducible refine (KO.out _ HB.out).mono ?_); rintro e w7 ⟨rfl, hb7⟩; clear f0 f1 f2 f3 f4 f5; obtain ⟨x0, x1, x2, x3⟩ := ck4 (blk_below BD.out hb7)))
      refine world_ (fun W => W.heap[w.heap.size]? = some (.cells #[.slice A0 l0.length c0, .slice A1 l1.length c1, .slice A2 l2.length c2, .int .i64 p, .int .i64 q, .int .i64 r] 30 (0, 0)) ∧ W.heap[w.heap.size + 1 + 1]? = some (.cells #[.slice none 0 0, .slice none 0 0, .slice none 0 0, .int .i64 0, .int .i64 0, .int .i64 0] 30 (0, 0)) ∧ Below w.heap.size w W) ⟨blk_below BF.out hb7, blk_below BR.out hb7, below_step HB.out hb7⟩ ?_
      clear hb7
    case' c2 =>
      have KD := Aside0.mk (KD.out h.1)
      rw [h.1] at KO
      rw [h.2] at KD
      clear hE h
      go_upto_region 3 with (first | (go_at_call 8; (with_reducible refine (KO.out _ HB.out).mono ?_); rintro e w7 ⟨rfl, hb7⟩; clear f0 f1 f2 f3 f4 f5; obtain ⟨x0, x1, x2, x3⟩ := ck4 (blk_below BD.out hb7)) | (go_at_call 37; (with_reducible refine (KD.out _ hb7).mono ?_); rintro e w8 ⟨rfl, hO, hB8, hI⟩))
      refine world_ (fun W => W.heap[w.heap.size]? = some (.cells #[.slice A0 l0.length c0, .slice A1 l1.length c1, .slice A2 l2.length c2, .int .i64 p, .int .i64 q, .int .i64 r] 30 (0, 0)) ∧ W.heap[w.heap.size + 1 + 1]? = some (.cells #[.slice none 0 0, .slice none 0 0, .slice none 0 0, .int .i64 0, .int .i64 0, .int .i64 0] 30 (0, 0)) ∧ Below w.heap.size w W) ⟨blk_only (blk_below BF.out hb7) hO (Nat.ne_of_lt g0) (by decide), blk_only (blk_below BR.out hb7) hO (Nat.ne_of_lt g2) (by decide), hB8⟩ ?_
      clear hb7 hO hB8 hI
    case' c3 =>
      obtain ⟨hok, ts, ds, p', q', r', hD, hcl⟩ := h
      have KD := Aside0.mk (KD.out hok)
      have KK := Aside0.mk (fun w' => kb_ (clock_t p' q' r' w') hcl)
      rw [hok] at KO
      rw [hD] at KD
      clear hE hok hD hcl
      go_upto_region 3 with (first | (go_at_call 8; (with_reducible refine (KO.out _ HB.out).mono ?_); rintro e w7 ⟨rfl, hb7⟩; clear f0 f1 f2 f3 f4 f5; obtain ⟨x0, x1, x2, x3⟩ := ck4 (blk_below BD.out hb7)) | (go_at_call 37; (with_reducible refine (KD.out _ hb7).mono ?_); rintro e w8 ⟨rfl, hO, hB8, hI⟩; obtain ⟨v0, v2, hG8, hR0, hR1, hR2⟩ := hI _ _ _ _ _ rfl; obtain ⟨f3', f4', f5'⟩ := (ck6 hG8).2.2.2) | (go_at_call 9; (with_reducible refine (KK.out _).mono ?_); rintro e w9 ⟨rfl, hb9⟩))
      refine world_ (fun W => W.heap[w.heap.size]? = some (.cells #[.slice A0 l0.length c0, .slice A1 l1.length c1, .slice A2 l2.length c2, .int .i64 p, .int .i64 q, .int .i64 r] 30 (0, 0)) ∧ W.heap[w.heap.size + 1 + 1]? = some (.cells #[.slice none 0 0, .slice none 0 0, .slice none 0 0, .int .i64 0, .int .i64 0, .int .i64 0] 30 (0, 0)) ∧ Below w.heap.size w W) ⟨blk_below (blk_only (blk_below BF.out hb7) hO (Nat.ne_of_lt g0) (by decide)) hb9, blk_below (blk_only (blk_below BR.out hb7) hO (Nat.ne_of_lt g2) (by decide)) hb9, below_step hB8 hb9⟩ ?_
      clear hb7 hO hB8 hI hG8 hR0 hR1 hR2 hb9
    all_goals
      clear KO BF BD BR BG HR0 HR1 HR2 HB
      rintro W ⟨BF, BR, HB⟩
      replace BF := Aside0.mk BF
      replace BR := Aside0.mk BR
      replace HB := Aside0.mk HB
      obtain ⟨z0, z1, z2, z3, z4, z5⟩ := ck6 BF.out
      go_wp2_with (first | (go_at_call 36; (with_reducible refine (KC.out _ HB.out).mono ?_); rintro e w5 ⟨v0, v1, v2, rfl, hR0, hR1, hR2, hb5⟩; obtain ⟨Y0, y0, rfl⟩ := Kd.R_slice hR0; obtain ⟨Y1, y1, rfl⟩ := Kd.R_slice hR1; obtain ⟨Y2, y2, rfl⟩ := Kd.R_slice hR2; have BR5 := blk_below BR.out hb5) | ((with_reducible refine gate_store (t := 30) (p := 4) rfl ?_); refine stm_ 30 4 (.tmp 24) (w.heap.size + 1 + 1) 0 #[.slice Y0 l0.length y0, .slice Y1 l1.length y1, .slice Y2 l2.length y2, .int .i64 p, .int .i64 q, .int .i64 r] #[.slice none 0 0, .slice none 0 0, .slice none 0 0, .int .i64 0, .int .i64 0, .int .i64 0] #[.slice Y0 l0.length y0, .slice Y1 l1.length y1, .slice Y2 l2.length y2, .int .i64 p, .int .i64 q, .int .i64 r] 30 ?e1 ?e2 ?e3 ?e4 ?e5 ?e6 ?e7 ?e8 ?e9 ?e10 ?_; (case e1 => rfl); (case e2 => rfl); (case e3 => rfl); (case e4 => rfl); (case e5 => rfl); (case e6 => exact BR5); (case e7 => kernel_rfl); (case e8 => exact Nat.le_of_ble_eq_true rfl); (case e9 => kernel_rfl); (case e10 => kernel_rfl); intro w6 hn6 hg6))
      refine bodyPost_ret (results_ct rfl _ _ (w.heap.size + 1 + 1) 30 #[.slice Y0 l0.length y0, .slice Y1 l1.length y1, .slice Y2 l2.length y2, .int .i64 p, .int .i64 q, .int .i64 r] (0, 0) _ rfl hn6 Try.underlying30 rfl (by kernel_rfl)) rfl ?_
      rw [HW.out]
      exact ⟨_, _, _, rfl, Kd.R_lower (r_put hR0 BR5 (by decide) hg6) HB.out.size, Kd.R_lower (r_put hR1 BR5 (by decide) hg6) HB.out.size, Kd.R_lower (r_put hR2 BR5 (by decide) hg6) HB.out.size, b_put (below_step HB.out hb5) hg6 (by omega)⟩
def impl_DoWork.f (l0_0 : List S44) (l0_1 : List S84) (l0_2 : List S57) (a0_3 a0_4 a0_5 a1_0 : Int) (a1_1 : ByteArray) (a1_2 a1_3 : Int) : Option (List S44 × List S84 × List S57 × Int × Int × Int × Bool) := if (fleetSzB l0_0 l0_1 l0_2 && (fleetCopyB l0_0 l0_1 l0_2 && decide (a1_1.size ≤ 140737488355328))) = true then some (workF l0_0 l0_1 l0_2 a0_3 a0_4 a0_5 a1_0 a1_1 a1_2 a1_3) else none
theorem impl_DoWork.calls (A0_0 : Option Addr) (c0_0 : Nat) (l0_0 : List (S44)) (A0_1 : Option Addr) (c0_1 : Nat) (l0_1 : List (S84)) (A0_2 : Option Addr) (c0_2 : Nat) (l0_2 : List (S57)) (a0_3 : Int) (a0_4 : Int) (a0_5 : Int) (a1_0 : Int) (a1_1 : ByteArray) (a1_2 : Int) (a1_3 : Int) (r1 : List (S44)) (r2 : List (S84)) (r3 : List (S57)) (r4 : Int) (r5 : Int) (r6 : Int) (r7 : Bool) (w : World) (hr0_0 : Kd.C k44 w A0_0 l0_0.length l0_0) (hc0_0 : l0_0.length ≤ c0_0) (hr0_1 : Kd.C k84 w A0_1 l0_1.length l0_1) (hc0_1 : l0_1.length ≤ c0_1) (hr0_2 : Kd.C k57 w A0_2 l0_2.length l0_2) (hc0_2 : l0_2.length ≤ c0_2) (h : impl_DoWork.f l0_0 l0_1 l0_2 a0_3 a0_4 a0_5 a1_0 a1_1 a1_2 a1_3 = some (r1, r2, r3, r4, r5, r6, r7)) :
    Calls Try.prog 12 #[.agg #[.slice A0_0 l0_0.length c0_0, .slice A0_1 l0_1.length c0_1, .slice A0_2 l0_2.length c0_2, .int .i64 a0_3, .int .i64 a0_4, .int .i64 a0_5], .agg #[.int .i64 a1_0, .string a1_1, .int .i64 a1_2, .int .i64 a1_3]] w fun e w' => ∃ v0_ v1_ v2_ : Value, e = .returned (.tuple #[.agg #[v0_, v1_, v2_, .int .i64 r4, .int .i64 r5, .int .i64 r6], .bool r7]) ∧ Kd.R k44 44 w' w.heap.size (fun _ => True) v0_ r1 ∧ Kd.R k84 84 w' w.heap.size (fun _ => True) v1_ r2 ∧ Kd.R k57 57 w' w.heap.size (fun _ => True) v2_ r3 ∧ Below w.heap.size w w' := by
  unfold impl_DoWork.f at h
  by_cases hz : (fleetSzB l0_0 l0_1 l0_2 && (fleetCopyB l0_0 l0_1 l0_2 && decide (a1_1.size ≤ 140737488355328))) = true
  · rw [if_pos hz] at h
    have e := Option.some.inj h
    simp only [Bool.and_eq_true, decide_eq_true_eq] at hz
    have c := dowork_t A0_0 c0_0 l0_0 A0_1 c0_1 l0_1 A0_2 c0_2 l0_2 a0_3 a0_4 a0_5 a1_0 a1_1 a1_2 a1_3 w hr0_0 hc0_0 hr0_1 hc0_1 hr0_2 hc0_2 (fleetSz_of.1 hz.1) hz.2.1 hz.2.2
    rw [e] at c
    exact c
  · rw [if_neg hz] at h
    exact absurd h (by simp)
-- HAND TO

/-! ### impl_RunWork: function 15 -/
def impl_RunWork.l0 : Nat → List Bool → List (S42) → Int → Int → List (S44) → List (S84) → List (S57) → Int → Int → Int → Option ((List (S44)) × (List (S84)) × (List (S57)) × Int × Int × Int × List Bool)
 | 0, _, _, _, _, _, _, _, _, _, _ => none
 | k + 1, x7, x19, x20, x21, x430000, x430001, x430002, x430003, x430004, x430005 => if x21 < x20 then (if 0 ≤ x21 then (if x21 < (x19.length : Int) then ((impl_DoWork.f x430000 x430001 x430002 x430003 x430004 x430005 ((rd_T42 x19 x21).f0) ((rd_T42 x19 x21).f1) ((rd_T42 x19 x21).f2) ((rd_T42 x19 x21).f3)).bind fun bt432 => (if x7.length < 140737488355328 then (impl_RunWork.l0 k (x7 ++ [bt432.2.2.2.2.2.2]) x19 x20 (wrap64 (x21 + 1)) bt432.1 bt432.2.1 bt432.2.2.1 bt432.2.2.2.1 bt432.2.2.2.2.1 bt432.2.2.2.2.2.1) else (none))) else (none)) else (none)) else (some (x430000, x430001, x430002, x430003, x430004, x430005, x7))
def impl_RunWork.f (k : Nat) (l0_0 : List (S44)) (l0_1 : List (S84)) (l0_2 : List (S57)) (a0_3 : Int) (a0_4 : Int) (a0_5 : Int) (l1 : List (S42)) : Option ((List (S44)) × (List (S84)) × (List (S57)) × Int × Int × Int × List Bool) := (impl_cloneFleet.f l0_0 l0_1 l0_2 a0_3 a0_4 a0_5).bind fun bt414 => (if (l1.length : Int) > 100 then (some (bt414.1, bt414.2.1, bt414.2.2.1, bt414.2.2.2.1, bt414.2.2.2.2.1, bt414.2.2.2.2.2, ([] : List Bool))) else (impl_RunWork.l0 k (([] : List Bool)) l1 (l1.length : Int) 0 bt414.1 bt414.2.1 bt414.2.2.1 bt414.2.2.2.1 bt414.2.2.2.2.1 bt414.2.2.2.2.2))
theorem impl_RunWork.mono_l : ∀ k, (∀ y0 y1 y2 y3 y4 y5 y6 y7 y8 y9, LeO (impl_RunWork.l0 k y0 y1 y2 y3 y4 y5 y6 y7 y8 y9) (impl_RunWork.l0 (k + 1) y0 y1 y2 y3 y4 y5 y6 y7 y8 y9))
 | 0 => fun _ _ _ _ _ _ _ _ _ _ r h => by simp [impl_RunWork.l0] at h
 | k + 1 => by
  have ih0 := impl_RunWork.mono_l k
  ·
   intro y0 y1 y2 y3 y4 y5 y6 y7 y8 y9
   unfold impl_RunWork.l0
   repeat' first
   | (with_reducible exact ih0 _ _ _ _ _ _ _ _ _ _)
   | (with_reducible exact LeO.refl _)
   | (with_reducible exact LeO.none _)
   | (with_reducible refine LeO.ite ?_ ?_)
   | (with_reducible refine LeO.bind ?_ (fun _ => ?_))
   | exact ih0 _ _ _ _ _ _ _ _ _ _
   | exact LeO.none _
   | refine LeO.ite ?_ ?_
   | refine LeO.bind ?_ (fun _ => ?_)
theorem impl_RunWork.mono : ∀ a0 a1 a2 a3 a4 a5 a6 k, LeO (impl_RunWork.f k a0 a1 a2 a3 a4 a5 a6) (impl_RunWork.f (k + 1) a0 a1 a2 a3 a4 a5 a6) := by
 intro a0 a1 a2 a3 a4 a5 a6 k
 have ih0 := impl_RunWork.mono_l k
 unfold impl_RunWork.f
 repeat' first
   | (with_reducible exact ih0 _ _ _ _ _ _ _ _ _ _)
   | (with_reducible exact LeO.refl _)
   | (with_reducible exact LeO.none _)
   | (with_reducible refine LeO.ite ?_ ?_)
   | (with_reducible refine LeO.bind ?_ (fun _ => ?_))
   | exact ih0 _ _ _ _ _ _ _ _ _ _
   | exact LeO.none _
   | refine LeO.ite ?_ ?_
   | refine LeO.bind ?_ (fun _ => ?_)
set_option maxHeartbeats 8000000 in
set_option maxRecDepth 100000 in
theorem impl_RunWork.calls (k : Nat) (A0_0 : Option Addr) (c0_0 : Nat) (l0_0 : List (S44)) (A0_1 : Option Addr) (c0_1 : Nat) (l0_1 : List (S84)) (A0_2 : Option Addr) (c0_2 : Nat) (l0_2 : List (S57)) (a0_3 : Int) (a0_4 : Int) (a0_5 : Int) (A1 : Option Addr) (c1 : Nat) (l1 : List (S42)) (r1 : List (S44)) (r2 : List (S84)) (r3 : List (S57)) (r4 : Int) (r5 : Int) (r6 : Int) (r7 : List Bool) (w : World) (hr0_0 : Kd.C k44 w A0_0 l0_0.length l0_0) (hc0_0 : l0_0.length ≤ c0_0) (hr0_1 : Kd.C k84 w A0_1 l0_1.length l0_1) (hc0_1 : l0_1.length ≤ c0_1) (hr0_2 : Kd.C k57 w A0_2 l0_2.length l0_2) (hc0_2 : l0_2.length ≤ c0_2) (hr1 : Kd.C k42 w A1 l1.length l1) (hc1 : l1.length ≤ c1) (h : impl_RunWork.f k l0_0 l0_1 l0_2 a0_3 a0_4 a0_5 l1 = some (r1, r2, r3, r4, r5, r6, r7)) :
  Calls Try.prog 15 #[.agg #[.slice A0_0 l0_0.length c0_0, .slice A0_1 l0_1.length c0_1, .slice A0_2 l0_2.length c0_2, .int .i64 a0_3, .int .i64 a0_4, .int .i64 a0_5], .slice A1 l1.length c1] w fun e w' => ∃ v0_ v1_ v2_ v6_ : Value, e = .returned (.tuple #[.agg #[v0_, v1_, v2_, .int .i64 r4, .int .i64 r5, .int .i64 r6], v6_]) ∧ Kd.R k44 44 w' w.heap.size (fun _ => True) v0_ r1 ∧ Kd.R k84 84 w' w.heap.size (fun _ => True) v1_ r2 ∧ Kd.R k57 57 w' w.heap.size (fun _ => True) v2_ r3 ∧ Kd.R Kd.bool 4 w' w.heap.size (fun _ => True) v6_ r7 ∧ Below w.heap.size w w' := by
 have hu30 := Try.underlying30
 have hu42 := Try.underlying42
 have HR0_0 := Aside0.mk hr0_0
 have HC0_0 := Aside0.mk hc0_0
 clear hr0_0 hc0_0
 have HR0_1 := Aside0.mk hr0_1
 have HC0_1 := Aside0.mk hc0_1
 clear hr0_1 hc0_1
 have HR0_2 := Aside0.mk hr0_2
 have HC0_2 := Aside0.mk hc0_2
 clear hr0_2 hc0_2
 have HR1 := Aside0.mk hr1
 have HC1 := Aside0.mk hc1
 clear hr1 hc1
 have HB := Aside0.mk (Below.refl w.heap.size w)
 have H : ((impl_cloneFleet.f l0_0 l0_1 l0_2 a0_3 a0_4 a0_5).bind fun bt414 => (if (l1.length : Int) > 100 then (some (bt414.1, bt414.2.1, bt414.2.2.1, bt414.2.2.2.1, bt414.2.2.2.2.1, bt414.2.2.2.2.2, ([] : List Bool))) else (impl_RunWork.l0 k (([] : List Bool)) l1 (l1.length : Int) 0 bt414.1 bt414.2.1 bt414.2.2.1 bt414.2.2.2.1 bt414.2.2.2.2.1 bt414.2.2.2.2.2))) = some (r1, r2, r3, r4, r5, r6, r7) := h
 clear h
 replace H := Option.bind_eq_some_iff.mp H
 obtain ⟨⟨t414, t417, t420, t423, t424, t425⟩, A30, H⟩ := H
 replace H : (if (l1.length : Int) > 100 then (some (t414, t417, t420, t423, t424, t425, ([] : List Bool))) else (impl_RunWork.l0 k (([] : List Bool)) l1 (l1.length : Int) 0 t414 t417 t420 t423 t424 t425)) = some (r1, r2, r3, r4, r5, r6, r7) := H
 have A3 := Aside0.mk A30
 clear A30
 obtain ⟨y426, hy426⟩ : ∃ y_ : List Bool, y_ = (([] : List Bool)) := ⟨_, rfl⟩
 replace H : (if (l1.length : Int) > 100 then (some (t414, t417, t420, t423, t424, t425, ([] : List Bool))) else (impl_RunWork.l0 k y426 l1 (l1.length : Int) 0 t414 t417 t420 t423 t424 t425)) = some (r1, r2, r3, r4, r5, r6, r7) := by first | (rw [hy426]; with_reducible exact H) | (have H2_ := (Option.bind_some _ _).symm.trans H; rw [hy426]; with_reducible exact H2_) | (have H2_ := (Option.bind_some _ _).symm.trans H; with_reducible exact H2_) | with_reducible exact H | (rw [hy426]; exact H) | exact H
 have Ny426 := Aside0.mk hy426
 clear hy426
 have HC4 := Aside0.mk H
 clear H
 go_enter Try.func15, Try.ntmps15
 go_upto_if 17 with (first | ((with_reducible refine gate_dst (N := 2) rfl ?_); refine box_event ?hg (N := 2) ?hd (cs := #[.slice A0_0 l0_0.length c0_0, .slice A0_1 l0_1.length c0_1, .slice A0_2 l0_2.length c0_2, .int .i64 a0_3, .int .i64 a0_4, .int .i64 a0_5]) (t := 30) ?hr ?_; (case hd => rfl); (case hg => rfl); (case hr => first | (go_simp; done) | (go_simp; rfl)); intro gb412 hg w5 hbox hb; have BK412 := Aside0.mk (hbox); have GW412 := Aside0.mk ((by rw [hg]; exact (below_size (bl HB.out)) : w.heap.size ≤ gb412)); have GE412 := GW412; replace HB := Aside0.mk (below_step (bl HB.out) hb); clear hb hbox hg) | ((with_reducible refine gate_dst (N := 4) rfl ?_); refine box_event ?hg (N := 4) ?hd (cs := #[.slice none 0 0, .slice none 0 0, .slice none 0 0, .int .i64 0, .int .i64 0, .int .i64 0]) (t := 30) ?hr ?_; (case hd => rfl); (case hg => rfl); (case hr => first | (go_simp; done) | (go_simp; rfl)); intro gb413 hg w6 hbox hb; have BK413 := Aside0.mk (hbox); have GW413 := Aside0.mk ((by rw [hg]; exact (below_size (by repeat with_reducible first | exact bl HB.out | refine below_set ?_ GE412.out | refine bq ?_)) : w.heap.size ≤ gb413)); have GE413 := GW413; replace HB := Aside0.mk (below_step (by repeat with_reducible first | exact bl HB.out | refine below_set ?_ GE412.out | refine bq ?_) hb); have NB412_413 := nb_ hg BK412.out; have NB413_412 := Aside0.mk NB412_413.out.symm; replace BK412 := Aside0.mk (blk_below (bk BK412.out) hb); clear hb hbox hg; have hnb7 := NB412_413.out; have hnc7 := NB413_412.out; obtain ⟨hcz8_0, hcz8_1, hcz8_2, hcz8_3, hcz8_4, hcz8_5⟩ := ck6 BK412.out; obtain ⟨hfz8_0, hfz8_1, hfz8_2, hfz8_3, hfz8_4, hfz8_5⟩ := fz6 BK412.out) | ((with_reducible refine gate_callee (f := 36) rfl ?_); refine goesL_ (some 13) rfl rfl Try.func36 (by kernel_rfl) rfl #[.agg #[.slice A0_0 l0_0.length c0_0, .slice A0_1 l0_1.length c0_1, .slice A0_2 l0_2.length c0_2, .int .i64 a0_3, .int .i64 a0_4, .int .i64 a0_5]] rfl (by (try simp only [am_]); first | done | rfl) ?_; (with_reducible refine (impl_cloneFleet.calls _ _ l0_0 _ _ l0_1 _ _ l0_2 a0_3 a0_4 a0_5 t414 t417 t420 t423 t424 t425 _ ?side1 ?side2 ?side3 ?side4 ?side5 ?side6 A3.out).mono ?_); (case side1 => exact rc (Kd.C_below HR0_0.out HB.out)); (case side2 => exact HC0_0.out); (case side3 => exact rc (Kd.C_below HR0_1.out HB.out)); (case side4 => exact HC0_1.out); (case side5 => exact rc (Kd.C_below HR0_2.out HB.out)); (case side6 => exact HC0_2.out); rintro e w9 ⟨v415, v418, v421, rfl, ho0, ho1, ho2, hb⟩; refine ⟨_, rfl, ?_⟩; have HO416 := Aside0.mk (Kd.R_lower ho0 (below_size (by repeat with_reducible first | exact bl HB.out | refine below_set ?_ GE412.out | refine below_set ?_ GE413.out | refine bq ?_))); have HO419 := Aside0.mk (Kd.R_lower ho1 (below_size (by repeat with_reducible first | exact bl HB.out | refine below_set ?_ GE412.out | refine below_set ?_ GE413.out | refine bq ?_))); have HO422 := Aside0.mk (Kd.R_lower ho2 (below_size (by repeat with_reducible first | exact bl HB.out | refine below_set ?_ GE412.out | refine below_set ?_ GE413.out | refine bq ?_))); replace BK412 := Aside0.mk (blk_below (bk BK412.out) hb); replace BK413 := Aside0.mk (blk_below (bk BK413.out) hb); replace HB := Aside0.mk (below_step (by repeat with_reducible first | exact bl HB.out | refine below_set ?_ GE412.out | refine below_set ?_ GE413.out | refine bq ?_) hb); (try clear hb); (try clear hb2); (try clear hk); (try clear hi); (try clear ho0); (try clear ho1); (try clear ho2)) | ((with_reducible refine gate_dst (N := 14) rfl ?_); refine Kd.R_lit Kd.bool _ 4 ?hg (N := 14) ?hd (xs := ([] : List Bool)) (inner := []) (ok := fun _ => True) (okp := fun _ => True) ?hr ?hp (fun _ hk => hk) trivial (Below.refl _ _) (Nat.le_refl _) (by simp) ?_; (case hd => rfl); (case hg => rfl); (case hr => first | (go_simp; done) | (go_simp; rfl)); (case hp => exact (Reps.none _ _)); intro v427 w10 ho11 hb hg_ hnew_; clear hg_ hnew_; (first | rw [← Ny426.out] at ho11 | (simp only [Int.reduceToNat] at ho11; rw [← Ny426.out] at ho11)); replace HO416 := Aside0.mk (Kd.R_below (rl HO416.out) hb); replace HO419 := Aside0.mk (Kd.R_below (rl HO419.out) hb); replace HO422 := Aside0.mk (Kd.R_below (rl HO422.out) hb); have HO428 := Aside0.mk (Kd.R_lower ho11 (below_size (by repeat with_reducible first | exact bl HB.out | refine below_set ?_ GE412.out | refine below_set ?_ GE413.out | refine bq ?_))); replace BK412 := Aside0.mk (blk_below (bk BK412.out) hb); replace BK413 := Aside0.mk (blk_below (bk BK413.out) hb); replace HB := Aside0.mk (below_step (by repeat with_reducible first | exact bl HB.out | refine below_set ?_ GE412.out | refine below_set ?_ GE413.out | refine bq ?_) hb); clear hb ho11) | ((with_reducible refine gate_dst (N := 6) rfl ?_); refine box_event ?hg (N := 6) ?hd (cs := #[.slice none 0 0, .slice none 0 0, .slice none 0 0, .int .i64 0, .int .i64 0, .int .i64 0]) (t := 30) ?hr ?_; (case hd => rfl); (case hg => rfl); (case hr => first | (go_simp; done) | (go_simp; rfl)); intro gb429 hg w12 hbox hb; replace HO416 := Aside0.mk (Kd.R_below (rl HO416.out) hb); replace HO419 := Aside0.mk (Kd.R_below (rl HO419.out) hb); replace HO422 := Aside0.mk (Kd.R_below (rl HO422.out) hb); replace HO428 := Aside0.mk (Kd.R_below (rl HO428.out) hb); have BK429 := Aside0.mk (hbox); have GW429 := Aside0.mk ((by rw [hg]; exact (below_size (by repeat with_reducible first | exact bl HB.out | refine below_set ?_ GE412.out | refine below_set ?_ GE413.out | refine bq ?_)) : w.heap.size ≤ gb429)); have GE429 := GW429; replace HB := Aside0.mk (below_step (by repeat with_reducible first | exact bl HB.out | refine below_set ?_ GE412.out | refine below_set ?_ GE413.out | refine bq ?_) hb); have NB412_429 := nb_ hg BK412.out; have NB429_412 := Aside0.mk NB412_429.out.symm; replace BK412 := Aside0.mk (blk_below (bk BK412.out) hb); have NB413_429 := nb_ hg BK413.out; have NB429_413 := Aside0.mk NB413_429.out.symm; replace BK413 := Aside0.mk (blk_below (bk BK413.out) hb); clear hb hbox hg; obtain ⟨Ao13, co13, eo13⟩ := Kd.R_slice HO416.out; subst eo13; have hnb14 := NB429_412.out; have hnc14 := NB412_429.out; have hnb15 := NB429_413.out; have hnc15 := NB413_429.out; obtain ⟨hcz16_0, hcz16_1, hcz16_2, hcz16_3, hcz16_4, hcz16_5⟩ := ck6 BK429.out; obtain ⟨hfz16_0, hfz16_1, hfz16_2, hfz16_3, hfz16_4, hfz16_5⟩ := fz6 BK429.out; obtain ⟨Ao17, co17, eo17⟩ := Kd.R_slice HO419.out; subst eo17; obtain ⟨Ao18, co18, eo18⟩ := Kd.R_slice HO422.out; subst eo18))
 have H := HC4.out
 clear HC4
 by_cases c19 : (l1.length : Int) > 100
 ·
  rw [if_pos c19] at H
  have c19b0 : decide (100 < (l1.length : Int)) = true := decide_eq_true c19
  have c19b1 : decide (100 < l1.length) = true := decide_eq_true (by omega)
  clear c19
  (first | rw [c19b0] | (simp only [i64_w, i32_w]; rw [c19b0]) | rw [c19b1] | skip)
  simp only [Option.some.injEq, Prod.mk.injEq] at H
  obtain ⟨rfl, rfl, rfl, rfl, rfl, rfl, rfl⟩ := H
  have hnb20 := NB429_412.out
  have hnc20 := NB412_429.out
  have hnb21 := NB429_413.out
  have hnc21 := NB413_429.out
  obtain ⟨hcz22_0, hcz22_1, hcz22_2, hcz22_3, hcz22_4, hcz22_5⟩ := ck6 BK429.out
  obtain ⟨hfz22_0, hfz22_1, hfz22_2, hfz22_3, hfz22_4, hfz22_5⟩ := fz6 BK429.out
  have hnb23 := NB413_412.out
  have hnc23 := NB412_413.out
  obtain ⟨hcz24_0, hcz24_1, hcz24_2, hcz24_3, hcz24_4, hcz24_5⟩ := ck6 BK413.out
  obtain ⟨hfz24_0, hfz24_1, hfz24_2, hfz24_3, hfz24_4, hfz24_5⟩ := fz6 BK413.out
  go_wp2
  refine bodyPost_ret (results_ct rfl _ _ gb413 30 #[.slice Ao13 t414.length co13, .slice Ao17 t417.length co17, .slice Ao18 t420.length co18, .int .i64 t423, .int .i64 t424, .int .i64 t425] (0, 0) _ rfl (by (repeat refine bk1 ?_); refine blk_put (cs := #[.slice Ao13 t414.length co13, .slice Ao17 t417.length co17, .slice Ao18 t420.length co18, .int .i64 t423, .int .i64 t424, .int .i64 0]) ?_ 5 _ rfl; (repeat refine bk1 ?_); refine blk_put (cs := #[.slice Ao13 t414.length co13, .slice Ao17 t417.length co17, .slice Ao18 t420.length co18, .int .i64 t423, .int .i64 0, .int .i64 0]) ?_ 4 _ rfl; (repeat refine bk1 ?_); refine blk_put (cs := #[.slice Ao13 t414.length co13, .slice Ao17 t417.length co17, .slice Ao18 t420.length co18, .int .i64 0, .int .i64 0, .int .i64 0]) ?_ 3 _ rfl; (repeat refine bk1 ?_); refine blk_put (cs := #[.slice Ao13 t414.length co13, .slice Ao17 t417.length co17, .slice none 0 0, .int .i64 0, .int .i64 0, .int .i64 0]) ?_ 2 _ rfl; (repeat refine bk1 ?_); refine blk_put (cs := #[.slice Ao13 t414.length co13, .slice none 0 0, .slice none 0 0, .int .i64 0, .int .i64 0, .int .i64 0]) ?_ 1 _ rfl; (repeat refine bk1 ?_); refine blk_put (cs := #[.slice none 0 0, .slice none 0 0, .slice none 0 0, .int .i64 0, .int .i64 0, .int .i64 0]) ?_ 0 _ rfl; (repeat refine bk1 ?_); refine blk_far ?_ NB413_429.out _; (repeat refine bk1 ?_); refine blk_far ?_ NB413_429.out _; (repeat refine bk1 ?_); refine blk_far ?_ NB413_429.out _; (repeat refine bk1 ?_); refine blk_far ?_ NB413_429.out _; (repeat refine bk1 ?_); refine blk_far ?_ NB413_429.out _; (repeat refine bk1 ?_); refine blk_far ?_ NB413_429.out _; (repeat refine bk1 ?_); exact BK413.out) Try.underlying30 rfl (by kernel_rfl)) rfl ?_
  exact ⟨_, _, _, _, by first | rfl | (simp [errW_none, errW_some] <;> rfl) | (simp [*, errW_none, errW_some] <;> rfl), by (repeat apply rl1); exact Kd.R_mono (Kd.R_far (p := ⟨gb413, 5, none⟩) (Kd.R_far (p := ⟨gb413, 4, none⟩) (Kd.R_far (p := ⟨gb413, 3, none⟩) (Kd.R_far (p := ⟨gb413, 2, none⟩) (Kd.R_far (p := ⟨gb413, 1, none⟩) (Kd.R_far (p := ⟨gb413, 0, none⟩) (Kd.R_far (p := ⟨gb429, 5, none⟩) (Kd.R_far (p := ⟨gb429, 4, none⟩) (Kd.R_far (p := ⟨gb429, 3, none⟩) (Kd.R_far (p := ⟨gb429, 2, none⟩) (Kd.R_far (p := ⟨gb429, 1, none⟩) (Kd.R_far (p := ⟨gb429, 0, none⟩) (Kd.R_types (Kd.R_types HO416.out BK429.out (by decide)) BK413.out (by decide)) (fun _ hk => hk.1.2) (.slice Ao13 t414.length co13)) (fun _ hk => hk.1.2) (.slice Ao17 t417.length co17)) (fun _ hk => hk.1.2) (.slice Ao18 t420.length co18)) (fun _ hk => hk.1.2) (.int .i64 t423)) (fun _ hk => hk.1.2) (.int .i64 t424)) (fun _ hk => hk.1.2) (.int .i64 t425)) (fun _ hk => hk.2) (.slice Ao13 t414.length co13)) (fun _ hk => hk.2) (.slice Ao17 t417.length co17)) (fun _ hk => hk.2) (.slice Ao18 t420.length co18)) (fun _ hk => hk.2) (.int .i64 t423)) (fun _ hk => hk.2) (.int .i64 t424)) (fun _ hk => hk.2) (.int .i64 t425)) (fun _ hk => trivial), by (repeat apply rl1); exact Kd.R_mono (Kd.R_far (p := ⟨gb413, 5, none⟩) (Kd.R_far (p := ⟨gb413, 4, none⟩) (Kd.R_far (p := ⟨gb413, 3, none⟩) (Kd.R_far (p := ⟨gb413, 2, none⟩) (Kd.R_far (p := ⟨gb413, 1, none⟩) (Kd.R_far (p := ⟨gb413, 0, none⟩) (Kd.R_far (p := ⟨gb429, 5, none⟩) (Kd.R_far (p := ⟨gb429, 4, none⟩) (Kd.R_far (p := ⟨gb429, 3, none⟩) (Kd.R_far (p := ⟨gb429, 2, none⟩) (Kd.R_far (p := ⟨gb429, 1, none⟩) (Kd.R_far (p := ⟨gb429, 0, none⟩) (Kd.R_types (Kd.R_types HO419.out BK429.out (by decide)) BK413.out (by decide)) (fun _ hk => hk.1.2) (.slice Ao13 t414.length co13)) (fun _ hk => hk.1.2) (.slice Ao17 t417.length co17)) (fun _ hk => hk.1.2) (.slice Ao18 t420.length co18)) (fun _ hk => hk.1.2) (.int .i64 t423)) (fun _ hk => hk.1.2) (.int .i64 t424)) (fun _ hk => hk.1.2) (.int .i64 t425)) (fun _ hk => hk.2) (.slice Ao13 t414.length co13)) (fun _ hk => hk.2) (.slice Ao17 t417.length co17)) (fun _ hk => hk.2) (.slice Ao18 t420.length co18)) (fun _ hk => hk.2) (.int .i64 t423)) (fun _ hk => hk.2) (.int .i64 t424)) (fun _ hk => hk.2) (.int .i64 t425)) (fun _ hk => trivial), by (repeat apply rl1); exact Kd.R_mono (Kd.R_far (p := ⟨gb413, 5, none⟩) (Kd.R_far (p := ⟨gb413, 4, none⟩) (Kd.R_far (p := ⟨gb413, 3, none⟩) (Kd.R_far (p := ⟨gb413, 2, none⟩) (Kd.R_far (p := ⟨gb413, 1, none⟩) (Kd.R_far (p := ⟨gb413, 0, none⟩) (Kd.R_far (p := ⟨gb429, 5, none⟩) (Kd.R_far (p := ⟨gb429, 4, none⟩) (Kd.R_far (p := ⟨gb429, 3, none⟩) (Kd.R_far (p := ⟨gb429, 2, none⟩) (Kd.R_far (p := ⟨gb429, 1, none⟩) (Kd.R_far (p := ⟨gb429, 0, none⟩) (Kd.R_types (Kd.R_types HO422.out BK429.out (by decide)) BK413.out (by decide)) (fun _ hk => hk.1.2) (.slice Ao13 t414.length co13)) (fun _ hk => hk.1.2) (.slice Ao17 t417.length co17)) (fun _ hk => hk.1.2) (.slice Ao18 t420.length co18)) (fun _ hk => hk.1.2) (.int .i64 t423)) (fun _ hk => hk.1.2) (.int .i64 t424)) (fun _ hk => hk.1.2) (.int .i64 t425)) (fun _ hk => hk.2) (.slice Ao13 t414.length co13)) (fun _ hk => hk.2) (.slice Ao17 t417.length co17)) (fun _ hk => hk.2) (.slice Ao18 t420.length co18)) (fun _ hk => hk.2) (.int .i64 t423)) (fun _ hk => hk.2) (.int .i64 t424)) (fun _ hk => hk.2) (.int .i64 t425)) (fun _ hk => trivial), by first | exact Kd.R_nil _ _ _ _ _ | exact Kd.N_nil _ _ _ _ _ | exact Kd.V_nil _ _ _ _ _ | exact Kd.Q_nil _ _ _ _ _ | exact Kd.S_nil _ _ _ _ _, by repeat with_reducible first | exact bl HB.out | refine below_set ?_ GE412.out | refine below_set ?_ GE413.out | refine below_set ?_ GE429.out | refine bq ?_⟩
 ·
  rw [if_neg c19] at H
  have c19b0 : decide (100 < (l1.length : Int)) = false := decide_eq_false c19
  have c19b1 : decide (100 < l1.length) = false := decide_eq_false (by omega)
  clear c19
  (first | rw [c19b0] | (simp only [i64_w, i32_w]; rw [c19b0]) | rw [c19b1] | skip)
  have H' := Aside0.mk H
  clear H
  go_wp2
  go_loopg [7, 21] k (fun kq v7 v21 w' => ∃ (x7_1 : List Bool) (x21_1 : Int) (x430000_1 : List (S44)) (x430001_1 : List (S84)) (x430002_1 : List (S57)) (x430003_1 : Int) (x430004_1 : Int) (x430005_1 : Int) (u430000 : Value) (u430001 : Value) (u430002 : Value), v21 = .int .i64 x21_1 ∧ Aside0 (impl_RunWork.l0 kq x7_1 l1 (l1.length : Int) x21_1 x430000_1 x430001_1 x430002_1 x430003_1 x430004_1 x430005_1 = some (r1, r2, r3, r4, r5, r6, r7)) ∧ Aside0 (kq ≤ k) ∧ Aside0 (Kd.R Kd.bool 4 w' w.heap.size (fun _ => True) v7 x7_1) ∧ Aside0 (Kd.R k44 44 w' w.heap.size (fun _ => True) u430000 x430000_1) ∧ Aside0 (Kd.R k84 84 w' w.heap.size (fun _ => True) u430001 x430001_1) ∧ Aside0 (Kd.R k57 57 w' w.heap.size (fun _ => True) u430002 x430002_1) ∧ Aside0 (w'.heap[gb412]? = some (.cells #[(.slice A0_0 l0_0.length c0_0), (.slice A0_1 l0_1.length c0_1), (.slice A0_2 l0_2.length c0_2), .int .i64 a0_3, .int .i64 a0_4, .int .i64 a0_5] 30 (0, 0))) ∧ Aside0 (w'.heap[gb413]? = some (.cells #[(.slice none 0 0), (.slice none 0 0), (.slice none 0 0), .int .i64 0, .int .i64 0, .int .i64 0] 30 (0, 0))) ∧ Aside0 (w'.heap[gb429]? = some (.cells #[u430000, u430001, u430002, .int .i64 x430003_1, .int .i64 x430004_1, .int .i64 x430005_1] 30 (0, 0))) ∧ Aside0 (Below w.heap.size w w'))
  case atStart => exact ⟨(y426), (0), (t414), (t417), (t420), (t423), (t424), (t425), (.slice Ao13 t414.length co13), (.slice Ao17 t417.length co17), (.slice Ao18 t420.length co18), (by first | rfl | (simp; done) | (simp [*]; done)), H', ⟨Nat.le_refl _⟩, ⟨by (repeat apply rl1); exact Kd.R_mono (Kd.R_far (p := ⟨gb429, 5, none⟩) (Kd.R_far (p := ⟨gb429, 4, none⟩) (Kd.R_far (p := ⟨gb429, 3, none⟩) (Kd.R_far (p := ⟨gb429, 2, none⟩) (Kd.R_far (p := ⟨gb429, 1, none⟩) (Kd.R_far (p := ⟨gb429, 0, none⟩) (Kd.R_types HO428.out BK429.out (by decide)) (fun _ hk => hk.2) (.slice Ao13 t414.length co13)) (fun _ hk => hk.2) (.slice Ao17 t417.length co17)) (fun _ hk => hk.2) (.slice Ao18 t420.length co18)) (fun _ hk => hk.2) (.int .i64 t423)) (fun _ hk => hk.2) (.int .i64 t424)) (fun _ hk => hk.2) (.int .i64 t425)) (fun _ hk => trivial)⟩, ⟨by (repeat apply rl1); exact Kd.R_mono (Kd.R_far (p := ⟨gb429, 5, none⟩) (Kd.R_far (p := ⟨gb429, 4, none⟩) (Kd.R_far (p := ⟨gb429, 3, none⟩) (Kd.R_far (p := ⟨gb429, 2, none⟩) (Kd.R_far (p := ⟨gb429, 1, none⟩) (Kd.R_far (p := ⟨gb429, 0, none⟩) (Kd.R_types HO416.out BK429.out (by decide)) (fun _ hk => hk.2) (.slice Ao13 t414.length co13)) (fun _ hk => hk.2) (.slice Ao17 t417.length co17)) (fun _ hk => hk.2) (.slice Ao18 t420.length co18)) (fun _ hk => hk.2) (.int .i64 t423)) (fun _ hk => hk.2) (.int .i64 t424)) (fun _ hk => hk.2) (.int .i64 t425)) (fun _ hk => trivial)⟩, ⟨by (repeat apply rl1); exact Kd.R_mono (Kd.R_far (p := ⟨gb429, 5, none⟩) (Kd.R_far (p := ⟨gb429, 4, none⟩) (Kd.R_far (p := ⟨gb429, 3, none⟩) (Kd.R_far (p := ⟨gb429, 2, none⟩) (Kd.R_far (p := ⟨gb429, 1, none⟩) (Kd.R_far (p := ⟨gb429, 0, none⟩) (Kd.R_types HO419.out BK429.out (by decide)) (fun _ hk => hk.2) (.slice Ao13 t414.length co13)) (fun _ hk => hk.2) (.slice Ao17 t417.length co17)) (fun _ hk => hk.2) (.slice Ao18 t420.length co18)) (fun _ hk => hk.2) (.int .i64 t423)) (fun _ hk => hk.2) (.int .i64 t424)) (fun _ hk => hk.2) (.int .i64 t425)) (fun _ hk => trivial)⟩, ⟨by (repeat apply rl1); exact Kd.R_mono (Kd.R_far (p := ⟨gb429, 5, none⟩) (Kd.R_far (p := ⟨gb429, 4, none⟩) (Kd.R_far (p := ⟨gb429, 3, none⟩) (Kd.R_far (p := ⟨gb429, 2, none⟩) (Kd.R_far (p := ⟨gb429, 1, none⟩) (Kd.R_far (p := ⟨gb429, 0, none⟩) (Kd.R_types HO422.out BK429.out (by decide)) (fun _ hk => hk.2) (.slice Ao13 t414.length co13)) (fun _ hk => hk.2) (.slice Ao17 t417.length co17)) (fun _ hk => hk.2) (.slice Ao18 t420.length co18)) (fun _ hk => hk.2) (.int .i64 t423)) (fun _ hk => hk.2) (.int .i64 t424)) (fun _ hk => hk.2) (.int .i64 t425)) (fun _ hk => trivial)⟩, ⟨by (repeat refine bk1 ?_); refine blk_far ?_ NB412_429.out _; (repeat refine bk1 ?_); refine blk_far ?_ NB412_429.out _; (repeat refine bk1 ?_); refine blk_far ?_ NB412_429.out _; (repeat refine bk1 ?_); refine blk_far ?_ NB412_429.out _; (repeat refine bk1 ?_); refine blk_far ?_ NB412_429.out _; (repeat refine bk1 ?_); refine blk_far ?_ NB412_429.out _; (repeat refine bk1 ?_); exact BK412.out⟩, ⟨by (repeat refine bk1 ?_); refine blk_far ?_ NB413_429.out _; (repeat refine bk1 ?_); refine blk_far ?_ NB413_429.out _; (repeat refine bk1 ?_); refine blk_far ?_ NB413_429.out _; (repeat refine bk1 ?_); refine blk_far ?_ NB413_429.out _; (repeat refine bk1 ?_); refine blk_far ?_ NB413_429.out _; (repeat refine bk1 ?_); refine blk_far ?_ NB413_429.out _; (repeat refine bk1 ?_); exact BK413.out⟩, ⟨by (repeat refine bk1 ?_); refine blk_put (cs := #[.slice Ao13 t414.length co13, .slice Ao17 t417.length co17, .slice Ao18 t420.length co18, .int .i64 t423, .int .i64 t424, .int .i64 0]) ?_ 5 _ rfl; (repeat refine bk1 ?_); refine blk_put (cs := #[.slice Ao13 t414.length co13, .slice Ao17 t417.length co17, .slice Ao18 t420.length co18, .int .i64 t423, .int .i64 0, .int .i64 0]) ?_ 4 _ rfl; (repeat refine bk1 ?_); refine blk_put (cs := #[.slice Ao13 t414.length co13, .slice Ao17 t417.length co17, .slice Ao18 t420.length co18, .int .i64 0, .int .i64 0, .int .i64 0]) ?_ 3 _ rfl; (repeat refine bk1 ?_); refine blk_put (cs := #[.slice Ao13 t414.length co13, .slice Ao17 t417.length co17, .slice none 0 0, .int .i64 0, .int .i64 0, .int .i64 0]) ?_ 2 _ rfl; (repeat refine bk1 ?_); refine blk_put (cs := #[.slice Ao13 t414.length co13, .slice none 0 0, .slice none 0 0, .int .i64 0, .int .i64 0, .int .i64 0]) ?_ 1 _ rfl; (repeat refine bk1 ?_); refine blk_put (cs := #[.slice none 0 0, .slice none 0 0, .slice none 0 0, .int .i64 0, .int .i64 0, .int .i64 0]) ?_ 0 _ rfl; (repeat refine bk1 ?_); exact BK429.out⟩, ⟨by repeat with_reducible first | exact bl HB.out | refine below_set ?_ GE412.out | refine below_set ?_ GE413.out | refine below_set ?_ GE429.out | refine bq ?_⟩⟩
  case round =>
   clear H'
   try clear c1
   try clear c2
   try clear p2
   try clear c3
   try clear c7
   try clear c14
   try clear c15
   try clear c19
   try clear c19b0
   try clear c19b1
   try clear c20
   try clear c21
   try clear c23
   try clear hcz16_0 hcz16_1 hcz16_2 hcz16_3 hcz16_4 hcz16_5 hfz16_0 hfz16_1 hfz16_2 hfz16_3 hfz16_4 hfz16_5
   try clear hcz22_0 hcz22_1 hcz22_2 hcz22_3 hcz22_4 hcz22_5 hfz22_0 hfz22_1 hfz22_2 hfz22_3 hfz22_4 hfz22_5
   try clear hcz24_0 hcz24_1 hcz24_2 hcz24_3 hcz24_4 hcz24_5 hfz24_0 hfz24_1 hfz24_2 hfz24_3 hfz24_4 hfz24_5
   try clear hcz8_0 hcz8_1 hcz8_2 hcz8_3 hcz8_4 hcz8_5 hfz8_0 hfz8_1 hfz8_2 hfz8_3 hfz8_4 hfz8_5
   obtain ⟨x7_1, x21_1, x430000_1, x430001_1, x430002_1, x430003_1, x430004_1, x430005_1, u430000, u430001, u430002, rfl, HA, HK1, HO_7, HO_430000, HO_430001, HO_430002, BK412, BK413, BK429, HB⟩ := hrel
   cases gk with
   | zero => exact absurd HA.out (by simp [impl_RunWork.l0])
   | succ k1 =>
    have H := HA.out
    clear HA
    simp only [impl_RunWork.l0] at H
    by_cases c25 : x21_1 < (l1.length : Int)
    ·
     rw [if_pos c25] at H
     have c25b0 : decide (x21_1 < (l1.length : Int)) = true := decide_eq_true c25
     clear c25
     by_cases c26 : 0 ≤ x21_1
     ·
      rw [if_pos c26] at H
      have c26b0 : decide (0 ≤ x21_1) = true := decide_eq_true c26
      clear c26
      by_cases c27 : x21_1 < (l1.length : Int)
      ·
       rw [if_pos c27] at H
       have c27b0 : decide (x21_1 < (l1.length : Int)) = true := decide_eq_true c27
       clear c27
       replace H := Option.bind_eq_some_iff.mp H
       obtain ⟨⟨t432, t435, t438, t441, t442, t443, t444⟩, A280, H⟩ := H
       replace H : (if x7_1.length < 140737488355328 then (impl_RunWork.l0 k1 (x7_1 ++ [t444]) l1 (l1.length : Int) (wrap64 (x21_1 + 1)) t432 t435 t438 t441 t442 t443) else (none)) = some (r1, r2, r3, r4, r5, r6, r7) := H
       have A28 := Aside0.mk A280
       clear A280
       by_cases c29 : x7_1.length < 140737488355328
       ·
        rw [if_pos c29] at H
        have LMc29 := Aside0.mk c29
        clear c29
        obtain ⟨y446, hy446⟩ : ∃ y_ : List Bool, y_ = (x7_1 ++ [t444]) := ⟨_, rfl⟩
        replace H : (impl_RunWork.l0 k1 y446 l1 (l1.length : Int) (wrap64 (x21_1 + 1)) t432 t435 t438 t441 t442 t443) = some (r1, r2, r3, r4, r5, r6, r7) := by first | (rw [hy446]; with_reducible exact H) | (have H2_ := (Option.bind_some _ _).symm.trans H; rw [hy446]; with_reducible exact H2_) | (have H2_ := (Option.bind_some _ _).symm.trans H; with_reducible exact H2_) | with_reducible exact H | (rw [hy446]; exact H) | exact H
        have Ny446 := Aside0.mk hy446
        clear hy446
        have H' := Aside0.mk H
        clear H
        have p430 : 0 ≤ (x21_1 : Int) := of_decide_eq_true (by first | (with_reducible assumption) | assumption)
        have q430 : x21_1 < (l1.length : Int) := of_decide_eq_true (by first | (with_reducible assumption) | assumption)
        obtain ⟨ad430, e430, hx430_0, hx430_1, hx430_2, hx430_3⟩ := at_T42 HR1.out x21_1 p430 q430
        cases e430
        replace hx430_0 := bc HB.out hx430_0
        replace hx430_1 := bc HB.out hx430_1
        replace hx430_2 := bc HB.out hx430_2
        replace hx430_3 := bc HB.out hx430_3
        replace p430 := eq_true p430
        replace q430 := eq_true q430
        try go_wp2_with (first | ((with_reducible refine gate_dst (N := 9) rfl ?_); refine box_event ?hg (N := 9) ?hd (cs := #[.int .i64 0, .string (⟨#[]⟩ : ByteArray), .int .i64 0, .int .i64 0]) (t := 42) ?hr ?_; (case hd => rfl); (case hg => rfl); (case hr => first | (go_simp; done) | (go_simp; rfl)); intro gb431 hg w30 hbox hb; replace HO_7 := Aside0.mk (Kd.R_below (rl HO_7.out) hb); replace HO_430000 := Aside0.mk (Kd.R_below (rl HO_430000.out) hb); replace HO_430001 := Aside0.mk (Kd.R_below (rl HO_430001.out) hb); replace HO_430002 := Aside0.mk (Kd.R_below (rl HO_430002.out) hb); have BK431 := Aside0.mk (hbox); have GW431 := Aside0.mk ((by rw [hg]; exact (below_size (by repeat with_reducible first | exact bl HB.out | refine below_set ?_ GE412.out | refine below_set ?_ GE413.out | refine below_set ?_ GE429.out | refine bq ?_)) : w.heap.size ≤ gb431)); have GE431 := GW431; replace HB := Aside0.mk (below_step (by repeat with_reducible first | exact bl HB.out | refine below_set ?_ GE412.out | refine below_set ?_ GE413.out | refine below_set ?_ GE429.out | refine bq ?_) hb); have NB412_431 := nb_ hg BK412.out; have NB431_412 := Aside0.mk NB412_431.out.symm; replace BK412 := Aside0.mk (blk_below (bk BK412.out) hb); have NB413_431 := nb_ hg BK413.out; have NB431_413 := Aside0.mk NB413_431.out.symm; replace BK413 := Aside0.mk (blk_below (bk BK413.out) hb); have NB429_431 := nb_ hg BK429.out; have NB431_429 := Aside0.mk NB429_431.out.symm; replace BK429 := Aside0.mk (blk_below (bk BK429.out) hb); clear hb hbox hg; have hnb31 := NB431_412.out; have hnc31 := NB412_431.out; have hnb32 := NB431_413.out; have hnc32 := NB413_431.out; have hnb33 := NB431_429.out; have hnc33 := NB429_431.out; obtain ⟨hcz34_0, hcz34_1, hcz34_2, hcz34_3⟩ := ck4 BK431.out; obtain ⟨hfz34_0, hfz34_1, hfz34_2, hfz34_3⟩ := fz4 BK431.out; have hnb35 := NB429_412.out; have hnc35 := NB412_429.out; have hnb36 := NB429_413.out; have hnc36 := NB413_429.out; obtain ⟨hcz37_0, hcz37_1, hcz37_2, hcz37_3, hcz37_4, hcz37_5⟩ := ck6 BK429.out; obtain ⟨hfz37_0, hfz37_1, hfz37_2, hfz37_3, hfz37_4, hfz37_5⟩ := fz6 BK429.out; obtain ⟨Ao38, co38, eo38⟩ := Kd.R_slice HO_430000.out; subst eo38; obtain ⟨Ao39, co39, eo39⟩ := Kd.R_slice HO_430001.out; subst eo39; obtain ⟨Ao40, co40, eo40⟩ := Kd.R_slice HO_430002.out; subst eo40) | ((with_reducible refine gate_callee (f := 12) rfl ?_); refine goesL_ (some 28) rfl rfl Try.func12 (by kernel_rfl) rfl #[.agg #[.slice Ao38 x430000_1.length co38, .slice Ao39 x430001_1.length co39, .slice Ao40 x430002_1.length co40, .int .i64 x430003_1, .int .i64 x430004_1, .int .i64 x430005_1], .agg #[.int .i64 ((rd_T42 l1 x21_1).f0), .string ((rd_T42 l1 x21_1).f1), .int .i64 ((rd_T42 l1 x21_1).f2), .int .i64 ((rd_T42 l1 x21_1).f3)]] rfl (by (try simp only [am_]); first | done | rfl) ?_; (with_reducible refine (impl_DoWork.calls _ _ x430000_1 _ _ x430001_1 _ _ x430002_1 x430003_1 x430004_1 x430005_1 ((rd_T42 l1 x21_1).f0) ((rd_T42 l1 x21_1).f1) ((rd_T42 l1 x21_1).f2) ((rd_T42 l1 x21_1).f3) t432 t435 t438 t441 t442 t443 t444 _ ?side1 ?side2 ?side3 ?side4 ?side5 ?side6 A28.out).mono ?_); (case side1 => refine (Kd.R_reads' (e := 44) (base := w.heap.size) (ok := fun k_ => True) (n := x430000_1.length) (c := co38) ?_).2.2; exact (by (repeat apply rl1); exact (Kd.R_mono (Kd.R_far (p := ⟨gb431, 3, none⟩) (Kd.R_far (p := ⟨gb431, 2, none⟩) (Kd.R_far (p := ⟨gb431, 1, none⟩) (Kd.R_far (p := ⟨gb431, 0, none⟩) (Kd.R_types HO_430000.out BK431.out (by decide)) (fun _ hk => hk.2) (.int .i64 ((rd_T42 l1 x21_1).f0))) (fun _ hk => hk.2) (.string ((rd_T42 l1 x21_1).f1))) (fun _ hk => hk.2) (.int .i64 ((rd_T42 l1 x21_1).f2))) (fun _ hk => hk.2) (.int .i64 ((rd_T42 l1 x21_1).f3))) (fun _ h_ => h_.1)))); (case side2 => exact (Kd.R_reads' HO_430000.out).2.1); (case side3 => refine (Kd.R_reads' (e := 84) (base := w.heap.size) (ok := fun k_ => True) (n := x430001_1.length) (c := co39) ?_).2.2; exact (by (repeat apply rl1); exact (Kd.R_mono (Kd.R_far (p := ⟨gb431, 3, none⟩) (Kd.R_far (p := ⟨gb431, 2, none⟩) (Kd.R_far (p := ⟨gb431, 1, none⟩) (Kd.R_far (p := ⟨gb431, 0, none⟩) (Kd.R_types HO_430001.out BK431.out (by decide)) (fun _ hk => hk.2) (.int .i64 ((rd_T42 l1 x21_1).f0))) (fun _ hk => hk.2) (.string ((rd_T42 l1 x21_1).f1))) (fun _ hk => hk.2) (.int .i64 ((rd_T42 l1 x21_1).f2))) (fun _ hk => hk.2) (.int .i64 ((rd_T42 l1 x21_1).f3))) (fun _ h_ => h_.1)))); (case side4 => exact (Kd.R_reads' HO_430001.out).2.1); (case side5 => refine (Kd.R_reads' (e := 57) (base := w.heap.size) (ok := fun k_ => True) (n := x430002_1.length) (c := co40) ?_).2.2; exact (by (repeat apply rl1); exact (Kd.R_mono (Kd.R_far (p := ⟨gb431, 3, none⟩) (Kd.R_far (p := ⟨gb431, 2, none⟩) (Kd.R_far (p := ⟨gb431, 1, none⟩) (Kd.R_far (p := ⟨gb431, 0, none⟩) (Kd.R_types HO_430002.out BK431.out (by decide)) (fun _ hk => hk.2) (.int .i64 ((rd_T42 l1 x21_1).f0))) (fun _ hk => hk.2) (.string ((rd_T42 l1 x21_1).f1))) (fun _ hk => hk.2) (.int .i64 ((rd_T42 l1 x21_1).f2))) (fun _ hk => hk.2) (.int .i64 ((rd_T42 l1 x21_1).f3))) (fun _ h_ => h_.1)))); (case side6 => exact (Kd.R_reads' HO_430002.out).2.1); rintro e w41 ⟨v433, v436, v439, rfl, ho0, ho1, ho2, hb⟩; refine ⟨_, rfl, ?_⟩; replace HO_7 := Aside0.mk (Kd.R_below (by (repeat apply rl1); exact (Kd.R_mono (Kd.R_far (p := ⟨gb431, 3, none⟩) (Kd.R_far (p := ⟨gb431, 2, none⟩) (Kd.R_far (p := ⟨gb431, 1, none⟩) (Kd.R_far (p := ⟨gb431, 0, none⟩) (Kd.R_types HO_7.out BK431.out (by decide)) (fun _ hk => hk.2) (.int .i64 ((rd_T42 l1 x21_1).f0))) (fun _ hk => hk.2) (.string ((rd_T42 l1 x21_1).f1))) (fun _ hk => hk.2) (.int .i64 ((rd_T42 l1 x21_1).f2))) (fun _ hk => hk.2) (.int .i64 ((rd_T42 l1 x21_1).f3))) (fun _ h_ => h_.1))) hb); have HO434 := Aside0.mk (Kd.R_lower (Kd.R_new' ho0 (Kd.R_lt (by (repeat apply rl1); exact (Kd.R_mono (Kd.R_far (p := ⟨gb431, 3, none⟩) (Kd.R_far (p := ⟨gb431, 2, none⟩) (Kd.R_far (p := ⟨gb431, 1, none⟩) (Kd.R_far (p := ⟨gb431, 0, none⟩) (Kd.R_types HO_430000.out BK431.out (by decide)) (fun _ hk => hk.2) (.int .i64 ((rd_T42 l1 x21_1).f0))) (fun _ hk => hk.2) (.string ((rd_T42 l1 x21_1).f1))) (fun _ hk => hk.2) (.int .i64 ((rd_T42 l1 x21_1).f2))) (fun _ hk => hk.2) (.int .i64 ((rd_T42 l1 x21_1).f3))) (fun _ h_ => h_.1))))) (below_size (by repeat with_reducible first | exact bl HB.out | refine below_set ?_ GE412.out | refine below_set ?_ GE413.out | refine below_set ?_ GE429.out | refine below_set ?_ GE431.out | refine bq ?_))); replace HO_430000 := Aside0.mk (Kd.R_elder' (by (repeat apply rl1); exact (Kd.R_mono (Kd.R_far (p := ⟨gb431, 3, none⟩) (Kd.R_far (p := ⟨gb431, 2, none⟩) (Kd.R_far (p := ⟨gb431, 1, none⟩) (Kd.R_far (p := ⟨gb431, 0, none⟩) (Kd.R_types HO_430000.out BK431.out (by decide)) (fun _ hk => hk.2) (.int .i64 ((rd_T42 l1 x21_1).f0))) (fun _ hk => hk.2) (.string ((rd_T42 l1 x21_1).f1))) (fun _ hk => hk.2) (.int .i64 ((rd_T42 l1 x21_1).f2))) (fun _ hk => hk.2) (.int .i64 ((rd_T42 l1 x21_1).f3))) (fun _ h_ => h_.1))) (Kd.R_base ho0) hb); have HO437 := Aside0.mk (Kd.R_lower (Kd.R_new' ho1 (Kd.R_lt (by (repeat apply rl1); exact (Kd.R_mono (Kd.R_far (p := ⟨gb431, 3, none⟩) (Kd.R_far (p := ⟨gb431, 2, none⟩) (Kd.R_far (p := ⟨gb431, 1, none⟩) (Kd.R_far (p := ⟨gb431, 0, none⟩) (Kd.R_types HO_430001.out BK431.out (by decide)) (fun _ hk => hk.2) (.int .i64 ((rd_T42 l1 x21_1).f0))) (fun _ hk => hk.2) (.string ((rd_T42 l1 x21_1).f1))) (fun _ hk => hk.2) (.int .i64 ((rd_T42 l1 x21_1).f2))) (fun _ hk => hk.2) (.int .i64 ((rd_T42 l1 x21_1).f3))) (fun _ h_ => h_.1))))) (below_size (by repeat with_reducible first | exact bl HB.out | refine below_set ?_ GE412.out | refine below_set ?_ GE413.out | refine below_set ?_ GE429.out | refine below_set ?_ GE431.out | refine bq ?_))); replace HO_430001 := Aside0.mk (Kd.R_elder' (by (repeat apply rl1); exact (Kd.R_mono (Kd.R_far (p := ⟨gb431, 3, none⟩) (Kd.R_far (p := ⟨gb431, 2, none⟩) (Kd.R_far (p := ⟨gb431, 1, none⟩) (Kd.R_far (p := ⟨gb431, 0, none⟩) (Kd.R_types HO_430001.out BK431.out (by decide)) (fun _ hk => hk.2) (.int .i64 ((rd_T42 l1 x21_1).f0))) (fun _ hk => hk.2) (.string ((rd_T42 l1 x21_1).f1))) (fun _ hk => hk.2) (.int .i64 ((rd_T42 l1 x21_1).f2))) (fun _ hk => hk.2) (.int .i64 ((rd_T42 l1 x21_1).f3))) (fun _ h_ => h_.1))) (Kd.R_base ho1) hb); have HO440 := Aside0.mk (Kd.R_lower (Kd.R_new' ho2 (Kd.R_lt (by (repeat apply rl1); exact (Kd.R_mono (Kd.R_far (p := ⟨gb431, 3, none⟩) (Kd.R_far (p := ⟨gb431, 2, none⟩) (Kd.R_far (p := ⟨gb431, 1, none⟩) (Kd.R_far (p := ⟨gb431, 0, none⟩) (Kd.R_types HO_430002.out BK431.out (by decide)) (fun _ hk => hk.2) (.int .i64 ((rd_T42 l1 x21_1).f0))) (fun _ hk => hk.2) (.string ((rd_T42 l1 x21_1).f1))) (fun _ hk => hk.2) (.int .i64 ((rd_T42 l1 x21_1).f2))) (fun _ hk => hk.2) (.int .i64 ((rd_T42 l1 x21_1).f3))) (fun _ h_ => h_.1))))) (below_size (by repeat with_reducible first | exact bl HB.out | refine below_set ?_ GE412.out | refine below_set ?_ GE413.out | refine below_set ?_ GE429.out | refine below_set ?_ GE431.out | refine bq ?_))); replace HO_430002 := Aside0.mk (Kd.R_elder' (by (repeat apply rl1); exact (Kd.R_mono (Kd.R_far (p := ⟨gb431, 3, none⟩) (Kd.R_far (p := ⟨gb431, 2, none⟩) (Kd.R_far (p := ⟨gb431, 1, none⟩) (Kd.R_far (p := ⟨gb431, 0, none⟩) (Kd.R_types HO_430002.out BK431.out (by decide)) (fun _ hk => hk.2) (.int .i64 ((rd_T42 l1 x21_1).f0))) (fun _ hk => hk.2) (.string ((rd_T42 l1 x21_1).f1))) (fun _ hk => hk.2) (.int .i64 ((rd_T42 l1 x21_1).f2))) (fun _ hk => hk.2) (.int .i64 ((rd_T42 l1 x21_1).f3))) (fun _ h_ => h_.1))) (Kd.R_base ho2) hb); replace BK412 := Aside0.mk (blk_below (g := gb412) (o := .cells #[.slice A0_0 l0_0.length c0_0, .slice A0_1 l0_1.length c0_1, .slice A0_2 l0_2.length c0_2, .int .i64 a0_3, .int .i64 a0_4, .int .i64 a0_5] 30 (0, 0)) (by (repeat refine bk1 ?_); refine blk_far ?_ NB412_431.out _; (repeat refine bk1 ?_); refine blk_far ?_ NB412_431.out _; (repeat refine bk1 ?_); refine blk_far ?_ NB412_431.out _; (repeat refine bk1 ?_); refine blk_far ?_ NB412_431.out _; (repeat refine bk1 ?_); exact BK412.out) hb); replace BK413 := Aside0.mk (blk_below (g := gb413) (o := .cells #[.slice none 0 0, .slice none 0 0, .slice none 0 0, .int .i64 0, .int .i64 0, .int .i64 0] 30 (0, 0)) (by (repeat refine bk1 ?_); refine blk_far ?_ NB413_431.out _; (repeat refine bk1 ?_); refine blk_far ?_ NB413_431.out _; (repeat refine bk1 ?_); refine blk_far ?_ NB413_431.out _; (repeat refine bk1 ?_); refine blk_far ?_ NB413_431.out _; (repeat refine bk1 ?_); exact BK413.out) hb); replace BK429 := Aside0.mk (blk_below (g := gb429) (o := .cells #[.slice Ao38 x430000_1.length co38, .slice Ao39 x430001_1.length co39, .slice Ao40 x430002_1.length co40, .int .i64 x430003_1, .int .i64 x430004_1, .int .i64 x430005_1] 30 (0, 0)) (by (repeat refine bk1 ?_); refine blk_far ?_ NB429_431.out _; (repeat refine bk1 ?_); refine blk_far ?_ NB429_431.out _; (repeat refine bk1 ?_); refine blk_far ?_ NB429_431.out _; (repeat refine bk1 ?_); refine blk_far ?_ NB429_431.out _; (repeat refine bk1 ?_); exact BK429.out) hb); replace BK431 := Aside0.mk (blk_below (g := gb431) (o := .cells #[.int .i64 ((rd_T42 l1 x21_1).f0), .string ((rd_T42 l1 x21_1).f1), .int .i64 ((rd_T42 l1 x21_1).f2), .int .i64 ((rd_T42 l1 x21_1).f3)] 42 (0, 0)) (by (repeat refine bk1 ?_); refine blk_put (cs := #[.int .i64 ((rd_T42 l1 x21_1).f0), .string ((rd_T42 l1 x21_1).f1), .int .i64 ((rd_T42 l1 x21_1).f2), .int .i64 0]) ?_ 3 _ rfl; (repeat refine bk1 ?_); refine blk_put (cs := #[.int .i64 ((rd_T42 l1 x21_1).f0), .string ((rd_T42 l1 x21_1).f1), .int .i64 0, .int .i64 0]) ?_ 2 _ rfl; (repeat refine bk1 ?_); refine blk_put (cs := #[.int .i64 ((rd_T42 l1 x21_1).f0), .string (⟨#[]⟩ : ByteArray), .int .i64 0, .int .i64 0]) ?_ 1 _ rfl; (repeat refine bk1 ?_); refine blk_put (cs := #[.int .i64 0, .string (⟨#[]⟩ : ByteArray), .int .i64 0, .int .i64 0]) ?_ 0 _ rfl; (repeat refine bk1 ?_); exact BK431.out) hb); replace HB := Aside0.mk (below_step (by repeat with_reducible first | exact bl HB.out | refine below_set ?_ GE412.out | refine below_set ?_ GE413.out | refine below_set ?_ GE429.out | refine below_set ?_ GE431.out | refine bq ?_) hb); (try clear hb); (try clear hb2); (try clear hk); (try clear hi); (try clear ho0); (try clear ho1); (try clear ho2)) | ((with_reducible refine gate_dst (N := 10) rfl ?_); refine box_event ?hg (N := 10) ?hd (cs := #[.slice none 0 0, .slice none 0 0, .slice none 0 0, .int .i64 0, .int .i64 0, .int .i64 0]) (t := 30) ?hr ?_; (case hd => rfl); (case hg => rfl); (case hr => first | (go_simp; done) | (go_simp; rfl)); intro gb445 hg w42 hbox hb; replace HO_7 := Aside0.mk (Kd.R_below (rl HO_7.out) hb); replace HO_430000 := Aside0.mk (Kd.R_below (rl HO_430000.out) hb); replace HO_430001 := Aside0.mk (Kd.R_below (rl HO_430001.out) hb); replace HO_430002 := Aside0.mk (Kd.R_below (rl HO_430002.out) hb); replace HO434 := Aside0.mk (Kd.R_below (rl HO434.out) hb); replace HO437 := Aside0.mk (Kd.R_below (rl HO437.out) hb); replace HO440 := Aside0.mk (Kd.R_below (rl HO440.out) hb); have BK445 := Aside0.mk (hbox); have GW445 := Aside0.mk ((by rw [hg]; exact (below_size (by repeat with_reducible first | exact bl HB.out | refine below_set ?_ GE412.out | refine below_set ?_ GE413.out | refine below_set ?_ GE429.out | refine below_set ?_ GE431.out | refine bq ?_)) : w.heap.size ≤ gb445)); have GE445 := GW445; replace HB := Aside0.mk (below_step (by repeat with_reducible first | exact bl HB.out | refine below_set ?_ GE412.out | refine below_set ?_ GE413.out | refine below_set ?_ GE429.out | refine below_set ?_ GE431.out | refine bq ?_) hb); have NB412_445 := nb_ hg BK412.out; have NB445_412 := Aside0.mk NB412_445.out.symm; replace BK412 := Aside0.mk (blk_below (bk BK412.out) hb); have NB413_445 := nb_ hg BK413.out; have NB445_413 := Aside0.mk NB413_445.out.symm; replace BK413 := Aside0.mk (blk_below (bk BK413.out) hb); have NB429_445 := nb_ hg BK429.out; have NB445_429 := Aside0.mk NB429_445.out.symm; replace BK429 := Aside0.mk (blk_below (bk BK429.out) hb); have NB431_445 := nb_ hg BK431.out; have NB445_431 := Aside0.mk NB431_445.out.symm; replace BK431 := Aside0.mk (blk_below (bk BK431.out) hb); clear hb hbox hg; obtain ⟨Ao43, co43, eo43⟩ := Kd.R_slice HO434.out; subst eo43; have hnb44 := NB445_412.out; have hnc44 := NB412_445.out; have hnb45 := NB445_413.out; have hnc45 := NB413_445.out; have hnb46 := NB445_429.out; have hnc46 := NB429_445.out; have hnb47 := NB445_431.out; have hnc47 := NB431_445.out; obtain ⟨hcz48_0, hcz48_1, hcz48_2, hcz48_3, hcz48_4, hcz48_5⟩ := ck6 BK445.out; obtain ⟨hfz48_0, hfz48_1, hfz48_2, hfz48_3, hfz48_4, hfz48_5⟩ := fz6 BK445.out; obtain ⟨Ao49, co49, eo49⟩ := Kd.R_slice HO437.out; subst eo49; obtain ⟨Ao50, co50, eo50⟩ := Kd.R_slice HO440.out; subst eo50))
        have n0_ : Aside0 (Kd.R Kd.bool 4 ((((((w42.setCell ⟨gb445, 0, none⟩ (.slice Ao43 t432.length co43)).setCell ⟨gb445, 1, none⟩ (.slice Ao49 t435.length co49)).setCell ⟨gb445, 2, none⟩ (.slice Ao50 t438.length co50)).setCell ⟨gb445, 3, none⟩ (.int .i64 t441)).setCell ⟨gb445, 4, none⟩ (.int .i64 t442)).setCell ⟨gb445, 5, none⟩ (.int .i64 t443)) w.heap.size (fun _ => True) u7 x7_1) := ⟨by (repeat apply rl1); exact Kd.R_mono (Kd.R_far (p := ⟨gb445, 5, none⟩) (Kd.R_far (p := ⟨gb445, 4, none⟩) (Kd.R_far (p := ⟨gb445, 3, none⟩) (Kd.R_far (p := ⟨gb445, 2, none⟩) (Kd.R_far (p := ⟨gb445, 1, none⟩) (Kd.R_far (p := ⟨gb445, 0, none⟩) (Kd.R_types HO_7.out BK445.out (by decide)) (fun _ hk => hk.2) (.slice Ao43 t432.length co43)) (fun _ hk => hk.2) (.slice Ao49 t435.length co49)) (fun _ hk => hk.2) (.slice Ao50 t438.length co50)) (fun _ hk => hk.2) (.int .i64 t441)) (fun _ hk => hk.2) (.int .i64 t442)) (fun _ hk => hk.2) (.int .i64 t443)) (fun _ hk => trivial)⟩
        have n1_ : Aside0 (Kd.R k44 44 ((((((w42.setCell ⟨gb445, 0, none⟩ (.slice Ao43 t432.length co43)).setCell ⟨gb445, 1, none⟩ (.slice Ao49 t435.length co49)).setCell ⟨gb445, 2, none⟩ (.slice Ao50 t438.length co50)).setCell ⟨gb445, 3, none⟩ (.int .i64 t441)).setCell ⟨gb445, 4, none⟩ (.int .i64 t442)).setCell ⟨gb445, 5, none⟩ (.int .i64 t443)) w.heap.size (fun k_ => some k_ ≠ (.slice Ao43 t432.length co43 : Value).ownBlock) (.slice Ao38 x430000_1.length co38) x430000_1) := ⟨by (repeat apply rl1); exact Kd.R_mono (Kd.R_far (p := ⟨gb445, 5, none⟩) (Kd.R_far (p := ⟨gb445, 4, none⟩) (Kd.R_far (p := ⟨gb445, 3, none⟩) (Kd.R_far (p := ⟨gb445, 2, none⟩) (Kd.R_far (p := ⟨gb445, 1, none⟩) (Kd.R_far (p := ⟨gb445, 0, none⟩) (Kd.R_types HO_430000.out BK445.out (by decide)) (fun _ hk => hk.2) (.slice Ao43 t432.length co43)) (fun _ hk => hk.2) (.slice Ao49 t435.length co49)) (fun _ hk => hk.2) (.slice Ao50 t438.length co50)) (fun _ hk => hk.2) (.int .i64 t441)) (fun _ hk => hk.2) (.int .i64 t442)) (fun _ hk => hk.2) (.int .i64 t443)) (fun _ hk => hk.1.2)⟩
        have n2_ : Aside0 (Kd.R k84 84 ((((((w42.setCell ⟨gb445, 0, none⟩ (.slice Ao43 t432.length co43)).setCell ⟨gb445, 1, none⟩ (.slice Ao49 t435.length co49)).setCell ⟨gb445, 2, none⟩ (.slice Ao50 t438.length co50)).setCell ⟨gb445, 3, none⟩ (.int .i64 t441)).setCell ⟨gb445, 4, none⟩ (.int .i64 t442)).setCell ⟨gb445, 5, none⟩ (.int .i64 t443)) w.heap.size (fun k_ => some k_ ≠ (.slice Ao49 t435.length co49 : Value).ownBlock) (.slice Ao39 x430001_1.length co39) x430001_1) := ⟨by (repeat apply rl1); exact Kd.R_mono (Kd.R_far (p := ⟨gb445, 5, none⟩) (Kd.R_far (p := ⟨gb445, 4, none⟩) (Kd.R_far (p := ⟨gb445, 3, none⟩) (Kd.R_far (p := ⟨gb445, 2, none⟩) (Kd.R_far (p := ⟨gb445, 1, none⟩) (Kd.R_far (p := ⟨gb445, 0, none⟩) (Kd.R_types HO_430001.out BK445.out (by decide)) (fun _ hk => hk.2) (.slice Ao43 t432.length co43)) (fun _ hk => hk.2) (.slice Ao49 t435.length co49)) (fun _ hk => hk.2) (.slice Ao50 t438.length co50)) (fun _ hk => hk.2) (.int .i64 t441)) (fun _ hk => hk.2) (.int .i64 t442)) (fun _ hk => hk.2) (.int .i64 t443)) (fun _ hk => hk.1.2)⟩
        have n3_ : Aside0 (Kd.R k57 57 ((((((w42.setCell ⟨gb445, 0, none⟩ (.slice Ao43 t432.length co43)).setCell ⟨gb445, 1, none⟩ (.slice Ao49 t435.length co49)).setCell ⟨gb445, 2, none⟩ (.slice Ao50 t438.length co50)).setCell ⟨gb445, 3, none⟩ (.int .i64 t441)).setCell ⟨gb445, 4, none⟩ (.int .i64 t442)).setCell ⟨gb445, 5, none⟩ (.int .i64 t443)) w.heap.size (fun k_ => some k_ ≠ (.slice Ao50 t438.length co50 : Value).ownBlock) (.slice Ao40 x430002_1.length co40) x430002_1) := ⟨by (repeat apply rl1); exact Kd.R_mono (Kd.R_far (p := ⟨gb445, 5, none⟩) (Kd.R_far (p := ⟨gb445, 4, none⟩) (Kd.R_far (p := ⟨gb445, 3, none⟩) (Kd.R_far (p := ⟨gb445, 2, none⟩) (Kd.R_far (p := ⟨gb445, 1, none⟩) (Kd.R_far (p := ⟨gb445, 0, none⟩) (Kd.R_types HO_430002.out BK445.out (by decide)) (fun _ hk => hk.2) (.slice Ao43 t432.length co43)) (fun _ hk => hk.2) (.slice Ao49 t435.length co49)) (fun _ hk => hk.2) (.slice Ao50 t438.length co50)) (fun _ hk => hk.2) (.int .i64 t441)) (fun _ hk => hk.2) (.int .i64 t442)) (fun _ hk => hk.2) (.int .i64 t443)) (fun _ hk => hk.1.2)⟩
        have n4_ : Aside0 (Kd.R k44 44 ((((((w42.setCell ⟨gb445, 0, none⟩ (.slice Ao43 t432.length co43)).setCell ⟨gb445, 1, none⟩ (.slice Ao49 t435.length co49)).setCell ⟨gb445, 2, none⟩ (.slice Ao50 t438.length co50)).setCell ⟨gb445, 3, none⟩ (.int .i64 t441)).setCell ⟨gb445, 4, none⟩ (.int .i64 t442)).setCell ⟨gb445, 5, none⟩ (.int .i64 t443)) w.heap.size (fun k_ => some k_ ≠ (.slice Ao38 x430000_1.length co38 : Value).ownBlock) (.slice Ao43 t432.length co43) t432) := ⟨by (repeat apply rl1); exact Kd.R_mono (Kd.R_far (p := ⟨gb445, 5, none⟩) (Kd.R_far (p := ⟨gb445, 4, none⟩) (Kd.R_far (p := ⟨gb445, 3, none⟩) (Kd.R_far (p := ⟨gb445, 2, none⟩) (Kd.R_far (p := ⟨gb445, 1, none⟩) (Kd.R_far (p := ⟨gb445, 0, none⟩) (Kd.R_types HO434.out BK445.out (by decide)) (fun _ hk => hk.2) (.slice Ao43 t432.length co43)) (fun _ hk => hk.2) (.slice Ao49 t435.length co49)) (fun _ hk => hk.2) (.slice Ao50 t438.length co50)) (fun _ hk => hk.2) (.int .i64 t441)) (fun _ hk => hk.2) (.int .i64 t442)) (fun _ hk => hk.2) (.int .i64 t443)) (fun _ hk => hk.1.2)⟩
        have n5_ : Aside0 (Kd.R k84 84 ((((((w42.setCell ⟨gb445, 0, none⟩ (.slice Ao43 t432.length co43)).setCell ⟨gb445, 1, none⟩ (.slice Ao49 t435.length co49)).setCell ⟨gb445, 2, none⟩ (.slice Ao50 t438.length co50)).setCell ⟨gb445, 3, none⟩ (.int .i64 t441)).setCell ⟨gb445, 4, none⟩ (.int .i64 t442)).setCell ⟨gb445, 5, none⟩ (.int .i64 t443)) w.heap.size (fun k_ => some k_ ≠ (.slice Ao39 x430001_1.length co39 : Value).ownBlock) (.slice Ao49 t435.length co49) t435) := ⟨by (repeat apply rl1); exact Kd.R_mono (Kd.R_far (p := ⟨gb445, 5, none⟩) (Kd.R_far (p := ⟨gb445, 4, none⟩) (Kd.R_far (p := ⟨gb445, 3, none⟩) (Kd.R_far (p := ⟨gb445, 2, none⟩) (Kd.R_far (p := ⟨gb445, 1, none⟩) (Kd.R_far (p := ⟨gb445, 0, none⟩) (Kd.R_types HO437.out BK445.out (by decide)) (fun _ hk => hk.2) (.slice Ao43 t432.length co43)) (fun _ hk => hk.2) (.slice Ao49 t435.length co49)) (fun _ hk => hk.2) (.slice Ao50 t438.length co50)) (fun _ hk => hk.2) (.int .i64 t441)) (fun _ hk => hk.2) (.int .i64 t442)) (fun _ hk => hk.2) (.int .i64 t443)) (fun _ hk => hk.1.2)⟩
        have n6_ : Aside0 (Kd.R k57 57 ((((((w42.setCell ⟨gb445, 0, none⟩ (.slice Ao43 t432.length co43)).setCell ⟨gb445, 1, none⟩ (.slice Ao49 t435.length co49)).setCell ⟨gb445, 2, none⟩ (.slice Ao50 t438.length co50)).setCell ⟨gb445, 3, none⟩ (.int .i64 t441)).setCell ⟨gb445, 4, none⟩ (.int .i64 t442)).setCell ⟨gb445, 5, none⟩ (.int .i64 t443)) w.heap.size (fun k_ => some k_ ≠ (.slice Ao40 x430002_1.length co40 : Value).ownBlock) (.slice Ao50 t438.length co50) t438) := ⟨by (repeat apply rl1); exact Kd.R_mono (Kd.R_far (p := ⟨gb445, 5, none⟩) (Kd.R_far (p := ⟨gb445, 4, none⟩) (Kd.R_far (p := ⟨gb445, 3, none⟩) (Kd.R_far (p := ⟨gb445, 2, none⟩) (Kd.R_far (p := ⟨gb445, 1, none⟩) (Kd.R_far (p := ⟨gb445, 0, none⟩) (Kd.R_types HO440.out BK445.out (by decide)) (fun _ hk => hk.2) (.slice Ao43 t432.length co43)) (fun _ hk => hk.2) (.slice Ao49 t435.length co49)) (fun _ hk => hk.2) (.slice Ao50 t438.length co50)) (fun _ hk => hk.2) (.int .i64 t441)) (fun _ hk => hk.2) (.int .i64 t442)) (fun _ hk => hk.2) (.int .i64 t443)) (fun _ hk => hk.1.2)⟩
        have n7_ : Aside0 (((((((w42.setCell ⟨gb445, 0, none⟩ (.slice Ao43 t432.length co43)).setCell ⟨gb445, 1, none⟩ (.slice Ao49 t435.length co49)).setCell ⟨gb445, 2, none⟩ (.slice Ao50 t438.length co50)).setCell ⟨gb445, 3, none⟩ (.int .i64 t441)).setCell ⟨gb445, 4, none⟩ (.int .i64 t442)).setCell ⟨gb445, 5, none⟩ (.int .i64 t443)).heap[gb412]? = some (.cells #[.slice A0_0 l0_0.length c0_0, .slice A0_1 l0_1.length c0_1, .slice A0_2 l0_2.length c0_2, .int .i64 a0_3, .int .i64 a0_4, .int .i64 a0_5] 30 (0, 0))) := ⟨by (repeat refine bk1 ?_); refine blk_far ?_ NB412_445.out _; (repeat refine bk1 ?_); refine blk_far ?_ NB412_445.out _; (repeat refine bk1 ?_); refine blk_far ?_ NB412_445.out _; (repeat refine bk1 ?_); refine blk_far ?_ NB412_445.out _; (repeat refine bk1 ?_); refine blk_far ?_ NB412_445.out _; (repeat refine bk1 ?_); refine blk_far ?_ NB412_445.out _; (repeat refine bk1 ?_); exact BK412.out⟩
        have n8_ : Aside0 (((((((w42.setCell ⟨gb445, 0, none⟩ (.slice Ao43 t432.length co43)).setCell ⟨gb445, 1, none⟩ (.slice Ao49 t435.length co49)).setCell ⟨gb445, 2, none⟩ (.slice Ao50 t438.length co50)).setCell ⟨gb445, 3, none⟩ (.int .i64 t441)).setCell ⟨gb445, 4, none⟩ (.int .i64 t442)).setCell ⟨gb445, 5, none⟩ (.int .i64 t443)).heap[gb413]? = some (.cells #[.slice none 0 0, .slice none 0 0, .slice none 0 0, .int .i64 0, .int .i64 0, .int .i64 0] 30 (0, 0))) := ⟨by (repeat refine bk1 ?_); refine blk_far ?_ NB413_445.out _; (repeat refine bk1 ?_); refine blk_far ?_ NB413_445.out _; (repeat refine bk1 ?_); refine blk_far ?_ NB413_445.out _; (repeat refine bk1 ?_); refine blk_far ?_ NB413_445.out _; (repeat refine bk1 ?_); refine blk_far ?_ NB413_445.out _; (repeat refine bk1 ?_); refine blk_far ?_ NB413_445.out _; (repeat refine bk1 ?_); exact BK413.out⟩
        have n9_ : Aside0 (((((((w42.setCell ⟨gb445, 0, none⟩ (.slice Ao43 t432.length co43)).setCell ⟨gb445, 1, none⟩ (.slice Ao49 t435.length co49)).setCell ⟨gb445, 2, none⟩ (.slice Ao50 t438.length co50)).setCell ⟨gb445, 3, none⟩ (.int .i64 t441)).setCell ⟨gb445, 4, none⟩ (.int .i64 t442)).setCell ⟨gb445, 5, none⟩ (.int .i64 t443)).heap[gb429]? = some (.cells #[.slice Ao38 x430000_1.length co38, .slice Ao39 x430001_1.length co39, .slice Ao40 x430002_1.length co40, .int .i64 x430003_1, .int .i64 x430004_1, .int .i64 x430005_1] 30 (0, 0))) := ⟨by (repeat refine bk1 ?_); refine blk_far ?_ NB429_445.out _; (repeat refine bk1 ?_); refine blk_far ?_ NB429_445.out _; (repeat refine bk1 ?_); refine blk_far ?_ NB429_445.out _; (repeat refine bk1 ?_); refine blk_far ?_ NB429_445.out _; (repeat refine bk1 ?_); refine blk_far ?_ NB429_445.out _; (repeat refine bk1 ?_); refine blk_far ?_ NB429_445.out _; (repeat refine bk1 ?_); exact BK429.out⟩
        have n10_ : Aside0 (((((((w42.setCell ⟨gb445, 0, none⟩ (.slice Ao43 t432.length co43)).setCell ⟨gb445, 1, none⟩ (.slice Ao49 t435.length co49)).setCell ⟨gb445, 2, none⟩ (.slice Ao50 t438.length co50)).setCell ⟨gb445, 3, none⟩ (.int .i64 t441)).setCell ⟨gb445, 4, none⟩ (.int .i64 t442)).setCell ⟨gb445, 5, none⟩ (.int .i64 t443)).heap[gb431]? = some (.cells #[.int .i64 ((rd_T42 l1 x21_1).f0), .string ((rd_T42 l1 x21_1).f1), .int .i64 ((rd_T42 l1 x21_1).f2), .int .i64 ((rd_T42 l1 x21_1).f3)] 42 (0, 0))) := ⟨by (repeat refine bk1 ?_); refine blk_far ?_ NB431_445.out _; (repeat refine bk1 ?_); refine blk_far ?_ NB431_445.out _; (repeat refine bk1 ?_); refine blk_far ?_ NB431_445.out _; (repeat refine bk1 ?_); refine blk_far ?_ NB431_445.out _; (repeat refine bk1 ?_); refine blk_far ?_ NB431_445.out _; (repeat refine bk1 ?_); refine blk_far ?_ NB431_445.out _; (repeat refine bk1 ?_); exact BK431.out⟩
        have n11_ : Aside0 (((((((w42.setCell ⟨gb445, 0, none⟩ (.slice Ao43 t432.length co43)).setCell ⟨gb445, 1, none⟩ (.slice Ao49 t435.length co49)).setCell ⟨gb445, 2, none⟩ (.slice Ao50 t438.length co50)).setCell ⟨gb445, 3, none⟩ (.int .i64 t441)).setCell ⟨gb445, 4, none⟩ (.int .i64 t442)).setCell ⟨gb445, 5, none⟩ (.int .i64 t443)).heap[gb445]? = some (.cells #[.slice Ao43 t432.length co43, .slice Ao49 t435.length co49, .slice Ao50 t438.length co50, .int .i64 t441, .int .i64 t442, .int .i64 t443] 30 (0, 0))) := ⟨by (repeat refine bk1 ?_); refine blk_put (cs := #[.slice Ao43 t432.length co43, .slice Ao49 t435.length co49, .slice Ao50 t438.length co50, .int .i64 t441, .int .i64 t442, .int .i64 0]) ?_ 5 _ rfl; (repeat refine bk1 ?_); refine blk_put (cs := #[.slice Ao43 t432.length co43, .slice Ao49 t435.length co49, .slice Ao50 t438.length co50, .int .i64 t441, .int .i64 0, .int .i64 0]) ?_ 4 _ rfl; (repeat refine bk1 ?_); refine blk_put (cs := #[.slice Ao43 t432.length co43, .slice Ao49 t435.length co49, .slice Ao50 t438.length co50, .int .i64 0, .int .i64 0, .int .i64 0]) ?_ 3 _ rfl; (repeat refine bk1 ?_); refine blk_put (cs := #[.slice Ao43 t432.length co43, .slice Ao49 t435.length co49, .slice none 0 0, .int .i64 0, .int .i64 0, .int .i64 0]) ?_ 2 _ rfl; (repeat refine bk1 ?_); refine blk_put (cs := #[.slice Ao43 t432.length co43, .slice none 0 0, .slice none 0 0, .int .i64 0, .int .i64 0, .int .i64 0]) ?_ 1 _ rfl; (repeat refine bk1 ?_); refine blk_put (cs := #[.slice none 0 0, .slice none 0 0, .slice none 0 0, .int .i64 0, .int .i64 0, .int .i64 0]) ?_ 0 _ rfl; (repeat refine bk1 ?_); exact BK445.out⟩
        have n12_ : Aside0 (Below w.heap.size w ((((((w42.setCell ⟨gb445, 0, none⟩ (.slice Ao43 t432.length co43)).setCell ⟨gb445, 1, none⟩ (.slice Ao49 t435.length co49)).setCell ⟨gb445, 2, none⟩ (.slice Ao50 t438.length co50)).setCell ⟨gb445, 3, none⟩ (.int .i64 t441)).setCell ⟨gb445, 4, none⟩ (.int .i64 t442)).setCell ⟨gb445, 5, none⟩ (.int .i64 t443))) := ⟨by repeat with_reducible first | exact bl HB.out | refine below_set ?_ GE412.out | refine below_set ?_ GE413.out | refine below_set ?_ GE429.out | refine below_set ?_ GE431.out | refine below_set ?_ GE445.out | refine bq ?_⟩
        (try clear HO_7)
        (try clear HO_430000)
        (try clear HO_430001)
        (try clear HO_430002)
        (try clear HO434)
        (try clear HO437)
        (try clear HO440)
        (try clear BK412)
        (try clear BK413)
        (try clear BK429)
        (try clear BK431)
        (try clear BK445)
        (try clear HB)
        generalize ((((((w42.setCell ⟨gb445, 0, none⟩ (.slice Ao43 t432.length co43)).setCell ⟨gb445, 1, none⟩ (.slice Ao49 t435.length co49)).setCell ⟨gb445, 2, none⟩ (.slice Ao50 t438.length co50)).setCell ⟨gb445, 3, none⟩ (.int .i64 t441)).setCell ⟨gb445, 4, none⟩ (.int .i64 t442)).setCell ⟨gb445, 5, none⟩ (.int .i64 t443)) = w51 at n0_ n1_ n2_ n3_ n4_ n5_ n6_ n7_ n8_ n9_ n10_ n11_ n12_ ⊢
        have HO_7 := n0_
        have HO_430000 := n1_
        have HO_430001 := n2_
        have HO_430002 := n3_
        have HO434 := n4_
        have HO437 := n5_
        have HO440 := n6_
        have BK412 := n7_
        have BK413 := n8_
        have BK429 := n9_
        have BK431 := n10_
        have BK445 := n11_
        have HB := n12_
        clear n0_ n1_ n2_ n3_ n4_ n5_ n6_ n7_ n8_ n9_ n10_ n11_ n12_
        have n0_ := Aside0.mk (Kd.R_drew HO_7.out)
        have n1_ := Aside0.mk (Kd.R_drew HO_430000.out)
        have n2_ := Aside0.mk (Kd.R_drew HO_430001.out)
        have n3_ := Aside0.mk (Kd.R_drew HO_430002.out)
        have n4_ := Aside0.mk (Kd.R_drew HO434.out)
        have n5_ := Aside0.mk (Kd.R_drew HO437.out)
        have n6_ := Aside0.mk (Kd.R_drew HO440.out)
        have n7_ := Aside0.mk (blk_drew BK412.out)
        have n8_ := Aside0.mk (blk_drew BK413.out)
        have n9_ := Aside0.mk (blk_drew BK429.out)
        have n10_ := Aside0.mk (blk_drew BK431.out)
        have n11_ := Aside0.mk (blk_drew BK445.out)
        have n12_ := Aside0.mk (below_drew1 HB.out)
        clear HO_7
        clear HO_430000
        clear HO_430001
        clear HO_430002
        clear HO434
        clear HO437
        clear HO440
        clear BK412
        clear BK413
        clear BK429
        clear BK431
        clear BK445
        clear HB
        have HO_7 := n0_
        have HO_430000 := n1_
        have HO_430001 := n2_
        have HO_430002 := n3_
        have HO434 := n4_
        have HO437 := n5_
        have HO440 := n6_
        have BK412 := n7_
        have BK413 := n8_
        have BK429 := n9_
        have BK431 := n10_
        have BK445 := n11_
        have HB := n12_
        clear n0_ n1_ n2_ n3_ n4_ n5_ n6_ n7_ n8_ n9_ n10_ n11_ n12_
        refine start_ (n := 7) (S := fun w' => w'.cell? ⟨gb445, 0, none⟩ = some (.slice Ao43 t432.length co43) ∧ w'.cell? ⟨gb445, 1, none⟩ = some (.slice Ao49 t435.length co49) ∧ w'.cell? ⟨gb445, 2, none⟩ = some (.slice Ao50 t438.length co50) ∧ w'.cell? ⟨gb445, 3, none⟩ = some (.int .i64 t441) ∧ w'.cell? ⟨gb445, 4, none⟩ = some (.int .i64 t442) ∧ w'.cell? ⟨gb445, 5, none⟩ = some (.int .i64 t443)) (ds := []) m0_7 (by kernel_rfl) rfl rfl ⟨ck BK445.out 0 rfl, ck BK445.out 1 rfl, ck BK445.out 2 rfl, ck BK445.out 3 rfl, ck BK445.out 4 rfl, ck BK445.out 5 rfl⟩ (fun hHeld => ?_)
        generalize w51.drew = w52 at HO_7 HO_430000 HO_430001 HO_430002 HO434 HO437 HO440 BK412 BK413 BK429 BK431 BK445 HB hHeld ⊢
        refine pure_ (i := 1) (N := some 32) (v := ?_) (a' := ?_) n68 rfl rfl (by kernel_rfl) (fun _ _ _ h => h) (Or.inl ⟨by rfl, ?_⟩) ?_ ?_
        rotate_left
        ·
         intro w'
         go_simp
         with_reducible rfl
        rotate_left
        ·
         simp only [sp_]
         rfl
        refine pure_ (i := 2) (N := some 33) (v := ?_) (a' := ?_) n69 rfl rfl (by kernel_rfl) (fun _ _ _ h => h) (Or.inl ⟨by rfl, ?_⟩) ?_ ?_
        rotate_left
        ·
         intro w'
         go_simp
         with_reducible rfl
        rotate_left
        ·
         simp only [sp_]
         rfl
        refine take_ (i := 0) (N := some 31) (v := ?_) (a' := ?_) m3_7 rfl rfl (by kernel_rfl) (fun _ _ _ h => h) (Or.inl ⟨by rfl, ?_⟩) hHeld ?_ ?_
        rotate_left
        ·
         rintro w' ⟨s0, s1, s2, s3, s4, s5⟩
         go_simp
         with_reducible rfl
        rotate_left
        ·
         simp only [sp_]
         rfl
        refine one_ (i := 3) (N := some 34) m4_7 rfl rfl (by kernel_rfl) (by decide) (fun K hK => ?_)
        refine value_ (w1 := ?_) (v := ?_) (by rfl) rfl ?_ ?_
        rotate_left 2
        ·
         go_simp
         constructor
         ·
          rfl
         ·
          rfl
        refine hK.out _ _ ⟨(blk_cell (blk_alloc BK445.out _) 0).trans rfl, (blk_cell (blk_alloc BK445.out _) 1).trans rfl, (blk_cell (blk_alloc BK445.out _) 2).trans rfl, (blk_cell (blk_alloc BK445.out _) 3).trans rfl, (blk_cell (blk_alloc BK445.out _) 4).trans rfl, (blk_cell (blk_alloc BK445.out _) 5).trans rfl⟩ (fun hHeld => ?_)
        clear hK K
        refine norm_ (a' := ?_) ?_ ?_
        rotate_left
        ·
         show Act.put _ (some 34) _ = _
         simp only [sp_]
         rfl
        refine one_ (i := 4) (N := some 35) m5_7 rfl rfl (by kernel_rfl) (by decide) (fun K hK => ?_)
        refine Kd.R_append_step Kd.bool (w0 := w) w.heap.size (by rfl) (.tmp 32) (.tmp 34) 48 4 (.bool false) 1 rfl Try.underlying48 info4 rfl (by decide) (by omega) u7 x7_1 t444 [.bool t444] (fun _ => True) (fun _ => False) rfl rfl ?aP (fun _ hk => hk.elim) ?aF ?aO ?aB ?aS ?aL ?_
        (case aP => exact rfl)
        (case aB => exact (by repeat with_reducible first | exact bl HB.out | refine below_set ?_ GE412.out | refine below_set ?_ GE413.out | refine below_set ?_ GE429.out | refine below_set ?_ GE431.out | refine below_set ?_ GE445.out | refine bq ?_))
        (case aF => exact (fun _ _ => trivial))
        (case aO => exact (rl HO_7.out))
        (case aS => exact (below_size (by repeat with_reducible first | exact bl HB.out | refine below_set ?_ GE412.out | refine below_set ?_ GE413.out | refine below_set ?_ GE429.out | refine below_set ?_ GE431.out | refine below_set ?_ GE445.out | refine bq ?_)))
        (case aL => have := LMc29.out; omega)
        intro v447 w53 ho hb hg hat
        rw [← Ny446.out] at ho
        have n0_ := Aside0.mk (Kd.R_over' (rl HO_430000.out) (Kd.R_typed (rl HO_7.out)) (by decide) hg)
        have n1_ := Aside0.mk (Kd.R_over' (rl HO_430001.out) (Kd.R_typed (rl HO_7.out)) (by decide) hg)
        have n2_ := Aside0.mk (Kd.R_over' (rl HO_430002.out) (Kd.R_typed (rl HO_7.out)) (by decide) hg)
        have n3_ := Aside0.mk (blk_grown (g := gb412) (o := .cells #[.slice A0_0 l0_0.length c0_0, .slice A0_1 l0_1.length c0_1, .slice A0_2 l0_2.length c0_2, .int .i64 a0_3, .int .i64 a0_4, .int .i64 a0_5] 30 (0, 0)) (bk BK412.out) hg (Kd.R_ne HO_7.out BK412.out (by decide)))
        have n4_ := Aside0.mk (blk_grown (g := gb413) (o := .cells #[.slice none 0 0, .slice none 0 0, .slice none 0 0, .int .i64 0, .int .i64 0, .int .i64 0] 30 (0, 0)) (bk BK413.out) hg (Kd.R_ne HO_7.out BK413.out (by decide)))
        have n5_ := Aside0.mk (blk_grown (g := gb429) (o := .cells #[.slice Ao38 x430000_1.length co38, .slice Ao39 x430001_1.length co39, .slice Ao40 x430002_1.length co40, .int .i64 x430003_1, .int .i64 x430004_1, .int .i64 x430005_1] 30 (0, 0)) (bk BK429.out) hg (Kd.R_ne HO_7.out BK429.out (by decide)))
        have n6_ := Aside0.mk (blk_grown (g := gb431) (o := .cells #[.int .i64 ((rd_T42 l1 x21_1).f0), .string ((rd_T42 l1 x21_1).f1), .int .i64 ((rd_T42 l1 x21_1).f2), .int .i64 ((rd_T42 l1 x21_1).f3)] 42 (0, 0)) (bk BK431.out) hg (Kd.R_ne HO_7.out BK431.out (by decide)))
        have n7_ := Aside0.mk (Kd.R_over' (rl HO434.out) (Kd.R_typed (rl HO_7.out)) (by decide) hg)
        have n8_ := Aside0.mk (Kd.R_over' (rl HO437.out) (Kd.R_typed (rl HO_7.out)) (by decide) hg)
        have n9_ := Aside0.mk (Kd.R_over' (rl HO440.out) (Kd.R_typed (rl HO_7.out)) (by decide) hg)
        have n10_ := Aside0.mk (blk_grown (g := gb445) (o := .cells #[.slice Ao43 t432.length co43, .slice Ao49 t435.length co49, .slice Ao50 t438.length co50, .int .i64 t441, .int .i64 t442, .int .i64 t443] 30 (0, 0)) (bk BK445.out) hg (Kd.R_ne HO_7.out BK445.out (by decide)))
        have n11_ := Aside0.mk (hb)
        have n12_ := Aside0.mk (ho)
        clear HO_430000
        clear HO_430001
        clear HO_430002
        clear BK412
        clear BK413
        clear BK429
        clear BK431
        clear HO434
        clear HO437
        clear HO440
        clear BK445
        clear HB
        clear HO_7
        have HO_430000 := n0_
        have HO_430001 := n1_
        have HO_430002 := n2_
        have BK412 := n3_
        have BK413 := n4_
        have BK429 := n5_
        have BK431 := n6_
        have HO434 := n7_
        have HO437 := n8_
        have HO440 := n9_
        have BK445 := n10_
        have HB := n11_
        have HO448 := n12_
        clear n0_ n1_ n2_ n3_ n4_ n5_ n6_ n7_ n8_ n9_ n10_ n11_ n12_
        clear ho hb hg hat
        refine hK.out _ _ ⟨ck BK445.out 0 rfl, ck BK445.out 1 rfl, ck BK445.out 2 rfl, ck BK445.out 3 rfl, ck BK445.out 4 rfl, ck BK445.out 5 rfl⟩ (fun hHeld => ?_)
        clear hK K
        refine norm_ (a' := ?_) ?_ ?_
        rotate_left
        ·
         show Act.put _ (some 35) _ = _
         simp only [sp_]
         rfl
        refine one_ (i := 5) (N := none) m6_7 rfl rfl (by kernel_rfl) (by decide) (fun K hK => ?_)
        have hs54 : w53.cell? ⟨gb429, 0, none⟩ = some (.slice Ao38 x430000_1.length co38) := ck BK429.out 0 rfl
        have hfs54 := blk_frozen BK429.out 0
        have hns54_0 := NB412_429.out
        have hns54_1 := NB413_429.out
        have hns54_3 := NB431_429.out
        have hns54_4 := NB445_429.out
        have hms54_0 := NB429_412.out
        have hms54_1 := NB429_413.out
        have hms54_3 := NB429_431.out
        have hms54_4 := NB429_445.out
        have hs55 : w53.cell? ⟨gb429, 1, none⟩ = some (.slice Ao39 x430001_1.length co39) := ck BK429.out 1 rfl
        have hfs55 := blk_frozen BK429.out 1
        have hns55_0 := NB412_429.out
        have hns55_1 := NB413_429.out
        have hns55_3 := NB431_429.out
        have hns55_4 := NB445_429.out
        have hms55_0 := NB429_412.out
        have hms55_1 := NB429_413.out
        have hms55_3 := NB429_431.out
        have hms55_4 := NB429_445.out
        have hs56 : w53.cell? ⟨gb429, 2, none⟩ = some (.slice Ao40 x430002_1.length co40) := ck BK429.out 2 rfl
        have hfs56 := blk_frozen BK429.out 2
        have hns56_0 := NB412_429.out
        have hns56_1 := NB413_429.out
        have hns56_3 := NB431_429.out
        have hns56_4 := NB445_429.out
        have hms56_0 := NB429_412.out
        have hms56_1 := NB429_413.out
        have hms56_3 := NB429_431.out
        have hms56_4 := NB429_445.out
        have hs57 : w53.cell? ⟨gb429, 3, none⟩ = some (.int .i64 x430003_1) := ck BK429.out 3 rfl
        have hfs57 := blk_frozen BK429.out 3
        have hns57_0 := NB412_429.out
        have hns57_1 := NB413_429.out
        have hns57_3 := NB431_429.out
        have hns57_4 := NB445_429.out
        have hms57_0 := NB429_412.out
        have hms57_1 := NB429_413.out
        have hms57_3 := NB429_431.out
        have hms57_4 := NB429_445.out
        have hs58 : w53.cell? ⟨gb429, 4, none⟩ = some (.int .i64 x430004_1) := ck BK429.out 4 rfl
        have hfs58 := blk_frozen BK429.out 4
        have hns58_0 := NB412_429.out
        have hns58_1 := NB413_429.out
        have hns58_3 := NB431_429.out
        have hns58_4 := NB445_429.out
        have hms58_0 := NB429_412.out
        have hms58_1 := NB429_413.out
        have hms58_3 := NB429_431.out
        have hms58_4 := NB429_445.out
        have hs59 : w53.cell? ⟨gb429, 5, none⟩ = some (.int .i64 x430005_1) := ck BK429.out 5 rfl
        have hfs59 := blk_frozen BK429.out 5
        have hns59_0 := NB412_429.out
        have hns59_1 := NB413_429.out
        have hns59_3 := NB431_429.out
        have hns59_4 := NB445_429.out
        have hms59_0 := NB429_412.out
        have hms59_1 := NB429_413.out
        have hms59_3 := NB429_431.out
        have hms59_4 := NB429_445.out
        refine skip_ (w1 := ?_) (by rfl) rfl ?_ ?_
        rotate_left
        ·
         go_simp
         rfl
        refine hK.out _ _ ⟨((cell_far (p := ⟨gb429, _, none⟩) NB445_429.out _).trans (((cell_far (p := ⟨gb429, _, none⟩) NB445_429.out _).trans (((cell_far (p := ⟨gb429, _, none⟩) NB445_429.out _).trans (((cell_far (p := ⟨gb429, _, none⟩) NB445_429.out _).trans (((cell_far (p := ⟨gb429, _, none⟩) NB445_429.out _).trans (((cell_far (p := ⟨gb429, _, none⟩) NB445_429.out _).trans (hHeld.1)))))))))))), ((cell_far (p := ⟨gb429, _, none⟩) NB445_429.out _).trans (((cell_far (p := ⟨gb429, _, none⟩) NB445_429.out _).trans (((cell_far (p := ⟨gb429, _, none⟩) NB445_429.out _).trans (((cell_far (p := ⟨gb429, _, none⟩) NB445_429.out _).trans (((cell_far (p := ⟨gb429, _, none⟩) NB445_429.out _).trans (((cell_far (p := ⟨gb429, _, none⟩) NB445_429.out _).trans (hHeld.2.1)))))))))))), ((cell_far (p := ⟨gb429, _, none⟩) NB445_429.out _).trans (((cell_far (p := ⟨gb429, _, none⟩) NB445_429.out _).trans (((cell_far (p := ⟨gb429, _, none⟩) NB445_429.out _).trans (((cell_far (p := ⟨gb429, _, none⟩) NB445_429.out _).trans (((cell_far (p := ⟨gb429, _, none⟩) NB445_429.out _).trans (((cell_far (p := ⟨gb429, _, none⟩) NB445_429.out _).trans (hHeld.2.2.1)))))))))))), ((cell_far (p := ⟨gb429, _, none⟩) NB445_429.out _).trans (((cell_far (p := ⟨gb429, _, none⟩) NB445_429.out _).trans (((cell_far (p := ⟨gb429, _, none⟩) NB445_429.out _).trans (((cell_far (p := ⟨gb429, _, none⟩) NB445_429.out _).trans (((cell_far (p := ⟨gb429, _, none⟩) NB445_429.out _).trans (((cell_far (p := ⟨gb429, _, none⟩) NB445_429.out _).trans (hHeld.2.2.2.1)))))))))))), ((cell_far (p := ⟨gb429, _, none⟩) NB445_429.out _).trans (((cell_far (p := ⟨gb429, _, none⟩) NB445_429.out _).trans (((cell_far (p := ⟨gb429, _, none⟩) NB445_429.out _).trans (((cell_far (p := ⟨gb429, _, none⟩) NB445_429.out _).trans (((cell_far (p := ⟨gb429, _, none⟩) NB445_429.out _).trans (((cell_far (p := ⟨gb429, _, none⟩) NB445_429.out _).trans (hHeld.2.2.2.2.1)))))))))))), ((cell_far (p := ⟨gb429, _, none⟩) NB445_429.out _).trans (((cell_far (p := ⟨gb429, _, none⟩) NB445_429.out _).trans (((cell_far (p := ⟨gb429, _, none⟩) NB445_429.out _).trans (((cell_far (p := ⟨gb429, _, none⟩) NB445_429.out _).trans (((cell_far (p := ⟨gb429, _, none⟩) NB445_429.out _).trans (((cell_far (p := ⟨gb429, _, none⟩) NB445_429.out _).trans (hHeld.2.2.2.2.2))))))))))))⟩ (fun hHeld => ?_)
        clear hK K
        refine pure_ (i := 6) (N := some 7) (v := ?_) (a' := ?_) m7_7 rfl rfl (by kernel_rfl) (fun _ _ _ h => h) (Or.inl ⟨by rfl, ?_⟩) ?_ ?_
        rotate_left
        ·
         intro w'
         go_simp
         with_reducible rfl
        rotate_left
        ·
         simp only [sp_]
         rfl
        refine done_ (by kernel_rfl) ?_
        try go_wp2
        go_roundg k1
        case measure => have := HK1.out; omega
        case rel => exact ⟨(y446), (wrap64 (x21_1 + 1)), (t432), (t435), (t438), (t441), (t442), (t443), (.slice Ao43 t432.length co43), (.slice Ao49 t435.length co49), (.slice Ao50 t438.length co50), (by first | rfl | (simp; done) | (simp [*]; done)), H', ⟨by have := HK1.out; omega⟩, ⟨by (repeat apply rl1); exact Kd.R_mono (Kd.R_far (p := ⟨gb429, 5, none⟩) (Kd.R_far (p := ⟨gb429, 4, none⟩) (Kd.R_far (p := ⟨gb429, 3, none⟩) (Kd.R_far (p := ⟨gb429, 2, none⟩) (Kd.R_far (p := ⟨gb429, 1, none⟩) (Kd.R_far (p := ⟨gb429, 0, none⟩) (Kd.R_types HO448.out BK429.out (by decide)) (fun _ hk => hk.2) (.slice Ao43 t432.length co43)) (fun _ hk => hk.2) (.slice Ao49 t435.length co49)) (fun _ hk => hk.2) (.slice Ao50 t438.length co50)) (fun _ hk => hk.2) (.int .i64 t441)) (fun _ hk => hk.2) (.int .i64 t442)) (fun _ hk => hk.2) (.int .i64 t443)) (fun _ hk => trivial)⟩, ⟨by (repeat apply rl1); exact Kd.R_mono (Kd.R_far (p := ⟨gb429, 5, none⟩) (Kd.R_far (p := ⟨gb429, 4, none⟩) (Kd.R_far (p := ⟨gb429, 3, none⟩) (Kd.R_far (p := ⟨gb429, 2, none⟩) (Kd.R_far (p := ⟨gb429, 1, none⟩) (Kd.R_far (p := ⟨gb429, 0, none⟩) (Kd.R_types HO434.out BK429.out (by decide)) (fun _ hk => hk.2) (.slice Ao43 t432.length co43)) (fun _ hk => hk.2) (.slice Ao49 t435.length co49)) (fun _ hk => hk.2) (.slice Ao50 t438.length co50)) (fun _ hk => hk.2) (.int .i64 t441)) (fun _ hk => hk.2) (.int .i64 t442)) (fun _ hk => hk.2) (.int .i64 t443)) (fun _ hk => trivial)⟩, ⟨by (repeat apply rl1); exact Kd.R_mono (Kd.R_far (p := ⟨gb429, 5, none⟩) (Kd.R_far (p := ⟨gb429, 4, none⟩) (Kd.R_far (p := ⟨gb429, 3, none⟩) (Kd.R_far (p := ⟨gb429, 2, none⟩) (Kd.R_far (p := ⟨gb429, 1, none⟩) (Kd.R_far (p := ⟨gb429, 0, none⟩) (Kd.R_types HO437.out BK429.out (by decide)) (fun _ hk => hk.2) (.slice Ao43 t432.length co43)) (fun _ hk => hk.2) (.slice Ao49 t435.length co49)) (fun _ hk => hk.2) (.slice Ao50 t438.length co50)) (fun _ hk => hk.2) (.int .i64 t441)) (fun _ hk => hk.2) (.int .i64 t442)) (fun _ hk => hk.2) (.int .i64 t443)) (fun _ hk => trivial)⟩, ⟨by (repeat apply rl1); exact Kd.R_mono (Kd.R_far (p := ⟨gb429, 5, none⟩) (Kd.R_far (p := ⟨gb429, 4, none⟩) (Kd.R_far (p := ⟨gb429, 3, none⟩) (Kd.R_far (p := ⟨gb429, 2, none⟩) (Kd.R_far (p := ⟨gb429, 1, none⟩) (Kd.R_far (p := ⟨gb429, 0, none⟩) (Kd.R_types HO440.out BK429.out (by decide)) (fun _ hk => hk.2) (.slice Ao43 t432.length co43)) (fun _ hk => hk.2) (.slice Ao49 t435.length co49)) (fun _ hk => hk.2) (.slice Ao50 t438.length co50)) (fun _ hk => hk.2) (.int .i64 t441)) (fun _ hk => hk.2) (.int .i64 t442)) (fun _ hk => hk.2) (.int .i64 t443)) (fun _ hk => trivial)⟩, ⟨by (repeat refine bk1 ?_); refine blk_far ?_ NB412_429.out _; (repeat refine bk1 ?_); refine blk_far ?_ NB412_429.out _; (repeat refine bk1 ?_); refine blk_far ?_ NB412_429.out _; (repeat refine bk1 ?_); refine blk_far ?_ NB412_429.out _; (repeat refine bk1 ?_); refine blk_far ?_ NB412_429.out _; (repeat refine bk1 ?_); refine blk_far ?_ NB412_429.out _; (repeat refine bk1 ?_); exact BK412.out⟩, ⟨by (repeat refine bk1 ?_); refine blk_far ?_ NB413_429.out _; (repeat refine bk1 ?_); refine blk_far ?_ NB413_429.out _; (repeat refine bk1 ?_); refine blk_far ?_ NB413_429.out _; (repeat refine bk1 ?_); refine blk_far ?_ NB413_429.out _; (repeat refine bk1 ?_); refine blk_far ?_ NB413_429.out _; (repeat refine bk1 ?_); refine blk_far ?_ NB413_429.out _; (repeat refine bk1 ?_); exact BK413.out⟩, ⟨by (repeat refine bk1 ?_); refine blk_put (cs := #[.slice Ao43 t432.length co43, .slice Ao49 t435.length co49, .slice Ao50 t438.length co50, .int .i64 t441, .int .i64 t442, .int .i64 x430005_1]) ?_ 5 _ rfl; (repeat refine bk1 ?_); refine blk_put (cs := #[.slice Ao43 t432.length co43, .slice Ao49 t435.length co49, .slice Ao50 t438.length co50, .int .i64 t441, .int .i64 x430004_1, .int .i64 x430005_1]) ?_ 4 _ rfl; (repeat refine bk1 ?_); refine blk_put (cs := #[.slice Ao43 t432.length co43, .slice Ao49 t435.length co49, .slice Ao50 t438.length co50, .int .i64 x430003_1, .int .i64 x430004_1, .int .i64 x430005_1]) ?_ 3 _ rfl; (repeat refine bk1 ?_); refine blk_put (cs := #[.slice Ao43 t432.length co43, .slice Ao49 t435.length co49, .slice Ao40 x430002_1.length co40, .int .i64 x430003_1, .int .i64 x430004_1, .int .i64 x430005_1]) ?_ 2 _ rfl; (repeat refine bk1 ?_); refine blk_put (cs := #[.slice Ao43 t432.length co43, .slice Ao39 x430001_1.length co39, .slice Ao40 x430002_1.length co40, .int .i64 x430003_1, .int .i64 x430004_1, .int .i64 x430005_1]) ?_ 1 _ rfl; (repeat refine bk1 ?_); refine blk_put (cs := #[.slice Ao38 x430000_1.length co38, .slice Ao39 x430001_1.length co39, .slice Ao40 x430002_1.length co40, .int .i64 x430003_1, .int .i64 x430004_1, .int .i64 x430005_1]) ?_ 0 _ rfl; (repeat refine bk1 ?_); exact BK429.out⟩, ⟨by repeat with_reducible first | exact bl HB.out | refine below_set ?_ GE412.out | refine below_set ?_ GE413.out | refine below_set ?_ GE429.out | refine below_set ?_ GE431.out | refine below_set ?_ GE445.out | refine bq ?_⟩⟩
       ·
        rw [if_neg c29] at H
        exact absurd H (by simp)
      ·
       rw [if_neg c27] at H
       exact absurd H (by simp)
     ·
      rw [if_neg c26] at H
      exact absurd H (by simp)
    ·
     rw [if_neg c25] at H
     have c25b0 : decide (x21_1 < (l1.length : Int)) = false := decide_eq_false c25
     clear c25
     simp only [Option.some.injEq, Prod.mk.injEq] at H
     obtain ⟨rfl, rfl, rfl, rfl, rfl, rfl, rfl⟩ := H
     have hnb60 := NB429_412.out
     have hnc60 := NB412_429.out
     have hnb61 := NB429_413.out
     have hnc61 := NB413_429.out
     obtain ⟨hcz62_0, hcz62_1, hcz62_2, hcz62_3, hcz62_4, hcz62_5⟩ := ck6 BK429.out
     obtain ⟨hfz62_0, hfz62_1, hfz62_2, hfz62_3, hfz62_4, hfz62_5⟩ := fz6 BK429.out
     obtain ⟨Ao63, co63, eo63⟩ := Kd.R_slice HO_430000.out
     subst eo63
     have hnb64 := NB413_412.out
     have hnc64 := NB412_413.out
     obtain ⟨hcz65_0, hcz65_1, hcz65_2, hcz65_3, hcz65_4, hcz65_5⟩ := ck6 BK413.out
     obtain ⟨hfz65_0, hfz65_1, hfz65_2, hfz65_3, hfz65_4, hfz65_5⟩ := fz6 BK413.out
     obtain ⟨Ao66, co66, eo66⟩ := Kd.R_slice HO_430001.out
     subst eo66
     obtain ⟨Ao67, co67, eo67⟩ := Kd.R_slice HO_430002.out
     subst eo67
     go_wp2
     refine bodyPost_ret (results_ct rfl _ _ gb413 30 #[.slice Ao63 x430000_1.length co63, .slice Ao66 x430001_1.length co66, .slice Ao67 x430002_1.length co67, .int .i64 x430003_1, .int .i64 x430004_1, .int .i64 x430005_1] (0, 0) _ rfl (by (repeat refine bk1 ?_); refine blk_put (cs := #[.slice Ao63 x430000_1.length co63, .slice Ao66 x430001_1.length co66, .slice Ao67 x430002_1.length co67, .int .i64 x430003_1, .int .i64 x430004_1, .int .i64 0]) ?_ 5 _ rfl; (repeat refine bk1 ?_); refine blk_put (cs := #[.slice Ao63 x430000_1.length co63, .slice Ao66 x430001_1.length co66, .slice Ao67 x430002_1.length co67, .int .i64 x430003_1, .int .i64 0, .int .i64 0]) ?_ 4 _ rfl; (repeat refine bk1 ?_); refine blk_put (cs := #[.slice Ao63 x430000_1.length co63, .slice Ao66 x430001_1.length co66, .slice Ao67 x430002_1.length co67, .int .i64 0, .int .i64 0, .int .i64 0]) ?_ 3 _ rfl; (repeat refine bk1 ?_); refine blk_put (cs := #[.slice Ao63 x430000_1.length co63, .slice Ao66 x430001_1.length co66, .slice none 0 0, .int .i64 0, .int .i64 0, .int .i64 0]) ?_ 2 _ rfl; (repeat refine bk1 ?_); refine blk_put (cs := #[.slice Ao63 x430000_1.length co63, .slice none 0 0, .slice none 0 0, .int .i64 0, .int .i64 0, .int .i64 0]) ?_ 1 _ rfl; (repeat refine bk1 ?_); refine blk_put (cs := #[.slice none 0 0, .slice none 0 0, .slice none 0 0, .int .i64 0, .int .i64 0, .int .i64 0]) ?_ 0 _ rfl; (repeat refine bk1 ?_); exact BK413.out) Try.underlying30 rfl (by kernel_rfl)) rfl ?_
     exact ⟨_, _, _, _, by first | rfl | (simp [errW_none, errW_some] <;> rfl) | (simp [*, errW_none, errW_some] <;> rfl), by (repeat apply rl1); exact Kd.R_mono (Kd.R_far (p := ⟨gb413, 5, none⟩) (Kd.R_far (p := ⟨gb413, 4, none⟩) (Kd.R_far (p := ⟨gb413, 3, none⟩) (Kd.R_far (p := ⟨gb413, 2, none⟩) (Kd.R_far (p := ⟨gb413, 1, none⟩) (Kd.R_far (p := ⟨gb413, 0, none⟩) (Kd.R_types HO_430000.out BK413.out (by decide)) (fun _ hk => hk.2) (.slice Ao63 x430000_1.length co63)) (fun _ hk => hk.2) (.slice Ao66 x430001_1.length co66)) (fun _ hk => hk.2) (.slice Ao67 x430002_1.length co67)) (fun _ hk => hk.2) (.int .i64 x430003_1)) (fun _ hk => hk.2) (.int .i64 x430004_1)) (fun _ hk => hk.2) (.int .i64 x430005_1)) (fun _ hk => trivial), by (repeat apply rl1); exact Kd.R_mono (Kd.R_far (p := ⟨gb413, 5, none⟩) (Kd.R_far (p := ⟨gb413, 4, none⟩) (Kd.R_far (p := ⟨gb413, 3, none⟩) (Kd.R_far (p := ⟨gb413, 2, none⟩) (Kd.R_far (p := ⟨gb413, 1, none⟩) (Kd.R_far (p := ⟨gb413, 0, none⟩) (Kd.R_types HO_430001.out BK413.out (by decide)) (fun _ hk => hk.2) (.slice Ao63 x430000_1.length co63)) (fun _ hk => hk.2) (.slice Ao66 x430001_1.length co66)) (fun _ hk => hk.2) (.slice Ao67 x430002_1.length co67)) (fun _ hk => hk.2) (.int .i64 x430003_1)) (fun _ hk => hk.2) (.int .i64 x430004_1)) (fun _ hk => hk.2) (.int .i64 x430005_1)) (fun _ hk => trivial), by (repeat apply rl1); exact Kd.R_mono (Kd.R_far (p := ⟨gb413, 5, none⟩) (Kd.R_far (p := ⟨gb413, 4, none⟩) (Kd.R_far (p := ⟨gb413, 3, none⟩) (Kd.R_far (p := ⟨gb413, 2, none⟩) (Kd.R_far (p := ⟨gb413, 1, none⟩) (Kd.R_far (p := ⟨gb413, 0, none⟩) (Kd.R_types HO_430002.out BK413.out (by decide)) (fun _ hk => hk.2) (.slice Ao63 x430000_1.length co63)) (fun _ hk => hk.2) (.slice Ao66 x430001_1.length co66)) (fun _ hk => hk.2) (.slice Ao67 x430002_1.length co67)) (fun _ hk => hk.2) (.int .i64 x430003_1)) (fun _ hk => hk.2) (.int .i64 x430004_1)) (fun _ hk => hk.2) (.int .i64 x430005_1)) (fun _ hk => trivial), by (repeat apply rl1); exact Kd.R_mono (Kd.R_far (p := ⟨gb413, 5, none⟩) (Kd.R_far (p := ⟨gb413, 4, none⟩) (Kd.R_far (p := ⟨gb413, 3, none⟩) (Kd.R_far (p := ⟨gb413, 2, none⟩) (Kd.R_far (p := ⟨gb413, 1, none⟩) (Kd.R_far (p := ⟨gb413, 0, none⟩) (Kd.R_types HO_7.out BK413.out (by decide)) (fun _ hk => hk.2) (.slice Ao63 x430000_1.length co63)) (fun _ hk => hk.2) (.slice Ao66 x430001_1.length co66)) (fun _ hk => hk.2) (.slice Ao67 x430002_1.length co67)) (fun _ hk => hk.2) (.int .i64 x430003_1)) (fun _ hk => hk.2) (.int .i64 x430004_1)) (fun _ hk => hk.2) (.int .i64 x430005_1)) (fun _ hk => trivial), by repeat with_reducible first | exact bl HB.out | refine below_set ?_ GE412.out | refine below_set ?_ GE413.out | refine below_set ?_ GE429.out | refine bq ?_⟩

end Go.Proofs.Ytdimdlifjdbgnaa.PFnReleased
