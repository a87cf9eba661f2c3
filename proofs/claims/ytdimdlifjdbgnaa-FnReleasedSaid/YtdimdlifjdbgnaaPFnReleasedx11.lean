-- Written by a program of this session (wip/xprint.py) out of the translation; Lean checks it.
import Derived.Test.YtdimdlifjdbgnaaPFnReleasedx0
import Derived.Test.YtdimdlifjdbgnaaPFnReleasedx1
import Derived.Test.YtdimdlifjdbgnaaPFnReleasedx2
import Derived.Test.YtdimdlifjdbgnaaPFnReleasedx3
import Derived.Test.YtdimdlifjdbgnaaPFnReleasedx4
import Derived.Test.YtdimdlifjdbgnaaPFnReleasedx5
import Derived.Test.YtdimdlifjdbgnaaPFnReleasedx6
import Derived.Test.YtdimdlifjdbgnaaPFnReleasedx7
import Derived.Test.YtdimdlifjdbgnaaPFnReleasedx8
import Derived.Test.YtdimdlifjdbgnaaPFnReleasedx9
import Derived.Test.YtdimdlifjdbgnaaPFnReleasedx10
namespace Go.Proofs.Ytdimdlifjdbgnaa.PFnReleased
open Go.RowKit Go.Proofs.YtdimdlifjdbgnaaW.PrintWords Go.Proofs.YtdimdlifjdbgnaaW.PrintLast Go.Proofs.YtdimdlifjdbgnaaW.PrintMore Go.Proofs.Ytdimdlifjdbgnaa.Sq
attribute [local go_sem] max2_int min2_int max_two min_two max_three min_three max_four min_four   -- for this text's walks alone
set_option linter.unusedVariables false
set_option linter.unusedSimpArgs false

-- HAND FROM
/-! ### clear(s[i:]) and s[:i], elements of any size (by hand) -/
theorem run_clear_many {P : Program} (w : World) (t e ty : TypeId) (z : Value) (ht : P.underlying t = some (.slice e)) (hv : ∀ w, (zeroValue e).run P w = .ok z w) (h1 : ∀ u ∈ z.cells.toList, u.oneCell' = true) (g o n c : Nat) (hn : 0 < n) {cur : Array Value} {et : Nat} (hh : w.heap[g]? = some (.cells cur et (0, 0))) (hfit : o + n * z.cells.size ≤ cur.size) :
    (Builtin.clear_ #[t] ty #[.slice (some ⟨g, o, none⟩) n c]).run P w = .ok (.tuple #[]) (w.setCells g o (Builtin.zeroCells z.cells n).toList) := by
  have hl : (Builtin.zeroCells z.cells n).toList.length = n * z.cells.size := by rw [Array.length_toList, size_zeroCells]
  have hst := run_storeCells_cells (P := P) g o (Builtin.zeroCells z.cells n).toList 0 w
    (fun j hj => by rw [hl] at hj; rw [blk_cell hh]; simp; omega)
    (fun j _ => blk_frozen hh _)
    (fun v hv' => by
      have : v ∈ z.cells.toList := by
        simp only [Builtin.zeroCells] at hv'
        simp at hv'
        obtain ⟨a, ha, rfl⟩ := hv'
        have hp : 0 < z.cells.size := Nat.pos_of_ne_zero (fun h0 => by rw [h0] at ha; omega)
        have hlt := Nat.mod_lt a hp
        rw [getElem!_pos z.cells _ hlt]
        simp
      exact h1 v this)
  simp only [Nat.add_zero] at hst
  obtain ⟨m, rfl⟩ : ∃ m, n = m + 1 := ⟨n - 1, by omega⟩
  simp [Builtin.clear_, run_underlying ht, hv, hst]
theorem R_clear {α : Type} {d : Kd α} {e n c g i : Nat} {w : World} {base : Nat} {ok : Nat → Prop} {xs : List α} (h : d.R e w base ok (.slice (some ⟨g, 0, none⟩) n c) xs) (hi : i ≤ xs.length) (zs : List Value) (hz : i * d.sz + zs.length ≤ c * d.sz) :
    d.R e (w.setCells g (i * d.sz) zs) base ok (.slice (some ⟨g, 0, none⟩) i c) (xs.take i) ∧ w.grownBy (w.setCells g (i * d.sz) zs) (some g) := by
  have h' := Kd.R_take h hi
  obtain ⟨s1, s2, s3, s4⟩ := setCells_same g zs (i * d.sz) w
  obtain ⟨h0, inner, ho, hr⟩ := h'
  refine ⟨⟨h0, inner, ?_, hr.imp_ (fun p cs hp => d.M_move (fun k hk => setCells_far zs _ k (fun he => hk.2 (by rw [he]; rfl))) hp)⟩, ⟨s1, s2, s3, by omega, fun k _ hk => setCells_far zs _ k (fun he => hk (by rw [he]))⟩⟩
  obtain ⟨hl, ho⟩ := ho
  refine ⟨hl, .inr ?_⟩
  rcases ho with ⟨hv, _⟩ | ⟨g', cap, cur, hv, hb, hh, hnc, hcm, hcs, ht⟩
  · cases hv
  · injection hv with hv1 hv2 hv3
    injection hv1 with hv1
    injection hv1 with hv1
    subst hv1 hv3
    obtain ⟨cur', hh', hs', ht'⟩ := setCells_row zs (i * d.sz) w cur hh (by omega)
    refine ⟨g, c, cur', by rw [← hv2], hb, hh', hnc, hcm, by omega, ?_⟩
    rw [← hv2] at ht ⊢
    rw [← ht, ht', List.take_append_of_le_length, List.take_append_of_le_length, List.take_take, Nat.min_self]
    · rw [List.length_take, Array.length_toList]; have := Nat.mul_le_mul_right d.sz hnc; omega
    · rw [List.length_append, List.length_take, Array.length_toList]; have := Nat.mul_le_mul_right d.sz hnc; omega
theorem Kd.R_frozen_ {α : Type} {d : Kd α} {e n c g : Nat} {w : World} {base : Nat} {ok : Nat → Prop} {xs : List α} (h : d.R e w base ok (.slice (some ⟨g, 0, none⟩) n c) xs) (m : Nat) : w.frozen? ⟨g, m, none⟩ = false := by
  obtain ⟨_, inner, ho, _⟩ := h
  obtain ⟨cells, hc⟩ := own_typed ho g (by simp [Value.ownBlock])
  exact blk_frozen hc _
/-! ### slices.DeleteFunc (function 82) and its slices.IndexFunc (105) with the function value 83 (by hand) -/
def FirstAt83 (q : S57 → Bool) (l : List S57) (i : Int) : Prop := (i = -1 ∧ l.any q = false) ∨ ∃ j : Nat, i = (j : Int) ∧ j < l.length ∧ (l.take j).any q = false ∧ q (rd_T57 l (j : Int)) = true
theorem rdd83 {l : List S57} {i : Nat} (h : i < l.length) : rd_T57 l (i : Int) = l[i] := by simp [rd_T57, List.getD_eq_getElem?_getD, h]
theorem anyd83 (q : S57 → Bool) {l : List S57} {i : Nat} (h : i < l.length) (hn : (l.take i).any q = false) (hb : q (rd_T57 l (i : Int)) = false) : (l.take (i + 1)).any q = false := by
  rw [List.take_succ_eq_append_getElem h, List.any_append, hn, ← rdd83 h]
  simp [hb]
theorem FirstAt83.same {q : S57 → Bool} {l : List S57} {i : Int} {j : Nat} (h : FirstAt83 q l i) (hj : j < l.length) (h1 : (l.take j).any q = false) (h2 : q (rd_T57 l (j : Int)) = true) : i = (j : Int) := by
  rcases h with ⟨rfl, h⟩ | ⟨k, rfl, hk, h3, h4⟩
  · exact absurd (List.any_eq_false.1 h _ (List.getElem_mem hj)) (by rw [← rdd83 hj, h2]; simp)
  · rcases Nat.lt_trichotomy k j with hlt | rfl | hlt
    · refine absurd (List.any_eq_false.1 h1 l[k] ?_) (by rw [← rdd83 hk, h4]; simp)
      rw [List.mem_take_iff_getElem]
      exact ⟨k, by omega, rfl⟩
    · rfl
    · refine absurd (List.any_eq_false.1 h3 l[j] ?_) (by rw [← rdd83 hj, h2]; simp)
      rw [List.mem_take_iff_getElem]
      exact ⟨j, by omega, rfl⟩
theorem FirstAt83.none {q : S57 → Bool} {l : List S57} {i : Int} (h : FirstAt83 q l i) (h1 : l.any q = false) : i = -1 := by
  rcases h with ⟨rfl, h⟩ | ⟨k, rfl, hk, h3, h4⟩
  · rfl
  · exact absurd (List.any_eq_false.1 h1 _ (List.getElem_mem hk)) (by rw [← rdd83 hk, h4]; simp)
theorem firstd83 (q : S57 → Bool) : ∀ l : List S57, l.any q = true → ∃ j : Nat, j < l.length ∧ (l.take j).any q = false ∧ q (rd_T57 l (j : Int)) = true
  | [], h => by simp at h
  | x :: l, h => by
    cases hx : q x with
    | true => exact ⟨0, by simp, by simp, by simpa [rd_T57] using hx⟩
    | false =>
      obtain ⟨j, h1, h2, h3⟩ := firstd83 q l (by simpa [hx] using h)
      refine ⟨j + 1, by simpa using h1, by simp [hx]; simpa using h2, ?_⟩
      rw [rdd83 (by simpa using h1)]
      rw [rdd83 h1] at h3
      simpa using h3
set_option maxHeartbeats 8000000 in
theorem index83 (q : S57 → Bool) (cs : Array Value) (tb : Nat) (HQ : Aside0 (∀ (x : S57) (B : Nat) (W : World), W.heap[B]? = some (.cells cs tb (0, 0)) → Calls Try.prog 83 #[.agg #[.string x.f0, .int .i64 x.f1, .int .i64 x.f2], .pointer (some ⟨B, 0, none⟩)] W fun e w' => e = .returned (.bool (q x)) ∧ Below W.heap.size W w'))
    (l : List S57) (A : Option Addr) (c : Nat) (B : Nat) (w : World) (hr : Kd.C k57 w A l.length l) (hc : l.length ≤ c) (hl : l.length ≤ 1152921504606846976) (hB : w.heap[B]? = some (.cells cs tb (0, 0))) :
    Calls Try.prog 105 #[.slice A l.length c, .func (.func 83) #[] #[.pointer (some ⟨B, 0, none⟩)]] w fun e w' => (∃ i : Int, e = .returned (.int .i64 i) ∧ FirstAt83 q l i) ∧ Below w.heap.size w w' := by
  have hu_ := Try.underlying57
  have HR := Aside0.mk hr
  have HBB := Aside0.mk hB
  have HL := Aside0.mk hl
  clear hr hB
  go_enter Try.func105, Try.ntmps105
  go_wp2
  go_loopw [8] (fun v8 wr => ∃ i : Nat, i ≤ l.length ∧ v8 = .int .i64 i ∧ Aside0 ((l.take i).any q = false) ∧ Aside0 (Below w.heap.size w wr)) (fun v8 _ => l.length - (intOf v8).toNat)
  case atStart => exact ⟨0, Nat.zero_le _, rfl, ⟨by simp⟩, ⟨Below.refl _ _⟩⟩
  case round =>
    obtain ⟨i, hi, rfl, HN, HB⟩ := hrel
    by_cases hlt : i < l.length
    · obtain ⟨ad, e0, hx0, hx1, hx2⟩ := at_T57 (Kd.C_below HR.out HB.out) (i : Int) (by omega) (by omega)
      cases e0
      simp only [Int.toNat_natCast] at hx0 hx1 hx2
      have hBr := Aside0.mk (blk_below HBB.out (Below.mono HB.out (Nat.le_refl _)))
      cases hb : q (rd_T57 l (i : Int)) with
      | true =>
        have HB1 := Aside0.mk hb
        clear hb
        go_wp2_with (first | (go_at_call 83; (with_reducible refine (HQ.out _ _ _ hBr.out).mono ?_); rw [HB1.out]; rintro e w' ⟨rfl, hb⟩))
        go_ret
        exact ⟨⟨(i : Int), rfl, .inr ⟨i, rfl, hlt, HN.out, HB1.out⟩⟩, below_step HB.out hb⟩
      | false =>
        have HB1 := Aside0.mk hb
        clear hb
        go_wp2_with (first | (go_at_call 83; (with_reducible refine (HQ.out _ _ _ hBr.out).mono ?_); rw [HB1.out]; rintro e w' ⟨rfl, hb⟩))
        go_roundw
        case rel => exact ⟨i + 1, by omega, by go_num, ⟨anyd83 _ hlt HN.out HB1.out⟩, ⟨below_step HB.out hb⟩⟩
        case measure => simp [intOf]; omega
    · obtain rfl : i = l.length := by omega
      go_wp2
      go_ret
      have hn := HN.out
      rw [List.take_length] at hn
      exact ⟨⟨-1, rfl, .inl ⟨rfl, hn⟩⟩, HB.out⟩
theorem keepd83 (q : S57 → Bool) {l xs : List S57} {i j : Nat} (hij : i < j) (hj : j < l.length) (hx : xs.length = l.length) (h1 : xs.take i = (l.take j).filter (fun x => !q x)) (h2 : xs.drop j = l.drop j) :
    rd_T57 xs (j : Int) = rd_T57 l (j : Int) ∧
    (q (rd_T57 l (j : Int)) = true → xs.take i = (l.take (j + 1)).filter (fun x => !q x)) ∧
    (q (rd_T57 l (j : Int)) = false → (xs.set i (rd_T57 l (j : Int))).take (i + 1) = (l.take (j + 1)).filter (fun x => !q x)) ∧
    xs.drop (j + 1) = l.drop (j + 1) ∧ (∀ y, (xs.set i y).drop (j + 1) = l.drop (j + 1)) := by
  have e : xs[j] = l[j] := by
    have := congrArg (fun t => t[0]?) h2
    simpa [List.getElem?_drop, hj, hx] using this
  have h3 : xs.drop (j + 1) = l.drop (j + 1) := by
    have := congrArg (List.drop 1) h2
    simpa [List.drop_drop] using this
  refine ⟨by rw [rdd83 (by omega), rdd83 hj, e], fun hq => ?_, fun hq => ?_, h3, fun y => ?_⟩
  · rw [rdd83 hj] at hq
    rw [List.take_succ_eq_append_getElem hj, List.filter_append, h1]
    simp [hq]
  · have hi : i < xs.length := by omega
    rw [rdd83 hj] at hq ⊢
    rw [List.take_succ_eq_append_getElem hj, List.filter_append, ← h1]
    rw [List.take_succ_eq_append_getElem (by simpa using hi)]
    simp [hq, List.take_set_of_le]
  · rw [List.drop_set_of_lt (by omega), h3]
def z083 : Value := .agg #[.string ByteArray.empty, .int .i64 0, .int .i64 0]
theorem zrun83 : ∀ w, (zeroValue 57).run Try.prog w = .ok z083 w := fun w => by kernel_rfl
theorem share183 (x : S57) (d0 : Int) (d1 : ByteArray) (d2 : Int) (d3 : Int) (B : Nat) (w : World) (hB : w.heap[B]? = some (.cells #[.int .i64 d0, .string d1, .int .i64 d2, .int .i64 d3] 42 (0, 0))) :
    Calls Try.prog 83 #[.agg #[.string x.f0, .int .i64 x.f1, .int .i64 x.f2], .pointer (some ⟨B, 0, none⟩)] w fun e w' => e = .returned (.bool (x.f1 == d2)) ∧ Below w.heap.size w w' := by
  have hu62 := Try.underlying57
  have hc0 : w.cell? ⟨B, 0, none⟩ = some (.int .i64 d0) := (blk_cell hB 0).trans rfl
  have hc1 : w.cell? ⟨B, 1, none⟩ = some (.string d1) := (blk_cell hB 1).trans rfl
  have hc2 : w.cell? ⟨B, 2, none⟩ = some (.int .i64 d2) := (blk_cell hB 2).trans rfl
  have hc3 : w.cell? ⟨B, 3, none⟩ = some (.int .i64 d3) := (blk_cell hB 3).trans rfl
  have hlt : B < w.heap.size := blk_lt hB
  clear hB
  go_enter Try.func83, Try.ntmps83
  go_wp2
  go_ret
  exact ⟨by first | rfl | simp, by repeat (first | exact Below.refl _ _ | apply below_alloc | apply pw_below_drewN)⟩
set_option maxHeartbeats 8000000 in
set_option maxRecDepth 100000 in
theorem delete83 (q : S57 → Bool) (cs : Array Value) (tb : Nat) (htb : 57 ≠ tb) (HQ : Aside0 (∀ (x : S57) (B : Nat) (W : World), W.heap[B]? = some (.cells cs tb (0, 0)) → Calls Try.prog 83 #[.agg #[.string x.f0, .int .i64 x.f1, .int .i64 x.f2], .pointer (some ⟨B, 0, none⟩)] W fun e w' => e = .returned (.bool (q x)) ∧ Below W.heap.size W w'))
    (P0_ : Nat → Prop) (u9000_ : Value) (l0 : List S57) (w0 w : World) {B : Nat} (hfn : w.heap[B]? = some (.cells cs tb (0, 0))) (hB : Below w0.heap.size w0 w) (ho0 : Kd.R k57 57 w w0.heap.size P0_ u9000_ l0) (hl : l0.length ≤ 1152921504606846976) :
    Calls Try.prog 82 #[u9000_, .func (.func 83) #[] #[.pointer (some ⟨B, 0, none⟩)]] w fun e w' => ∃ v, e = .returned v ∧ Kd.R k57 57 w' w0.heap.size (fun k_ => (P0_ k_ ∨ w.heap.size ≤ k_)) v (l0.filter (fun x => !q x)) ∧ Below w0.heap.size w0 w' ∧ Kept w w' (fun k_ => P0_ k_) := by
  have hu_ := Try.underlying57
  have HO := Aside0.mk ho0
  have HBB := Aside0.mk hfn
  have HB := Aside0.mk hB
  have HL := Aside0.mk hl
  clear ho0 hfn hB
  cases hany : l0.any q with
  | false =>
    obtain ⟨A0, c0, rfl⟩ := Kd.R_slice HO.out
    have hfl : l0.filter (fun x => !q x) = l0 := List.filter_eq_self.2 (fun x hx => by simpa using List.any_eq_false.1 hany x hx)
    rw [hfl]
    have HA := Aside0.mk hany
    clear hany hfl
    have hrd := Kd.R_reads' HO.out
    have HI := Aside0.mk (index83 q cs tb HQ l0 A0 c0 B w hrd.2.2 hrd.2.1 HL.out HBB.out)
    clear hrd
    go_enter Try.func82, Try.ntmps82
    go_wp2_with (first | (go_at_call 105; (with_reducible refine HI.out.mono ?_); rintro e w' ⟨⟨i, rfl, hi⟩, hb⟩; obtain rfl := FirstAt83.none hi HA.out; clear hi))
    go_ret
    exact ⟨_, rfl, Kd.R_mono (Kd.R_below HO.out hb) (fun _ hk => .inl hk), below_step HB.out hb, Kept.of_below hb _⟩
  | true =>
    obtain ⟨j0, hj0, hn0, hq0⟩ := firstd83 q l0 hany
    clear hany
    obtain ⟨g, cap, rfl, hbg, hgl, ⟨cells, hcells⟩⟩ := Kd.R_form HO.out (by omega)
    have hrd := Kd.R_reads' HO.out
    have hnc : l0.length ≤ cap := hrd.2.1
    have HI := Aside0.mk (index83 q cs tb HQ l0 _ cap B w hrd.2.2 hrd.2.1 HL.out HBB.out)
    have HN0 := Aside0.mk hn0
    have HQ0 := Aside0.mk hq0
    have hgB : B ≠ g := Ne.symm (blk_ne hcells HBB.out htb)
    have hPg : P0_ g := HO.out.1 g rfl
    have hf0 : l0.take j0 = (l0.take (j0 + 1)).filter (fun x => !q x) := by
      rw [List.take_succ_eq_append_getElem hj0, List.filter_append, List.filter_eq_self.2 (fun x hx => by simpa using List.any_eq_false.1 hn0 x hx)]
      rw [rdd83 hj0] at hq0
      simp [hq0]
    have HF0 := Aside0.mk hf0
    have hne : (((j0 : Nat) : Int) == -1) = false := by simp
    have hGB := Aside0.mk hbg
    clear hrd hn0 hq0 hcells hf0 hbg
    go_enter Try.func82, Try.ntmps82
    go_wp2_with (first | (go_at_call 105; (with_reducible refine HI.out.mono ?_); rintro e w1 ⟨⟨i, rfl, hi⟩, hb⟩; obtain rfl := FirstAt83.same hi hj0 HN0.out HQ0.out; clear hi; have HB1 := Aside0.mk hb; clear hb))
    go_loopw [5, 6] (fun v5 v6 wr => ∃ (i j : Nat) (xs : List S57), v5 = .int .i64 i ∧ v6 = .int .i64 j ∧ i < j ∧ j ≤ l0.length ∧ Aside0 (xs.length = l0.length) ∧ Aside0 (xs.take i = (l0.take j).filter (fun x => !q x)) ∧ Aside0 (xs.drop j = l0.drop j) ∧ Aside0 (Kd.R k57 57 wr w0.heap.size P0_ (.slice (some ⟨g, 0, none⟩) l0.length cap) xs) ∧ Aside0 (wr.heap[B]? = some (.cells cs tb (0, 0))) ∧ Aside0 (Below w0.heap.size w0 wr) ∧ Aside0 (Kept w wr P0_)) (fun _ v6 _ => l0.length - (intOf v6).toNat)
    case atStart => exact ⟨j0, j0 + 1, l0, rfl, by go_num, by omega, by omega, ⟨rfl⟩, HF0, ⟨rfl⟩, ⟨Kd.R_below HO.out HB1.out⟩, ⟨blk_below HBB.out HB1.out⟩, ⟨below_step HB.out HB1.out⟩, ⟨Kept.of_below HB1.out _⟩⟩
    case round =>
      clear HI HF0 hne HN0 HQ0 HB1 HO HBB
      obtain ⟨i, j, xs, rfl, rfl, hij, hjl, HXL, HX1, HX2, HOr, HBr, HBe, HK⟩ := hrel
      by_cases hlt : j < l0.length
      · obtain ⟨hk0, hk1, hk2, hk3, hk4⟩ := keepd83 q hij hlt HXL.out HX1.out HX2.out
        have HK1 := Aside0.mk hk1
        have HK2 := Aside0.mk hk2
        have HK3 := Aside0.mk hk3
        have HK4 := Aside0.mk hk4
        obtain ⟨ce, hcl, hM, hcc, hfr⟩ := Kd.R_elem HOr.out z57 (j : Int) (by omega) (by omega)
        obtain rfl := k57_openM hM
        change ∀ j_ u, [.string (rd_T57 xs (j : Int)).f0, .int .i64 (rd_T57 xs (j : Int)).f1, .int .i64 (rd_T57 xs (j : Int)).f2][j_]? = some u → wr.cell? ⟨g, j * 3 + j_, none⟩ = some u at hcc
        rw [hk0] at hcc
        have hx0 : wr.cell? ⟨g, j * 3, none⟩ = some (.string (rd_T57 l0 (j : Int)).f0) := hcc 0 _ rfl
        have hx1 : wr.cell? ⟨g, j * 3 + 1, none⟩ = some (.int .i64 (rd_T57 l0 (j : Int)).f1) := hcc 1 _ rfl
        have hx2 : wr.cell? ⟨g, j * 3 + 2, none⟩ = some (.int .i64 (rd_T57 l0 (j : Int)).f2) := hcc 2 _ rfl
        have HFZ := Aside0.mk (fun (m : Nat) => Kd.R_frozen_ HOr.out m)
        have hil : i < l0.length := by omega
        clear hk1 hk2 hk3 hk4 hk0 hcl hM hcc hfr
        cases hb : q (rd_T57 l0 (j : Int)) with
        | true =>
          have HB1 := Aside0.mk hb
          clear hb
          go_wp2_with (first | (go_at_call 83; (with_reducible refine (HQ.out _ _ _ (blk_alloc HBr.out _)).mono ?_); rw [HB1.out]; rintro e w2 ⟨rfl, hb⟩; have HS := Aside0.mk (below_step (below_alloc (Below.refl _ _) _) hb); clear hb))
          go_roundw
          case rel => exact ⟨i, j + 1, xs, rfl, by go_num, by omega, by omega, HXL, ⟨HK1.out HB1.out⟩, HK3, ⟨Kd.R_below HOr.out HS.out⟩, ⟨blk_below HBr.out HS.out⟩, ⟨below_step HBe.out HS.out⟩, ⟨Kept.below HK.out HS.out⟩⟩
          case measure => simp [intOf]; omega
        | false =>
          have HB1 := Aside0.mk hb
          clear hb
          have BN := Aside0.mk (blk_new wr (.cells #[.string (rd_T57 l0 (j : Int)).f0, .int .i64 (rd_T57 l0 (j : Int)).f1, .int .i64 (rd_T57 l0 (j : Int)).f2] 57 (0, 0)))
          go_wp2_with (first
            | (go_at_call 83; (with_reducible refine (HQ.out _ _ _ (blk_alloc HBr.out _)).mono ?_); rw [HB1.out]; rintro e w2 ⟨rfl, hb⟩
               have HS := Aside0.mk (below_step (below_alloc (Below.refl _ _) _) hb)
               have BX := Aside0.mk (blk_below BN.out hb)
               clear hb
               have HO2 := Aside0.mk (Kd.R_below HOr.out HS.out)
               have hb0 : w2.cell? ⟨wr.heap.size, 0, none⟩ = some (.string (rd_T57 l0 (j : Int)).f0) := (blk_cell BX.out 0).trans rfl
               have hb1 : w2.cell? ⟨wr.heap.size, 1, none⟩ = some (.int .i64 (rd_T57 l0 (j : Int)).f1) := (blk_cell BX.out 1).trans rfl
               have hb2 : w2.cell? ⟨wr.heap.size, 2, none⟩ = some (.int .i64 (rd_T57 l0 (j : Int)).f2) := (blk_cell BX.out 2).trans rfl
               clear hx0 hx1 hx2 BN)
            | ((with_reducible refine gate_store (t := 57) (p := 33) (v := .tmp 32) rfl ?_)
               obtain ⟨ci, hcl, hM, hcc, hfr⟩ := Kd.R_elem HO2.out z57 (i : Int) (by omega) (by omega)
               obtain rfl := k57_openM hM
               refine Kd.R_store k57 w0.heap.size rfl rfl 57 (.tmp 33) (.tmp 32) rfl 57 (i : Int) 0 xs (rd_T57 l0 (j : Int)) (.agg #[.string (rd_T57 l0 (j : Int)).f0, .int .i64 (rd_T57 l0 (j : Int)).f1, .int .i64 (rd_T57 l0 (j : Int)).f2]) [.string (rd_T57 l0 (j : Int)).f0, .int .i64 (rd_T57 l0 (j : Int)).f1, .int .i64 (rd_T57 l0 (j : Int)).f2] _ P0_ (fun _ => False) rfl (by simp; rfl) rfl rfl (by rfl) (by simp [Value.oneCell']) HO2.out (by omega) (by omega) hcl hcc (Nat.le_refl 3) (k57_mkM _ _ _ _) (fun _ hk => hk.elim) (below_step HBe.out HS.out) ?_
               intro w3 ho3 hb3 hg3
               have HO3 := Aside0.mk ho3
               have HB3 := Aside0.mk hb3
               have HG3 := Aside0.mk hg3
               clear ho3 hb3 hg3 hcl hM hcc hfr))
          go_roundw
          case rel => exact ⟨i + 1, j + 1, xs.set i (rd_T57 l0 (j : Int)), by go_num, by go_num, by omega, by omega, ⟨by rw [List.length_set]; exact HXL.out⟩, ⟨HK2.out HB1.out⟩, ⟨HK4.out _⟩, HO3, ⟨blk_grown (blk_below HBr.out HS.out) HG3.out (by simpa using hgB)⟩, HB3, ⟨Kept.of_grown HG3.out (Kept.below HK.out HS.out) (fun k hk => .inl (by cases hk; exact hPg))⟩⟩
          case measure => simp [intOf]; omega
      · obtain rfl : j = l0.length := by omega
        have hfin : xs.take i = l0.filter (fun x => !q x) := by have := HX1.out; rwa [List.take_length] at this
        obtain ⟨cells, hcells⟩ := Kd.R_typed HOr.out g rfl
        have hcs : cap * 3 ≤ cells.size := by
          obtain ⟨_, inner, ho, _⟩ := HOr.out
          rcases ho.2 with ⟨hv, _⟩ | ⟨g', cap', cur, hv, hb, hh, hnc, hcm, hcs, ht⟩
          · cases hv
          · injection hv with hv1 hv2 hv3
            injection hv1 with hv1
            injection hv1 with hv1
            subst hv1 hv3
            rw [hh] at hcells
            injection hcells with hcells
            injection hcells with hcells
            subst hcells
            exact Nat.le_of_eq hcs.symm
        have hclr := fun ty => run_clear_many (P := Try.prog) wr 26 57 ty z083 Try.underlying26 zrun83 (by decide) g (i * 3) (l0.length - i) (cap - i) (by omega) hcells (by show _ + _ * 3 ≤ _; omega)
        have hRC := R_clear HOr.out (i := i) (by have := HXL.out; omega) (Builtin.zeroCells z083.cells (l0.length - i)).toList (by rw [Array.length_toList, size_zeroCells]; show i * 3 + _ * 3 ≤ cap * 3; omega)
        change k57.R 57 (wr.setCells g (i * 3) _) _ _ _ _ ∧ wr.grownBy (wr.setCells g (i * 3) _) _ at hRC
        generalize wr.setCells g (i * 3) (Builtin.zeroCells z083.cells (l0.length - i)).toList = w3 at hclr hRC
        obtain ⟨hR3, hG3⟩ := hRC
        have HR3 := Aside0.mk hR3
        have HG3 := Aside0.mk hG3
        rw [hfin] at HR3
        have hci : ¬ cap = i := by omega
        have hil : i < l0.length := by omega
        have hic : i ≤ cap := by omega
        clear hR3 hG3 hfin hcells hcs
        go_wp2
        go_ret
        exact ⟨_, rfl, Kd.R_mono HR3.out (fun _ hk => .inl hk), HBe.out.grown HG3.out HBe.out.size (fun k hk => by cases hk; exact hGB.out), Kept.of_grown HG3.out HK.out (fun k hk => .inl (by cases hk; exact hPg))⟩
def slices_DeleteFunc_do_1.f (l0 : List S57) (d0 : Int) (d1 : ByteArray) (d2 : Int) (d3 : Int) : Option (List S57) := if l0.length ≤ 1152921504606846976 then some (l0.filter (fun x => !(x.f1 == d2))) else none
theorem slices_DeleteFunc_do_1.calls (P0_ : Nat → Prop) (u9000_ : Value) (l0 : List S57) (d0 : Int) (d1 : ByteArray) (d2 : Int) (d3 : Int) (r : List S57) (w0 w : World) {B : Nat} (hfn : w.heap[B]? = some (.cells #[.int .i64 d0, .string d1, .int .i64 d2, .int .i64 d3] 42 (0, 0))) (hB : Below w0.heap.size w0 w) (ho0 : Kd.R k57 57 w w0.heap.size P0_ u9000_ l0) (h : slices_DeleteFunc_do_1.f l0 d0 d1 d2 d3 = some r) :
    Calls Try.prog 82 #[u9000_, .func (.func 83) #[] #[.pointer (some ⟨B, 0, none⟩)]] w fun e w' => ∃ v, e = .returned v ∧ Kd.R k57 57 w' w0.heap.size (fun k_ => (P0_ k_ ∨ w.heap.size ≤ k_)) v r ∧ Below w0.heap.size w0 w' ∧ Kept w w' (fun k_ => P0_ k_) := by
  unfold slices_DeleteFunc_do_1.f at h
  by_cases hl : l0.length ≤ 1152921504606846976
  · rw [if_pos hl] at h
    obtain rfl := Option.some.inj h
    exact delete83 (fun x => (x.f1 == d2)) _ _ (by decide) ⟨fun x B W hW => share183 x d0 d1 d2 d3 B W hW⟩ P0_ u9000_ l0 w0 w hfn hB ho0 hl
  · rw [if_neg hl] at h
    exact absurd h (by simp)
-- HAND TO

end Go.Proofs.Ytdimdlifjdbgnaa.PFnReleased
