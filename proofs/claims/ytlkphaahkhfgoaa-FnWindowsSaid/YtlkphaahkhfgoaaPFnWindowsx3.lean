-- Written by a program of this session (wip/xprint.py) out of the translation; Lean checks it.
import Derived.Test.YtlkphaahkhfgoaaPFnWindowsx0
namespace Go.Proofs.Ytlkphaahkhfgoaa.PFnWindows
open Go.RowKit Go.Proofs.YtlkphaahkhfgoaaW.PrintWords Go.Proofs.YtlkphaahkhfgoaaW.PrintLast Go.Proofs.YtlkphaahkhfgoaaW.PrintMore Go.Proofs.Ytlkphaahkhfgoaa.Sq
attribute [local go_sem] max2_int min2_int max_two min_two max_three min_three max_four min_four   -- for this text's walks alone
set_option linter.unusedVariables false
set_option linter.unusedSimpArgs false

-- HAND FROM
/-! ### slices.Insert (function 48) (by hand) -/
def impl_Window_48.f (l0 : List S62) (a1 : Int) (l2 : List S62) : Option (List S62) := if 0 ≤ a1 then if a1 ≤ (l0.length : Int) then if l2.length = 1 then if l0.length ≤ 1000000 then some (l0.take a1.toNat ++ l2 ++ l0.drop a1.toNat) else none else none else none else none
def cellsS62 (l : List S62) : List Value := l.flatMap fun x => [.int .i64 x.f0, .int .i64 x.f1, .int .i64 x.f2]
theorem cellsS62_length : ∀ l : List S62, (cellsS62 l).length = l.length * 3
  | [] => rfl
  | x :: l => by simp only [cellsS62, List.flatMap_cons, List.length_append, List.length_cons, List.length_nil]; have := cellsS62_length l; unfold cellsS62 at this; omega
theorem cellsS62_append (a b : List S62) : cellsS62 (a ++ b) = cellsS62 a ++ cellsS62 b := by simp [cellsS62]
theorem cellsS62_take (l : List S62) (i : Nat) (hi : i ≤ l.length) : (cellsS62 l).take (i * 3) = cellsS62 (l.take i) := by
  conv => lhs; rw [← List.take_append_drop i l, cellsS62_append]
  rw [List.take_append_of_le_length (by rw [cellsS62_length, List.length_take]; omega), List.take_of_length_le (by rw [cellsS62_length, List.length_take]; omega)]
theorem cellsS62_drop (l : List S62) (i : Nat) (hi : i ≤ l.length) : (cellsS62 l).drop (i * 3) = cellsS62 (l.drop i) := by
  conv => lhs; rw [← List.take_append_drop i l, cellsS62_append]
  have h : (cellsS62 (l.take i)).length = i * 3 := by rw [cellsS62_length, List.length_take]; omega
  rw [← h, List.drop_left]
theorem cellsS62_one (l : List S62) : ∀ u ∈ cellsS62 l, u.oneCell' = true := by
  intro u hu
  obtain ⟨x, _, hx⟩ := List.mem_flatMap.1 hu
  simp only [List.mem_cons, List.not_mem_nil, or_false] at hx
  rcases hx with rfl | rfl | rfl <;> rfl
theorem cellsS62_reps {w : World} {base : Nat} {ok : Nat → Prop} : ∀ (l : List S62) (cs : List Value), Reps (k62.M w base ok) 3 l cs → cs = cellsS62 l
  | [], cs, h => List.eq_nil_of_length_eq_zero (by have := h.1; simpa using this)
  | x :: l, cs, h => by
    have h0 := k62_openM (h.2 0 x rfl)
    have hl := h.1
    simp only [List.length_cons] at hl
    have ih := cellsS62_reps l (cs.drop 3) ⟨by rw [List.length_drop]; omega, fun j p hj => by
      have := h.2 (j + 1) p (by simpa using hj)
      rwa [show (j + 1) * 3 = 3 + j * 3 by omega, ← List.drop_drop] at this⟩
    rw [Nat.zero_mul, List.drop_zero] at h0
    rw [← List.take_append_drop 3 cs, ih, h0]
    simp [cellsS62]
theorem reps_cellsS62 (w : World) (base : Nat) (ok : Nat → Prop) : ∀ l : List S62, Reps (k62.M w base ok) 3 l (cellsS62 l)
  | [] => Reps.none _ _
  | x :: l => by
    have ih := reps_cellsS62 w base ok l
    refine ⟨cellsS62_length _, fun j p hj => ?_⟩
    cases j with
    | zero =>
      obtain rfl : x = p := by simpa using hj
      have e : ((cellsS62 (x :: l)).drop (0 * 3)).take 3 = [.int .i64 x.f0, .int .i64 x.f1, .int .i64 x.f2] := by simp [cellsS62]
      rw [e]
      exact k62_mkM _ _ _ x
    | succ j =>
      have := ih.2 j p (by simpa using hj)
      have e : (cellsS62 (x :: l)).drop ((j + 1) * 3) = (cellsS62 l).drop (j * 3) := by
        rw [show (j + 1) * 3 = 3 + j * 3 by omega, ← List.drop_drop]
        congr 1
      rw [e]
      exact this
theorem ownS62_of {w : World} {base : Nat} {ok : Nat → Prop} {v : Value} {l : List S62} (h : Kd.R k62 62 w base ok v l) : w.ownsRow base 62 3 v l.length (cellsS62 l) := by
  obtain ⟨_, inner, ho, hr⟩ := h
  rw [← cellsS62_reps l inner hr]
  exact ho
theorem R_ownS62 {w : World} {base : Nat} {ok : Nat → Prop} {v : Value} {l : List S62} (h0 : ∀ k, v.ownBlock = some k → ok k) (h : w.ownsRow base 62 3 v l.length (cellsS62 l)) : Kd.R k62 62 w base ok v l :=
  ⟨h0, cellsS62 l, h, reps_cellsS62 _ _ _ l⟩
/-! copy, elements of any size -/
theorem run_copy_many {P : Program} (w : World) (dT sT ty elem : TypeId) (b o dLen dCap : Nat) (a : Addr) (sLen sCap sz : Nat) (cs : List Value)
    (hu : P.underlying dT = some (.slice elem)) (hs : (P.info? elem).map (·.size) = some sz) (hn : cs.length = Nat.min sLen dLen * sz)
    (hsrc : ∀ j v, cs[j]? = some v → w.cell? (a.add j) = some v) (hc : ∀ j, j < cs.length → (w.cell? ⟨b, o + j, none⟩).isSome = true) (hf : ∀ j, j < cs.length → w.frozen? ⟨b, o + j, none⟩ = false) (h1 : ∀ v ∈ cs, v.oneCell' = true) :
    (Builtin.copy_ #[dT, sT] ty #[.slice (some ⟨b, o, none⟩) dLen dCap, .slice (some a) sLen sCap]).run P w = .ok (goInt (Nat.min sLen dLen)) (w.setCells b o cs) := by
  have hl := run_loadCells_list (P := P) w a cs hsrc
  have hst := run_storeCells_cells (P := P) b o cs 0 w (by simpa using hc) (by simpa using hf) h1
  cases hq : P.info? elem with
  | none => simp [hq] at hs
  | some i =>
    have hi : i.size = sz := by simpa [hq] using hs
    simp [Builtin.copy_, run_underlying hu, Builtin.lenOf, Builtin.firstCells, sizeOf, typeInfo, hq, hi, ← hn, hl, hst]
theorem wpList_copy_runH {P : Program} (w : World) {ops : Array Oper} {rest : List Oper} {o : Oper} {a : Act} {Q : Exit → Act → World → Prop} (hgd : o.guard = none) (d s : Operand) (t t' : TypeId)
    (ho : o.op = .call { callee := .builtin .copy, args := #[d, s], argTypes := #[t, t'] }) (v u : Value) (hd : a.eval d = v) (hs : a.eval s = u) {v' : Value} {w' : World}
    (hr : ∀ ty, (Builtin.copy_ #[t, t'] ty #[v, u]).run P w = .ok v' w') (h : wpList P ops Q rest (a.put o.dst v') w') : wpList P ops Q (o :: rest) a w :=
  Kd.event_run hgd (by
    unfold execOp
    simp only [ho, resolve, invoke, builtin, Sem.run_bind, Sem.run_pure, Result.andThen_ok, List.map_toArray, List.map_cons, List.map_nil, hd, hs, hr]) h
theorem step_copy_runH {P : Program} {ops : Array Oper} {o : Oper} {a : Act} {w : World} {K : Act → World → Prop} {Q : Exit → Act → World → Prop} {E : Prop}
    (hg : o.guard = none) (d x : Operand) (dT sT : TypeId) (hop : o.op = Op.call { callee := Callee.builtin Builtin.copy, args := #[d, x], argTypes := #[dT, sT] })
    (v u : Value) (hd : a.eval d = v) (hx : a.eval x = u) {v' : Value} {w' : World} (hr : ∀ ty, (Builtin.copy_ #[dT, sT] ty #[v, u]).run P w = .ok v' w') (hK : K (a.put o.dst v') w') :
    if Region.wanted o (yielded ops a.tmps) = true then Oper.wp P o a w K Q else E := by
  have hw : Region.wanted o (yielded ops a.tmps) = true := by simp [Region.wanted, hg]
  rw [if_pos hw]
  unfold Oper.wp
  simp [execOp, hop, resolve, invoke, builtin, hd, hx, hr, Result.andThen]
  exact hK
theorem infoI62 : (Try.prog.info? 62).map (fun i => (i.zero, i.size, i.bytes)) = some (some (.agg #[.int .i64 0, .int .i64 0, .int .i64 0]), 3, 24) := by kernel_rfl
set_option maxHeartbeats 8000000 in
set_option maxRecDepth 100000 in
theorem insEnd48 (P0_ : Nat → Prop) (u : Value) (l : List S62) (x : S62) (vb vc : Nat) (w0 w : World) (hB : Below w0.heap.size w0 w) (ho0 : Kd.R k62 62 w w0.heap.size P0_ u l) (hl : l.length ≤ 1000000) (hx : ∀ j v, [.int .i64 x.f0, .int .i64 x.f1, .int .i64 x.f2][j]? = some v → w.cell? ⟨vb, j, none⟩ = some v) :
    Calls Try.prog 48 #[u, .int .i64 (l.length : Int), .slice (some ⟨vb, 0, none⟩) 1 vc] w fun e w' => ∃ v, e = .returned v ∧ Kd.R k62 62 w' w0.heap.size (fun k_ => P0_ k_ ∨ w.heap.size ≤ k_) v (l ++ [x]) ∧ Below w0.heap.size w0 w' ∧ Kept w w' P0_ := by
  obtain ⟨i0, hi, hz0, hz1, hz2⟩ := info_parts infoI62
  obtain ⟨v', w', hrun, hown, hg, _, hat⟩ := run_append_own_at w w0.heap.size 27 27 62 i0 _ 3 24 Try.underlying27 hi hz0 hz1 hz2 rfl (by decide) u l.length (cellsS62 l) (ownS62_of ho0) ⟨vb, 0, none⟩ 1 vc [.int .i64 x.f0, .int .i64 x.f1, .int .i64 x.f2] rfl
    (fun j v hj => by rw [add_plain]; exact hx j v hj) (by simp [Value.oneCell']) (by simp only [maxLen]; omega) (by omega) hB.size
  obtain ⟨A, c, rfl⟩ := Kd.R_slice ho0
  have hrd := Kd.R_reads' ho0
  have hlc : l.length ≤ c := hrd.2.1
  have H1 := Aside0.mk hown
  have H2 := Aside0.mk hg
  have H3 := Aside0.mk hat
  have H4 := Aside0.mk hrun
  have HO := Aside0.mk ho0
  have HB := Aside0.mk hB
  clear hi hz0 hz1 hz2 hown hg hat hrun ho0 hrd hx hB
  go_enter Try.func48, Try.ntmps48
  go_wp2_with (at_builtin; refine Lib.wpList_append_run _ rfl _ _ 27 27 rfl _ _ rfl rfl v' w' H4.out ?_)
  all_goals
    go_ret
    refine ⟨v', rfl, R_ownS62 (fun k hk => ?_) (by rw [List.length_append, cellsS62_append]; exact H1.out), HB.out.grown H2.out HB.out.size (fun k hk => Kd.R_base HO.out k hk), Kept.of_grown H2.out (Kept.refl _ _) (fun k hk => .inl (HO.out.1 k hk))⟩
    rcases H3.out with hat | hat
    · exact .inl (HO.out.1 k (by rw [← hat]; exact hk))
    · rw [hat] at hk; injection hk with hk; exact .inr (by omega)
theorem some_setCells (b : Nat) (vs : List Value) (o : Nat) (w : World) (h : ∀ j, j < vs.length → (w.cell? ⟨b, o + j, none⟩).isSome = true) (k : Nat) (hk : (w.cell? ⟨b, k, none⟩).isSome = true) : ((w.setCells b o vs).cell? ⟨b, k, none⟩).isSome = true := by
  by_cases hin : o ≤ k ∧ k < o + vs.length
  · have := World.cell?_setCells_in b vs o w h (k - o) (by omega)
    rw [show o + (k - o) = k by omega] at this
    rw [this]; rfl
  · rw [World.cell?_setCells_out b vs o w ⟨b, k, none⟩ (fun _ _ => by show k < o ∨ o + vs.length ≤ k; omega)]
    exact hk
set_option maxHeartbeats 8000000 in
set_option maxRecDepth 100000 in
theorem insShift48 (P0_ : Nat → Prop) (b c i : Nat) (l : List S62) (x : S62) (vb vc : Nat) (w0 w : World) (hB : Below w0.heap.size w0 w) (ho0 : Kd.R k62 62 w w0.heap.size P0_ (.slice (some ⟨b, 0, none⟩) l.length c) l) (hl : l.length ≤ 1000000) (hi : i < l.length) (hroom : l.length + 1 ≤ c)
    (hne : vb ≠ b) {curv : Array Value} (hv : w.heap[vb]? = some (.cells curv 62 (0, 0))) (hx : ∀ j v, [.int .i64 x.f0, .int .i64 x.f1, .int .i64 x.f2][j]? = some v → w.cell? ⟨vb, j, none⟩ = some v) :
    Calls Try.prog 48 #[.slice (some ⟨b, 0, none⟩) l.length c, .int .i64 (i : Int), .slice (some ⟨vb, 0, none⟩) 1 vc] w fun e w' => ∃ v, e = .returned v ∧ Kd.R k62 62 w' w0.heap.size (fun k_ => P0_ k_ ∨ w.heap.size ≤ k_) v (l.take i ++ [x] ++ l.drop i) ∧ Below w0.heap.size w0 w' ∧ Kept w w' P0_ := by
  have hown := ownS62_of ho0
  obtain ⟨g', cap, cur, he, hbb, hh, hnc, hcm, hcs, ht⟩ := hown.2.resolve_left (by rintro ⟨h, _⟩; cases h)
  injection he with he1 _ he3
  injection he1 with he1
  injection he1 with he1
  subst he1 he3
  unfold maxLen at hcm
  have hP : P0_ b := ho0.1 b rfl
  have hov : ∀ lb cb, (callFunc 61 #[.slice (some ⟨vb, 0, none⟩) 1 vc, .slice (some ⟨b, (i + 1) * 3, none⟩) lb cb]).run Try.prog w = .ok (.value (.bool false)) w := fun lb cb => by
    rw [run_callFunc_extern (fn := Try.f61) rfl (by kernel_rfl) (by kernel_rfl) (by kernel_rfl) (e := Extern.SlicesOverlaps.overlaps #[27, 27] #[4]) (by kernel_rfl),
      Lib.run_overlaps_apart w 27 4 62 Try.underlying27 3 (fun w => by kernel_rfl) ⟨vb, 0, none⟩ ⟨b, (i + 1) * 3, none⟩ 1 vc lb cb hne 62 62 curv.size cur.size (by simp [World.shape?, hv]) (by simp [World.shape?, hh]) (by omega) (blk_frozen hv _) (blk_frozen hv _)]
    rfl
  have hsz : (Try.prog.info? 62).map (·.size) = some 3 := by
    obtain ⟨i0, hi0, h0, h1, h2⟩ := info_parts infoI62
    rw [hi0]; simp [h1]
  have hdl : (cellsS62 (l.drop i)).length = (l.length - i) * 3 := by rw [cellsS62_length, List.length_drop]
  have hcell : ∀ j u, (cellsS62 l)[j]? = some u → w.cell? ⟨b, j, none⟩ = some u := fun j u hj => by
    rw [blk_cell hh, ← Array.getElem?_toList]
    rw [← ht, List.getElem?_take] at hj
    split at hj
    · exact hj
    · cases hj
  have hsome : ∀ j, j < c * 3 → (w.cell? ⟨b, j, none⟩).isSome = true := fun j hj => by rw [blk_cell hh]; simp; omega
  have hcp1 : ∀ dc sc ty, (Builtin.copy_ #[27, 27] ty #[.slice (some ⟨b, (i + 1) * 3, none⟩) (l.length - i) dc, .slice (some ⟨b, i * 3, none⟩) (l.length + 1 - i) sc]).run Try.prog w.drew = .ok (goInt ((l.length - i : Nat) : Int)) (w.drew.setCells b ((i + 1) * 3) (cellsS62 (l.drop i))) := fun dc sc ty => by
    have hm : Nat.min (l.length + 1 - i) (l.length - i) = l.length - i := by simp only [Nat.min_def]; split <;> omega
    have := run_copy_many (P := Try.prog) w.drew 27 27 ty 62 b ((i + 1) * 3) (l.length - i) dc ⟨b, i * 3, none⟩ (l.length + 1 - i) sc 3 (cellsS62 (l.drop i)) Try.underlying27 hsz (by rw [hdl, hm])
      (fun j v hj => by rw [Addr.add_lit]; refine hcell _ v ?_; rw [← cellsS62_drop l i (by omega), List.getElem?_drop] at hj; exact hj)
      (fun j hj => hsome _ (by omega)) (fun j hj => blk_frozen hh _) (cellsS62_one _)
    rw [hm] at this
    exact this
  obtain ⟨cur1, hh1, hs1, ht1⟩ := setCells_row (cellsS62 (l.drop i)) ((i + 1) * 3) w.drew cur hh (by omega)
  have hfar1 : ∀ k, k ≠ b → (w.drew.setCells b ((i + 1) * 3) (cellsS62 (l.drop i))).heap[k]? = w.heap[k]? := fun k hk => setCells_far _ _ k hk
  obtain ⟨e1, e2, e3, e4⟩ := setCells_same b (cellsS62 (l.drop i)) ((i + 1) * 3) w.drew
  generalize w.drew.setCells b ((i + 1) * 3) (cellsS62 (l.drop i)) = W1 at hcp1 hh1 hfar1 e1 e2 e3 e4
  have hv1 : W1.heap[vb]? = some (.cells curv 62 (0, 0)) := (hfar1 vb hne).trans hv
  have hcp2 : ∀ dc ty, (Builtin.copy_ #[27, 27] ty #[.slice (some ⟨b, i * 3, none⟩) (l.length + 1 - i) dc, .slice (some ⟨vb, 0, none⟩) 1 vc]).run Try.prog W1 = .ok (goInt 1) (W1.setCells b (i * 3) [.int .i64 x.f0, .int .i64 x.f1, .int .i64 x.f2]) := fun dc ty => by
    have hm : Nat.min 1 (l.length + 1 - i) = 1 := by simp only [Nat.min_def]; split <;> omega
    have := run_copy_many (P := Try.prog) W1 27 27 ty 62 b (i * 3) (l.length + 1 - i) dc ⟨vb, 0, none⟩ 1 vc 3 [.int .i64 x.f0, .int .i64 x.f1, .int .i64 x.f2] Try.underlying27 hsz (by rw [hm]; rfl)
      (fun j v hj => by
        rw [add_plain]
        have := hx j v hj
        rw [blk_cell hv] at this
        rw [blk_cell hv1]
        exact this)
      (fun j hj => by rw [blk_cell hh1]; simp only [List.length_cons, List.length_nil] at hj; simp; omega) (fun j hj => blk_frozen hh1 _) (by simp [Value.oneCell'])
    rw [hm] at this
    exact this
  obtain ⟨cur2, hh2, hs2, ht2⟩ := setCells_row [.int .i64 x.f0, .int .i64 x.f1, .int .i64 x.f2] (i * 3) W1 cur1 hh1 (by simp only [List.length_cons, List.length_nil]; omega)
  have hfar2 : ∀ k, k ≠ b → (W1.setCells b (i * 3) [.int .i64 x.f0, .int .i64 x.f1, .int .i64 x.f2]).heap[k]? = w.heap[k]? := fun k hk => (setCells_far _ _ k hk).trans (hfar1 k hk)
  obtain ⟨f1, f2, f3, f4⟩ := setCells_same b [.int .i64 x.f0, .int .i64 x.f1, .int .i64 x.f2] (i * 3) W1
  generalize W1.setCells b (i * 3) [.int .i64 x.f0, .int .i64 x.f1, .int .i64 x.f2] = W2 at hcp2 hh2 hfar2 f1 f2 f3 f4
  have hg : w.grownBy W2 (some b) := ⟨f1.trans e1, f2.trans e2, f3.trans e3, by rw [f4, e4]; exact Nat.le_refl _, fun k _ hk => hfar2 k (fun e => hk (by rw [e]))⟩
  have hfin : cur2.toList.take ((l.length + 1) * 3) = cellsS62 (l.take i ++ [x] ++ l.drop i) := by
    have hcl : cur.toList.length = c * 3 := by rw [Array.length_toList, hcs]
    have hA : cur1.toList.take (i * 3) = cellsS62 (l.take i) := by
      rw [ht1, List.append_assoc, List.take_append_of_le_length (by rw [List.length_take]; omega), List.take_take, Nat.min_eq_left (by omega), ← cellsS62_take l i (by omega), ← ht, List.take_take, Nat.min_eq_left (by omega)]
    have hD : (cur1.toList.drop (i * 3 + 3)).take ((l.length - i) * 3) = cellsS62 (l.drop i) := by
      rw [ht1, List.append_assoc, List.drop_append_of_le_length (by rw [List.length_take]; omega), List.drop_of_length_le (by rw [List.length_take]; omega), List.nil_append, ← hdl, List.take_left]
    rw [ht2, cellsS62_append, cellsS62_append, hA, List.append_assoc, List.append_assoc]
    have h1 : (cellsS62 (l.take i)).length = i * 3 := by rw [cellsS62_length, List.length_take]; omega
    rw [List.take_append, List.take_of_length_le (by omega), h1, List.take_append, List.take_of_length_le (show ([.int .i64 x.f0, .int .i64 x.f1, .int .i64 x.f2] : List Value).length ≤ _ by show 3 ≤ _; omega)]
    congr 1
    have e : (l.length + 1) * 3 - i * 3 - ([.int .i64 x.f0, .int .i64 x.f1, .int .i64 x.f2] : List Value).length = (l.length - i) * 3 := by show (l.length + 1) * 3 - i * 3 - 3 = _; omega
    rw [e]
    have e' : i * 3 + ([.int .i64 x.f0, .int .i64 x.f1, .int .i64 x.f2] : List Value).length = i * 3 + 3 := rfl
    rw [e', hD]
    rfl
  have hlen : (l.take i ++ [x] ++ l.drop i).length = l.length + 1 := by simp; omega
  have hres : W2.ownsRow w0.heap.size 62 3 (.slice (some ⟨b, 0, none⟩) (l.length + 1) c) (l.take i ++ [x] ++ l.drop i).length (cellsS62 (l.take i ++ [x] ++ l.drop i)) :=
    ⟨cellsS62_length _, .inr ⟨b, c, cur2, by rw [hlen], hbb, hh2, by omega, by unfold maxLen; omega, by omega, by rw [hlen]; exact hfin⟩⟩
  have HG := Aside0.mk hg
  have HR := Aside0.mk hres
  have HB := Aside0.mk hB
  have HC1 := Aside0.mk hcp1
  have HC2 := Aside0.mk hcp2
  have hci : ¬ c = i := by omega
  have hci1 : ¬ c = i + 1 := by omega
  have hni : ¬ ((i : Int) = (l.length : Int)) := by omega
  clear hg hres hB hcp1 hcp2 hfin hlen hh2 hh1 ht1 ht2 hs1 hs2 hfar1 hfar2 e1 e2 e3 e4 f1 f2 f3 f4 hv1 hcell hsome hdl hsz hown ht hcs hh ho0 hv hx
  go_enter Try.func48, Try.ntmps48
  go_wp2_with (simp only [hov])
  have hw1 : IntKind.i64.wrap ((i : Int) + 1) = (i : Int) + 1 := by rw [IntKind.wrap_i64]; omega
  have hb1 : (0 : Int) ≤ (i : Int) + 1 := by omega
  have htn : ((i : Int) + 1).toNat = i + 1 := by omega
  have hin : i ≤ l.length := by omega
  have hb3 : (i : Int) ≤ (l.length : Int) + 1 := by omega
  go_region_law (refine step_copy_runH rfl (.tmp 73) (.tmp 76) 27 27 rfl (.slice (some ⟨b, (i + 1) * 3, none⟩) (l.length - i) (c - (i + 1))) (.slice (some ⟨b, i * 3, none⟩) (l.length + 1 - i) (c - i)) (by simp [Act.eval, Act.put]) (by simp [Act.eval, Act.put]) (HC1.out _ _) ?_)
  go_wp2_with (with_reducible refine wpList_copy_runH _ rfl (.tmp 80) (.tmp 81) 27 27 rfl (.slice (some ⟨b, i * 3, none⟩) (l.length + 1 - i) (c - i)) (.slice (some ⟨vb, 0, none⟩) 1 vc) (by simp [Act.eval, Act.put]) (by simp [Act.eval, Act.put]) (HC2.out _) ?_)
  go_ret
  exact ⟨_, rfl, R_ownS62 (fun k hk => .inl (by injection hk with hk; subst hk; exact hP)) HR.out, HB.out.grown HG.out HB.out.size (fun k hk => by injection hk with hk; subst hk; exact hbb), Kept.of_grown HG.out (Kept.refl _ _) (fun k hk => .inl (by injection hk with hk; subst hk; exact hP))⟩
set_option maxHeartbeats 8000000 in
set_option maxRecDepth 100000 in
theorem insGrow48 (P0_ : Nat → Prop) (b c i : Nat) (l : List S62) (x : S62) (vb vc : Nat) (w0 w : World) (hB : Below w0.heap.size w0 w) (ho0 : Kd.R k62 62 w w0.heap.size P0_ (.slice (some ⟨b, 0, none⟩) l.length c) l) (hl : l.length ≤ 1000000) (hi : i < l.length) (hroom : c < l.length + 1)
    {curv : Array Value} (hv : w.heap[vb]? = some (.cells curv 62 (0, 0))) (hx : ∀ j v, [.int .i64 x.f0, .int .i64 x.f1, .int .i64 x.f2][j]? = some v → w.cell? ⟨vb, j, none⟩ = some v) :
    Calls Try.prog 48 #[.slice (some ⟨b, 0, none⟩) l.length c, .int .i64 (i : Int), .slice (some ⟨vb, 0, none⟩) 1 vc] w fun e w' => ∃ v, e = .returned v ∧ Kd.R k62 62 w' w0.heap.size (fun k_ => P0_ k_ ∨ w.heap.size ≤ k_) v (l.take i ++ [x] ++ l.drop i) ∧ Below w0.heap.size w0 w' ∧ Kept w w' P0_ := by
  have hown := ownS62_of ho0
  obtain ⟨g', cap, cur, he, hbb, hh, hnc, hcm, hcs, ht⟩ := hown.2.resolve_left (by rintro ⟨h, _⟩; cases h)
  injection he with he1 _ he3
  injection he1 with he1
  injection he1 with he1
  subst he1 he3
  have hcell : ∀ j u, (cellsS62 l)[j]? = some u → w.cell? ⟨b, j, none⟩ = some u := fun j u hj => by
    rw [blk_cell hh, ← Array.getElem?_toList]
    rw [← ht, List.getElem?_take] at hj
    split at hj
    · exact hj
    · cases hj
  obtain ⟨i0, hi0, hz0, hz1, hz2⟩ := info_parts infoI62
  have hsz : (Try.prog.info? 62).map (·.size) = some 3 := by rw [hi0]; simp [hz1]
  have hold : (Builtin.firstCells i0.size i (.slice (some ⟨b, 0, none⟩) i c)).run Try.prog w.drew = .ok (cellsS62 (l.take i)).toArray w.drew := by
    rw [hz1]
    exact run_firstCells_some w.drew 3 i ⟨b, 0, none⟩ i c (cellsS62 (l.take i)) (by rw [cellsS62_length, List.length_take]; omega) (fun j v hj => by
      rw [add_plain]
      rw [← cellsS62_take l i (by omega), List.getElem?_take] at hj
      split at hj
      · exact hcell j v hj
      · cases hj)
  have hrz : ∀ ty, (Builtin.append_ #[27, 3] ty #[.slice (some ⟨b, 0, none⟩) i c, .int .i64 ((l.length : Int) + 1 - (i : Int))]).run Try.prog w =
      .ok (.slice (some ⟨w.heap.size, 0, none⟩) (l.length + 1) (grownCap w (l.length + 1) c 62)) (w.drew.alloc (.cells ((cellsS62 (l.take i)).toArray ++ Builtin.zeroCells (Value.agg #[.int .i64 0, .int .i64 0, .int .i64 0]).cells (l.length + 1 - i) ++ Builtin.zeroCells (Value.agg #[.int .i64 0, .int .i64 0, .int .i64 0]).cells (grownCap w (l.length + 1) c 62 - (l.length + 1))) 62)) := fun ty => by
    have hik : i + (l.length + 1 - i) = l.length + 1 := by omega
    have h := Lib.run_append_grow_zeros w 27 3 ty 62 i0 _ .i64 .i64 Try.underlying27 Try.underlying3 hi0 hz0 (some ⟨b, 0, none⟩) i c (cellsS62 (l.take i)) hold (l.length + 1 - i) (by omega) (by omega) (by omega) (by omega) (by rw [hz2]; omega) (by rw [hz2, hik]; exact growslice_fits hroom (by omega))
    rw [hik] at h
    rw [show (l.length : Int) + 1 - (i : Int) = ((l.length + 1 - i : Nat) : Int) by omega]
    exact h
  have hGn : l.length + 1 ≤ grownCap w (l.length + 1) c 62 := grownCap_ge w _ _ _
  have hG63 : grownCap w (l.length + 1) c 62 ≤ 9223372036854775807 := by
    have := grownCap_le_maxLen w (l.length + 1) c 62 (by unfold maxLen; omega)
    unfold maxLen at this
    omega
  generalize grownCap w (l.length + 1) c 62 = G at hrz hGn hG63
  obtain ⟨ROW, hROW⟩ : ∃ ROW : Array Value, ROW = (cellsS62 (l.take i)).toArray ++ Builtin.zeroCells (Value.agg #[.int .i64 0, .int .i64 0, .int .i64 0]).cells (l.length + 1 - i) ++ Builtin.zeroCells (Value.agg #[.int .i64 0, .int .i64 0, .int .i64 0]).cells (G - (l.length + 1)) := ⟨_, rfl⟩
  rw [← hROW] at hrz
  have htl : (cellsS62 (l.take i)).length = i * 3 := by rw [cellsS62_length, List.length_take]; omega
  have hRs : ROW.size = G * 3 := by
    rw [hROW, Array.size_append, Array.size_append, size_zeroCells, size_zeroCells, List.size_toArray, htl]
    show i * 3 + (l.length + 1 - i) * 3 + (G - (l.length + 1)) * 3 = G * 3
    omega
  have hRt : ROW.toList.take (i * 3) = cellsS62 (l.take i) := by
    rw [hROW, Array.toList_append, Array.toList_append, List.append_assoc, ← htl, List.take_left]
  have hdl : (cellsS62 (l.drop i)).length = (l.length - i) * 3 := by rw [cellsS62_length, List.length_drop]
  have hbw : b < w.heap.size := blk_lt hh
  have hvw : vb < w.heap.size := blk_lt hv
  obtain ⟨H, hH⟩ : ∃ H, H = w.heap.size := ⟨_, rfl⟩
  have hB1 : Below w.heap.size w (w.drew.alloc (.cells ROW 62)) := below_alloc (w := w) (W := w.drew) (below_drew (Below.refl _ _)) _
  have hW1 : (w.drew.alloc (.cells ROW 62)).heap[H]? = some (.cells ROW 62 (0, 0)) := by rw [hH]; exact blk_new w.drew _
  generalize w.drew.alloc (.cells ROW 62) = W1 at hrz hB1 hW1
  rw [← hH] at hrz
  have hvW1 : W1.heap[vb]? = some (.cells curv 62 (0, 0)) := blk_below hv hB1
  have hcpA : ∀ dc ty, (Builtin.copy_ #[27, 27] ty #[.slice (some ⟨H, i * 3, none⟩) (l.length + 1 - i) dc, .slice (some ⟨vb, 0, none⟩) 1 vc]).run Try.prog W1 = .ok (goInt 1) (W1.setCells H (i * 3) [.int .i64 x.f0, .int .i64 x.f1, .int .i64 x.f2]) := fun dc ty => by
    have hm : Nat.min 1 (l.length + 1 - i) = 1 := by simp only [Nat.min_def]; split <;> omega
    have := run_copy_many (P := Try.prog) W1 27 27 ty 62 H (i * 3) (l.length + 1 - i) dc ⟨vb, 0, none⟩ 1 vc 3 [.int .i64 x.f0, .int .i64 x.f1, .int .i64 x.f2] Try.underlying27 hsz (by rw [hm]; rfl)
      (fun j v hj => by
        rw [add_plain]
        have := hx j v hj
        rw [blk_cell hv] at this
        rw [blk_cell hvW1]
        exact this)
      (fun j hj => by rw [blk_cell hW1]; simp only [List.length_cons, List.length_nil] at hj; simp; omega) (fun j hj => blk_frozen hW1 _) (by simp [Value.oneCell'])
    rw [hm] at this
    exact this
  obtain ⟨cur1, hh1, hs1, ht1⟩ := setCells_row [.int .i64 x.f0, .int .i64 x.f1, .int .i64 x.f2] (i * 3) W1 ROW hW1 (by simp only [List.length_cons, List.length_nil]; omega)
  have hfar1 : ∀ k, k ≠ H → (W1.setCells H (i * 3) [.int .i64 x.f0, .int .i64 x.f1, .int .i64 x.f2]).heap[k]? = W1.heap[k]? := fun k hk => setCells_far _ _ k hk
  obtain ⟨e1, e2, e3, e4⟩ := setCells_same H [.int .i64 x.f0, .int .i64 x.f1, .int .i64 x.f2] (i * 3) W1
  generalize W1.setCells H (i * 3) [.int .i64 x.f0, .int .i64 x.f1, .int .i64 x.f2] = W2 at hcpA hh1 hfar1 e1 e2 e3 e4
  have hbN : b ≠ H := by omega
  have hbW2 : W2.heap[b]? = some (.cells cur 62 (0, 0)) := (hfar1 b hbN).trans (blk_below hh hB1)
  have hcpB : ∀ dc sc ty, (Builtin.copy_ #[27, 27] ty #[.slice (some ⟨H, (i + 1) * 3, none⟩) (l.length - i) dc, .slice (some ⟨b, i * 3, none⟩) (l.length - i) sc]).run Try.prog W2.drew = .ok (goInt ((l.length - i : Nat) : Int)) (W2.drew.setCells H ((i + 1) * 3) (cellsS62 (l.drop i))) := fun dc sc ty => by
    have hm : Nat.min (l.length - i) (l.length - i) = l.length - i := Nat.min_self _
    have := run_copy_many (P := Try.prog) W2.drew 27 27 ty 62 H ((i + 1) * 3) (l.length - i) dc ⟨b, i * 3, none⟩ (l.length - i) sc 3 (cellsS62 (l.drop i)) Try.underlying27 hsz (by rw [hdl, hm])
      (fun j v hj => by
        rw [Addr.add_lit]
        rw [← cellsS62_drop l i (by omega), List.getElem?_drop] at hj
        have := hcell _ v hj
        rw [blk_cell hh] at this
        rw [blk_cell (w := W2.drew) hbW2]
        exact this)
      (fun j hj => by rw [blk_cell (w := W2.drew) hh1]; simp; omega) (fun j hj => blk_frozen (w := W2.drew) hh1 _) (cellsS62_one _)
    rw [hm] at this
    exact this
  obtain ⟨cur2, hh2, hs2, ht2⟩ := setCells_row (cellsS62 (l.drop i)) ((i + 1) * 3) W2.drew cur1 hh1 (by omega)
  have hfar2 : ∀ k, k ≠ H → (W2.drew.setCells H ((i + 1) * 3) (cellsS62 (l.drop i))).heap[k]? = W1.heap[k]? := fun k hk => (setCells_far _ _ k hk).trans (hfar1 k hk)
  obtain ⟨f1, f2, f3, f4⟩ := setCells_same H (cellsS62 (l.drop i)) ((i + 1) * 3) W2.drew
  generalize W2.drew.setCells H ((i + 1) * 3) (cellsS62 (l.drop i)) = W3 at hcpB hh2 hfar2 f1 f2 f3 f4
  have hBF : Below w.heap.size w W3 := ⟨f1.trans (e1.trans hB1.os), f2.trans (e2.trans hB1.tape), f3.trans (e3.trans hB1.output), by rw [f4]; exact Nat.le_trans hB1.size (Nat.le_of_eq e4.symm), fun k hk => (hfar2 k (by omega)).trans (hB1.block k hk)⟩
  have hfin : cur2.toList.take ((l.length + 1) * 3) = cellsS62 (l.take i ++ [x] ++ l.drop i) := by
    have hA : cur1.toList.take ((i + 1) * 3) = cellsS62 (l.take i) ++ [.int .i64 x.f0, .int .i64 x.f1, .int .i64 x.f2] := by
      rw [ht1, hRt, List.append_assoc, ← List.append_assoc]
      have : (cellsS62 (l.take i) ++ ([.int .i64 x.f0, .int .i64 x.f1, .int .i64 x.f2] : List Value)).length = (i + 1) * 3 := by rw [List.length_append, htl]; show i * 3 + 3 = _; omega
      rw [← this, List.take_left]
    rw [ht2, hA, cellsS62_append, cellsS62_append]
    have : (cellsS62 (l.take i) ++ ([.int .i64 x.f0, .int .i64 x.f1, .int .i64 x.f2] : List Value) ++ cellsS62 (l.drop i)).length = (l.length + 1) * 3 := by rw [List.length_append, List.length_append, htl, hdl]; show i * 3 + 3 + _ = _; omega
    rw [← this, List.take_left]
    rfl
  have hlen : (l.take i ++ [x] ++ l.drop i).length = l.length + 1 := by simp; omega
  have hres : W3.ownsRow w0.heap.size 62 3 (.slice (some ⟨H, 0, none⟩) (l.length + 1) G) (l.take i ++ [x] ++ l.drop i).length (cellsS62 (l.take i ++ [x] ++ l.drop i)) :=
    ⟨cellsS62_length _, .inr ⟨H, G, cur2, by rw [hlen], by rw [hH]; exact hB.size, hh2, by omega, by unfold maxLen; omega, by omega, by rw [hlen]; exact hfin⟩⟩
  have HG := Aside0.mk hBF
  have HR := Aside0.mk hres
  have HB := Aside0.mk hB
  have HC0 := Aside0.mk hrz
  have HC1 := Aside0.mk hcpA
  have HC2 := Aside0.mk hcpB
  have HH := Aside0.mk hH
  have hGi : ¬ G = i := by omega
  have hGi1 : ¬ G = i + 1 := by omega
  have hci : ¬ c = i := by omega
  have hni : ¬ ((i : Int) = (l.length : Int)) := by omega
  have hz3 : (c : Int) < (l.length : Int) + 1 := by omega
  clear hBF hres hB hrz hcpA hcpB hfin hlen hh2 hh1 ht1 ht2 hs1 hs2 hfar1 hfar2 e1 e2 e3 e4 f1 f2 f3 f4 hcell hdl hsz hown ht hcs hh ho0 hv hx hH hbw hvw hW1 hB1 hvW1 hbW2 htl hRt hRs hROW hold hi0 hz0 hz1 hz2 hcm
  go_enter Try.func48, Try.ntmps48
  go_wp2_with (first
    | (at_builtin; refine Lib.wpList_append_run _ rfl (.tmp 34) (.tmp 39) 27 3 rfl (.slice (some ⟨b, 0, none⟩) i c) (.int .i64 ((l.length : Int) + 1 - (i : Int))) (by simp [Act.eval, Act.put]) (by simp [Act.eval, Act.put]) _ _ (HC0.out _) ?_)
    | (with_reducible refine wpList_copy_runH _ rfl (.tmp 43) (.tmp 44) 27 27 rfl (.slice (some ⟨H, i * 3, none⟩) (l.length + 1 - i) (G - i)) (.slice (some ⟨vb, 0, none⟩) 1 vc) (by simp [Act.eval, Act.put]) (by simp [Act.eval, Act.put]) (HC1.out _) ?_))
  have hw1 : IntKind.i64.wrap ((i : Int) + 1) = (i : Int) + 1 := by rw [IntKind.wrap_i64]; omega
  have hb1 : (0 : Int) ≤ (i : Int) + 1 := by omega
  have htn : ((i : Int) + 1).toNat = i + 1 := by omega
  have hin : i ≤ l.length := by omega
  have hb3 : (i : Int) ≤ (l.length : Int) + 1 := by omega
  go_region_law (refine step_copy_runH rfl (.tmp 50) (.tmp 53) 27 27 rfl (.slice (some ⟨H, (i + 1) * 3, none⟩) (l.length - i) (G - (i + 1))) (.slice (some ⟨b, i * 3, none⟩) (l.length - i) (c - i)) (by simp [Act.eval, Act.put]) (by simp [Act.eval, Act.put]) (HC2.out _ _) ?_)
  go_wp2
  go_ret
  exact ⟨_, rfl, R_ownS62 (fun k hk => .inr (by injection hk with hk; subst hk; exact Nat.le_of_eq HH.out.symm)) HR.out, below_step HB.out HG.out, Kept.of_below HG.out _⟩
theorem impl_Window_48.calls (P0_ : Nat → Prop) (u9000_ : Value) (l0 : List S62) (a1 : Int) (P2_ : Nat → Prop) (u9002_ : Value) (l2 : List S62) (r : List S62) (w0 w : World) (hB : Below w0.heap.size w0 w) (ho0 : Kd.R k62 62 w w0.heap.size P0_ u9000_ l0) (hap0 : ∀ k_, P0_ k_ → ¬ P2_ k_) (ho2 : Kd.R k62 62 w w0.heap.size P2_ u9002_ l2) (hap2 : ∀ k_, P2_ k_ → ¬ P0_ k_) (h : impl_Window_48.f l0 a1 l2 = some r) :
    Calls Try.prog 48 #[u9000_, .int .i64 a1, u9002_] w fun e w' => ∃ v, e = .returned v ∧ Kd.R k62 62 w' w0.heap.size (fun k_ => (P0_ k_ ∨ P2_ k_) ∨ w.heap.size ≤ k_) v r ∧ Below w0.heap.size w0 w' ∧ Kept w w' (fun k_ => P0_ k_ ∨ P2_ k_) := by
  unfold impl_Window_48.f at h
  by_cases h1 : 0 ≤ a1
  · rw [if_pos h1] at h
    by_cases h2 : a1 ≤ (l0.length : Int)
    · rw [if_pos h2] at h
      by_cases h3 : l2.length = 1
      · rw [if_pos h3] at h
        by_cases h4 : l0.length ≤ 1000000
        · rw [if_pos h4] at h
          obtain rfl := Option.some.inj h
          obtain ⟨i, rfl⟩ := Int.eq_ofNat_of_zero_le h1
          obtain ⟨x, rfl⟩ := List.length_eq_one_iff.1 h3
          obtain ⟨vb, vc, rfl, hvb, hvl, curv, hv⟩ := Kd.R_form ho2 (by simp)
          have hP2 : P2_ vb := ho2.1 vb rfl
          have hx : ∀ j v, [.int .i64 x.f0, .int .i64 x.f1, .int .i64 x.f2][j]? = some v → w.cell? ⟨vb, j, none⟩ = some v := fun j v hj => by
            have := (ownS62_of ho2).cells (g := vb) rfl j v (by simpa [cellsS62] using hj)
            rwa [add_plain] at this
          rw [Int.toNat_natCast]
          have fin : ∀ {v : Value} {w' : World} {rr : List S62}, Kd.R k62 62 w' w0.heap.size (fun k_ => P0_ k_ ∨ w.heap.size ≤ k_) v rr → Kd.R k62 62 w' w0.heap.size (fun k_ => (P0_ k_ ∨ P2_ k_) ∨ w.heap.size ≤ k_) v rr := fun h => Kd.R_mono h (fun _ hk => hk.elim (fun h => .inl (.inl h)) .inr)
          by_cases h5 : i = l0.length
          · subst h5
            rw [List.take_length, List.drop_length, List.append_nil]
            exact (insEnd48 P0_ u9000_ l0 x vb vc w0 w hB ho0 h4 hx).mono fun _ _ ⟨v, e, hr, hb, hk⟩ => ⟨v, e, fin hr, hb, hk.mono (fun _ hk => .inl hk)⟩
          · obtain ⟨b, c, rfl, hbb, hbl, curb, hb⟩ := Kd.R_form ho0 (by omega)
            have hne : vb ≠ b := fun e => hap0 b (ho0.1 b rfl) (e ▸ hP2)
            by_cases h6 : l0.length + 1 ≤ c
            · exact (insShift48 P0_ b c i l0 x vb vc w0 w hB ho0 h4 (by omega) h6 hne hv hx).mono fun _ _ ⟨v, e, hr, hb, hk⟩ => ⟨v, e, fin hr, hb, hk.mono (fun _ hk => .inl hk)⟩
            · exact (insGrow48 P0_ b c i l0 x vb vc w0 w hB ho0 h4 (by omega) (by omega) hv hx).mono fun _ _ ⟨v, e, hr, hb, hk⟩ => ⟨v, e, fin hr, hb, hk.mono (fun _ hk => .inl hk)⟩
        · rw [if_neg h4] at h
          exact absurd h (by simp)
      · rw [if_neg h3] at h
        exact absurd h (by simp)
    · rw [if_neg h2] at h
      exact absurd h (by simp)
  · rw [if_neg h1] at h
    exact absurd h (by simp)
-- HAND TO

end Go.Proofs.Ytlkphaahkhfgoaa.PFnWindows
