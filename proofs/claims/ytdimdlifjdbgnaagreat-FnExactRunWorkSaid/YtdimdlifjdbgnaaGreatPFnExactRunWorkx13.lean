import Derived.Test.YtdimdlifjdbgnaaGreatPFnExactRunWorkx12
namespace Go.Proofs.YtdimdlifjdbgnaaGreat.PFnExactRunWork
open Go.RowKit Go.Proofs.YtdimdlifjdbgnaaGreatW.PrintWords Go.Proofs.YtdimdlifjdbgnaaGreatW.PrintLast Go.Proofs.YtdimdlifjdbgnaaGreatW.PrintMore Go.Proofs.YtdimdlifjdbgnaaGreat.Sq
attribute [local go_sem] max2_int min2_int max_two min_two max_three min_three max_four min_four
set_option linter.unusedVariables false
set_option linter.unusedSimpArgs false

-- HAND FROM
/-! ### slices.Insert (function 97) (by hand) -/
def impl_Defect_97.f (l0 : List S90) (a1 : Int) (l2 : List S90) : Option (List S90) := if 0 ≤ a1 then if a1 ≤ (l0.length : Int) then if l2.length = 1 then if l0.length ≤ 1000000 then some (l0.take a1.toNat ++ l2 ++ l0.drop a1.toNat) else none else none else none else none
def cellsS90 (l : List S90) : List Value := l.flatMap fun x => [.string x.f0, .int .i64 x.f1, .int .i64 x.f2]
theorem cellsS90_length : ∀ l : List S90, (cellsS90 l).length = l.length * 3
  | [] => rfl
  | x :: l => by simp only [cellsS90, List.flatMap_cons, List.length_append, List.length_cons, List.length_nil]; have := cellsS90_length l; unfold cellsS90 at this; omega
theorem cellsS90_append (a b : List S90) : cellsS90 (a ++ b) = cellsS90 a ++ cellsS90 b := by simp [cellsS90]
theorem cellsS90_take (l : List S90) (i : Nat) (hi : i ≤ l.length) : (cellsS90 l).take (i * 3) = cellsS90 (l.take i) := by
  conv => lhs; rw [← List.take_append_drop i l, cellsS90_append]
  rw [List.take_append_of_le_length (by rw [cellsS90_length, List.length_take]; omega), List.take_of_length_le (by rw [cellsS90_length, List.length_take]; omega)]
theorem cellsS90_drop (l : List S90) (i : Nat) (hi : i ≤ l.length) : (cellsS90 l).drop (i * 3) = cellsS90 (l.drop i) := by
  conv => lhs; rw [← List.take_append_drop i l, cellsS90_append]
  have h : (cellsS90 (l.take i)).length = i * 3 := by rw [cellsS90_length, List.length_take]; omega
  rw [← h, List.drop_left]
theorem cellsS90_one (l : List S90) : ∀ u ∈ cellsS90 l, u.oneCell' = true := by
  intro u hu
  obtain ⟨x, _, hx⟩ := List.mem_flatMap.1 hu
  simp only [List.mem_cons, List.not_mem_nil, or_false] at hx
  rcases hx with rfl | rfl | rfl <;> rfl
theorem cellsS90_reps {w : World} {base : Nat} {ok : Nat → Prop} : ∀ (l : List S90) (cs : List Value), Reps (k90.M w base ok) 3 l cs → cs = cellsS90 l
  | [], cs, h => List.eq_nil_of_length_eq_zero (by have := h.1; simpa using this)
  | x :: l, cs, h => by
    have h0 := k90_openM (h.2 0 x rfl)
    have hl := h.1
    simp only [List.length_cons] at hl
    have ih := cellsS90_reps l (cs.drop 3) ⟨by rw [List.length_drop]; omega, fun j p hj => by
      have := h.2 (j + 1) p (by simpa using hj)
      rwa [show (j + 1) * 3 = 3 + j * 3 by omega, ← List.drop_drop] at this⟩
    rw [Nat.zero_mul, List.drop_zero] at h0
    rw [← List.take_append_drop 3 cs, ih, h0]
    simp [cellsS90]
theorem reps_cellsS90 (w : World) (base : Nat) (ok : Nat → Prop) : ∀ l : List S90, Reps (k90.M w base ok) 3 l (cellsS90 l)
  | [] => Reps.none _ _
  | x :: l => by
    have ih := reps_cellsS90 w base ok l
    refine ⟨cellsS90_length _, fun j p hj => ?_⟩
    cases j with
    | zero =>
      obtain rfl : x = p := by simpa using hj
      have e : ((cellsS90 (x :: l)).drop (0 * 3)).take 3 = [.string x.f0, .int .i64 x.f1, .int .i64 x.f2] := by simp [cellsS90]
      rw [e]
      exact k90_mkM _ _ _ x
    | succ j =>
      have := ih.2 j p (by simpa using hj)
      have e : (cellsS90 (x :: l)).drop ((j + 1) * 3) = (cellsS90 l).drop (j * 3) := by
        rw [show (j + 1) * 3 = 3 + j * 3 by omega, ← List.drop_drop]
        congr 1
      rw [e]
      exact this
theorem ownS90_of {w : World} {base : Nat} {ok : Nat → Prop} {v : Value} {l : List S90} (h : Kd.R k90 90 w base ok v l) : w.ownsRow base 90 3 v l.length (cellsS90 l) := by
  obtain ⟨_, inner, ho, hr⟩ := h
  rw [← cellsS90_reps l inner hr]
  exact ho
theorem R_ownS90 {w : World} {base : Nat} {ok : Nat → Prop} {v : Value} {l : List S90} (h0 : ∀ k, v.ownBlock = some k → ok k) (h : w.ownsRow base 90 3 v l.length (cellsS90 l)) : Kd.R k90 90 w base ok v l :=
  ⟨h0, cellsS90 l, h, reps_cellsS90 _ _ _ l⟩
/-! copy, elements of any size -/
theorem run_copy_many {P : Program} (w : World) (dT sT ty elem : TypeId) (b o dLen dCap : Nat) (a : Addr) (sLen sCap sz : Nat) (cs : List Value)
    (hu : P.underlying dT = some (.slice elem)) (hs : (P.info? elem).map (·.size) = some sz) (hn : cs.length = Nat.min sLen dLen * sz)
    (hsrc : ∀ j v, cs[j]? = some v → w.cell? (a.add j) = some v) (hc : ∀ j, j < cs.length → (w.cell? ⟨b, o + j, none⟩).isSome = true) (hf : ∀ j, j < cs.length → w.frozen? ⟨b, o + j, none⟩ = false) (h1 : ∀ v ∈ cs, v.oneCell' = true) :
    (Builtin.copy_ #[dT, sT] ty #[.slice (some ⟨b, o, none⟩) dLen dCap, .slice (some a) sLen sCap]).run P w = .ok (goInt (Nat.min sLen dLen)) (w.setCells b o cs) := by
  have hl := run_loadCells_list (P := P) w a cs hsrc
  have hst := run_storeCells_cells (P := P) b o cs 0 w (by simpa using hc) (by simpa using hf) h1
  cases hq : P.info? elem with
  | none => simp [hq] at hs
  | some i =>
    have hi : i.size = sz := by simpa [hq] using hs
    simp [Builtin.copy_, run_underlying hu, Builtin.lenOf, Builtin.firstCells, sizeOf, typeInfo, hq, hi, ← hn, hl, hst]
theorem wpList_copy_runH {P : Program} (w : World) {ops : Array Oper} {rest : List Oper} {o : Oper} {a : Act} {Q : Exit → Act → World → Prop} (hgd : o.guard = none) (d s : Operand) (t t' : TypeId)
    (ho : o.op = .call { callee := .builtin .copy, args := #[d, s], argTypes := #[t, t'] }) (v u : Value) (hd : a.eval d = v) (hs : a.eval s = u) {v' : Value} {w' : World}
    (hr : ∀ ty, (Builtin.copy_ #[t, t'] ty #[v, u]).run P w = .ok v' w') (h : wpList P ops Q rest (a.put o.dst v') w') : wpList P ops Q (o :: rest) a w :=
  Kd.event_run hgd (by
    unfold execOp
    simp only [ho, resolve, invoke, builtin, Sem.run_bind, Sem.run_pure, Result.andThen_ok, List.map_toArray, List.map_cons, List.map_nil, hd, hs, hr]) h
theorem step_copy_runH {P : Program} {ops : Array Oper} {o : Oper} {a : Act} {w : World} {K : Act → World → Prop} {Q : Exit → Act → World → Prop} {E : Prop}
    (hg : o.guard = none) (d x : Operand) (dT sT : TypeId) (hop : o.op = Op.call { callee := Callee.builtin Builtin.copy, args := #[d, x], argTypes := #[dT, sT] })
    (v u : Value) (hd : a.eval d = v) (hx : a.eval x = u) {v' : Value} {w' : World} (hr : ∀ ty, (Builtin.copy_ #[dT, sT] ty #[v, u]).run P w = .ok v' w') (hK : K (a.put o.dst v') w') :
    if Region.wanted o (yielded ops a.tmps) = true then Oper.wp P o a w K Q else E := by
  have hw : Region.wanted o (yielded ops a.tmps) = true := by simp [Region.wanted, hg]
  rw [if_pos hw]
  unfold Oper.wp
  simp [execOp, hop, resolve, invoke, builtin, hd, hx, hr, Result.andThen]
  exact hK
theorem infoI90 : (Tryz.prog.info? 90).map (fun i => (i.zero, i.size, i.bytes)) = some (some (.agg #[.string ByteArray.empty, .int .i64 0, .int .i64 0]), 3, 32) := by kernel_rfl
set_option maxHeartbeats 8000000 in
set_option maxRecDepth 100000 in
theorem insEnd97 (P0_ : Nat → Prop) (u : Value) (l : List S90) (x : S90) (vb vc : Nat) (w0 w : World) (hB : Below w0.heap.size w0 w) (ho0 : Kd.R k90 90 w w0.heap.size P0_ u l) (hl : l.length ≤ 1000000) (hx : ∀ j v, [.string x.f0, .int .i64 x.f1, .int .i64 x.f2][j]? = some v → w.cell? ⟨vb, j, none⟩ = some v) :
    Calls Tryz.prog 97 #[u, .int .i64 (l.length : Int), .slice (some ⟨vb, 0, none⟩) 1 vc] w fun e w' => ∃ v, e = .returned v ∧ Kd.R k90 90 w' w0.heap.size (fun k_ => P0_ k_ ∨ w.heap.size ≤ k_) v (l ++ [x]) ∧ Below w0.heap.size w0 w' ∧ Kept w w' P0_ := by
  obtain ⟨i0, hi, hz0, hz1, hz2⟩ := info_parts infoI90
  obtain ⟨v', w', hrun, hown, hg, _, hat⟩ := run_append_own_at w w0.heap.size 34 34 90 i0 _ 3 32 Tryz.underlying34 hi hz0 hz1 hz2 rfl (by decide) u l.length (cellsS90 l) (ownS90_of ho0) ⟨vb, 0, none⟩ 1 vc [.string x.f0, .int .i64 x.f1, .int .i64 x.f2] rfl
    (fun j v hj => by rw [add_plain]; exact hx j v hj) (by simp [Value.oneCell']) (by simp only [maxLen]; omega) (by omega) hB.size
  obtain ⟨A, c, rfl⟩ := Kd.R_slice ho0
  have hrd := Kd.R_reads' ho0
  have hlc : l.length ≤ c := hrd.2.1
  have H1 := Aside0.mk hown
  have H2 := Aside0.mk hg
  have H3 := Aside0.mk hat
  have H4 := Aside0.mk hrun
  have HO := Aside0.mk ho0
  have HB := Aside0.mk hB
  clear hi hz0 hz1 hz2 hown hg hat hrun ho0 hrd hx hB
  go_enter Tryz.func97, Tryz.ntmps97
  go_wp2_with (at_builtin; refine Lib.wpList_append_run _ rfl _ _ 34 34 rfl _ _ rfl rfl v' w' H4.out ?_)
  all_goals
    go_ret
    refine ⟨v', rfl, R_ownS90 (fun k hk => ?_) (by rw [List.length_append, cellsS90_append]; exact H1.out), HB.out.grown H2.out HB.out.size (fun k hk => Kd.R_base HO.out k hk), Kept.of_grown H2.out (Kept.refl _ _) (fun k hk => .inl (HO.out.1 k hk))⟩
    rcases H3.out with hat | hat
    · exact .inl (HO.out.1 k (by rw [← hat]; exact hk))
    · rw [hat] at hk; injection hk with hk; exact .inr (by omega)
set_option maxHeartbeats 8000000 in
set_option maxRecDepth 100000 in
theorem insShift97 (P0_ : Nat → Prop) (b c i : Nat) (l : List S90) (x : S90) (vb vc : Nat) (w0 w : World) (hB : Below w0.heap.size w0 w) (ho0 : Kd.R k90 90 w w0.heap.size P0_ (.slice (some ⟨b, 0, none⟩) l.length c) l) (hl : l.length ≤ 1000000) (hi : i < l.length) (hroom : l.length + 1 ≤ c)
    (hne : vb ≠ b) {curv : Array Value} (hv : w.heap[vb]? = some (.cells curv 90 (0, 0))) (hx : ∀ j v, [.string x.f0, .int .i64 x.f1, .int .i64 x.f2][j]? = some v → w.cell? ⟨vb, j, none⟩ = some v) :
    Calls Tryz.prog 97 #[.slice (some ⟨b, 0, none⟩) l.length c, .int .i64 (i : Int), .slice (some ⟨vb, 0, none⟩) 1 vc] w fun e w' => ∃ v, e = .returned v ∧ Kd.R k90 90 w' w0.heap.size (fun k_ => P0_ k_ ∨ w.heap.size ≤ k_) v (l.take i ++ [x] ++ l.drop i) ∧ Below w0.heap.size w0 w' ∧ Kept w w' P0_ := by
  have hown := ownS90_of ho0
  obtain ⟨g', cap, cur, he, hbb, hh, hnc, hcm, hcs, ht⟩ := hown.2.resolve_left (by rintro ⟨h, _⟩; cases h)
  injection he with he1 _ he3
  injection he1 with he1
  injection he1 with he1
  subst he1 he3
  unfold maxLen at hcm
  have hP : P0_ b := ho0.1 b rfl
  have hov : ∀ lb cb, (callFunc 105 #[.slice (some ⟨vb, 0, none⟩) 1 vc, .slice (some ⟨b, (i + 1) * 3, none⟩) lb cb]).run Tryz.prog w = .ok (.value (.bool false)) w := fun lb cb => by
    rw [run_callFunc_extern (fn := Tryz.f105) rfl (by kernel_rfl) (by kernel_rfl) (by kernel_rfl) (e := Extern.SlicesOverlaps.overlaps #[34, 34] #[4]) (by kernel_rfl),
      Lib.run_overlaps_apart w 34 4 90 Tryz.underlying34 3 (fun w => by kernel_rfl) ⟨vb, 0, none⟩ ⟨b, (i + 1) * 3, none⟩ 1 vc lb cb hne 90 90 curv.size cur.size (by simp [World.shape?, hv]) (by simp [World.shape?, hh]) (by omega) (blk_frozen hv _) (blk_frozen hv _)]
    rfl
  have hsz : (Tryz.prog.info? 90).map (·.size) = some 3 := by
    obtain ⟨i0, hi0, h0, h1, h2⟩ := info_parts infoI90
    rw [hi0]; simp [h1]
  have hdl : (cellsS90 (l.drop i)).length = (l.length - i) * 3 := by rw [cellsS90_length, List.length_drop]
  have hcell : ∀ j u, (cellsS90 l)[j]? = some u → w.cell? ⟨b, j, none⟩ = some u := fun j u hj => by
    rw [blk_cell hh, ← Array.getElem?_toList]
    rw [← ht, List.getElem?_take] at hj
    split at hj
    · exact hj
    · cases hj
  have hsome : ∀ j, j < c * 3 → (w.cell? ⟨b, j, none⟩).isSome = true := fun j hj => by rw [blk_cell hh]; simp; omega
  have hcp1 : ∀ dc sc ty, (Builtin.copy_ #[34, 34] ty #[.slice (some ⟨b, (i + 1) * 3, none⟩) (l.length - i) dc, .slice (some ⟨b, i * 3, none⟩) (l.length + 1 - i) sc]).run Tryz.prog w.drew = .ok (goInt ((l.length - i : Nat) : Int)) (w.drew.setCells b ((i + 1) * 3) (cellsS90 (l.drop i))) := fun dc sc ty => by
    have hm : Nat.min (l.length + 1 - i) (l.length - i) = l.length - i := by simp only [Nat.min_def]; split <;> omega
    have := run_copy_many (P := Tryz.prog) w.drew 34 34 ty 90 b ((i + 1) * 3) (l.length - i) dc ⟨b, i * 3, none⟩ (l.length + 1 - i) sc 3 (cellsS90 (l.drop i)) Tryz.underlying34 hsz (by rw [hdl, hm])
      (fun j v hj => by rw [Addr.add_lit]; refine hcell _ v ?_; rw [← cellsS90_drop l i (by omega), List.getElem?_drop] at hj; exact hj)
      (fun j hj => hsome _ (by omega)) (fun j hj => blk_frozen hh _) (cellsS90_one _)
    rw [hm] at this
    exact this
  obtain ⟨cur1, hh1, hs1, ht1⟩ := setCells_row (cellsS90 (l.drop i)) ((i + 1) * 3) w.drew cur hh (by omega)
  have hfar1 : ∀ k, k ≠ b → (w.drew.setCells b ((i + 1) * 3) (cellsS90 (l.drop i))).heap[k]? = w.heap[k]? := fun k hk => setCells_far _ _ k hk
  obtain ⟨e1, e2, e3, e4⟩ := setCells_same b (cellsS90 (l.drop i)) ((i + 1) * 3) w.drew
  generalize w.drew.setCells b ((i + 1) * 3) (cellsS90 (l.drop i)) = W1 at hcp1 hh1 hfar1 e1 e2 e3 e4
  have hv1 : W1.heap[vb]? = some (.cells curv 90 (0, 0)) := (hfar1 vb hne).trans hv
  have hcp2 : ∀ dc ty, (Builtin.copy_ #[34, 34] ty #[.slice (some ⟨b, i * 3, none⟩) (l.length + 1 - i) dc, .slice (some ⟨vb, 0, none⟩) 1 vc]).run Tryz.prog W1 = .ok (goInt 1) (W1.setCells b (i * 3) [.string x.f0, .int .i64 x.f1, .int .i64 x.f2]) := fun dc ty => by
    have hm : Nat.min 1 (l.length + 1 - i) = 1 := by simp only [Nat.min_def]; split <;> omega
    have := run_copy_many (P := Tryz.prog) W1 34 34 ty 90 b (i * 3) (l.length + 1 - i) dc ⟨vb, 0, none⟩ 1 vc 3 [.string x.f0, .int .i64 x.f1, .int .i64 x.f2] Tryz.underlying34 hsz (by rw [hm]; rfl)
      (fun j v hj => by
        rw [add_plain]
        have := hx j v hj
        rw [blk_cell hv] at this
        rw [blk_cell hv1]
        exact this)
      (fun j hj => by rw [blk_cell hh1]; simp only [List.length_cons, List.length_nil] at hj; simp; omega) (fun j hj => blk_frozen hh1 _) (by simp [Value.oneCell'])
    rw [hm] at this
    exact this
  obtain ⟨cur2, hh2, hs2, ht2⟩ := setCells_row [.string x.f0, .int .i64 x.f1, .int .i64 x.f2] (i * 3) W1 cur1 hh1 (by simp only [List.length_cons, List.length_nil]; omega)
  have hfar2 : ∀ k, k ≠ b → (W1.setCells b (i * 3) [.string x.f0, .int .i64 x.f1, .int .i64 x.f2]).heap[k]? = w.heap[k]? := fun k hk => (setCells_far _ _ k hk).trans (hfar1 k hk)
  obtain ⟨f1, f2, f3, f4⟩ := setCells_same b [.string x.f0, .int .i64 x.f1, .int .i64 x.f2] (i * 3) W1
  generalize W1.setCells b (i * 3) [.string x.f0, .int .i64 x.f1, .int .i64 x.f2] = W2 at hcp2 hh2 hfar2 f1 f2 f3 f4
  have hg : w.grownBy W2 (some b) := ⟨f1.trans e1, f2.trans e2, f3.trans e3, by rw [f4, e4]; exact Nat.le_refl _, fun k _ hk => hfar2 k (fun e => hk (by rw [e]))⟩
  have hfin : cur2.toList.take ((l.length + 1) * 3) = cellsS90 (l.take i ++ [x] ++ l.drop i) := by
    have hcl : cur.toList.length = c * 3 := by rw [Array.length_toList, hcs]
    have hA : cur1.toList.take (i * 3) = cellsS90 (l.take i) := by
      rw [ht1, List.append_assoc, List.take_append_of_le_length (by rw [List.length_take]; omega), List.take_take, Nat.min_eq_left (by omega), ← cellsS90_take l i (by omega), ← ht, List.take_take, Nat.min_eq_left (by omega)]
    have hD : (cur1.toList.drop (i * 3 + 3)).take ((l.length - i) * 3) = cellsS90 (l.drop i) := by
      rw [ht1, List.append_assoc, List.drop_append_of_le_length (by rw [List.length_take]; omega), List.drop_of_length_le (by rw [List.length_take]; omega), List.nil_append, ← hdl, List.take_left]
    rw [ht2, cellsS90_append, cellsS90_append, hA, List.append_assoc, List.append_assoc]
    have h1 : (cellsS90 (l.take i)).length = i * 3 := by rw [cellsS90_length, List.length_take]; omega
    rw [List.take_append, List.take_of_length_le (by omega), h1, List.take_append, List.take_of_length_le (show ([.string x.f0, .int .i64 x.f1, .int .i64 x.f2] : List Value).length ≤ _ by show 3 ≤ _; omega)]
    congr 1
    have e : (l.length + 1) * 3 - i * 3 - ([.string x.f0, .int .i64 x.f1, .int .i64 x.f2] : List Value).length = (l.length - i) * 3 := by show (l.length + 1) * 3 - i * 3 - 3 = _; omega
    rw [e]
    have e' : i * 3 + ([.string x.f0, .int .i64 x.f1, .int .i64 x.f2] : List Value).length = i * 3 + 3 := rfl
    rw [e', hD]
    rfl
  have hlen : (l.take i ++ [x] ++ l.drop i).length = l.length + 1 := by simp; omega
  have hres : W2.ownsRow w0.heap.size 90 3 (.slice (some ⟨b, 0, none⟩) (l.length + 1) c) (l.take i ++ [x] ++ l.drop i).length (cellsS90 (l.take i ++ [x] ++ l.drop i)) :=
    ⟨cellsS90_length _, .inr ⟨b, c, cur2, by rw [hlen], hbb, hh2, by omega, by unfold maxLen; omega, by omega, by rw [hlen]; exact hfin⟩⟩
  have HG := Aside0.mk hg
  have HR := Aside0.mk hres
  have HB := Aside0.mk hB
  have HC1 := Aside0.mk hcp1
  have HC2 := Aside0.mk hcp2
  have hci : ¬ c = i := by omega
  have hci1 : ¬ c = i + 1 := by omega
  have hni : ¬ ((i : Int) = (l.length : Int)) := by omega
  clear hg hres hB hcp1 hcp2 hfin hlen hh2 hh1 ht1 ht2 hs1 hs2 hfar1 hfar2 e1 e2 e3 e4 f1 f2 f3 f4 hv1 hcell hsome hdl hsz hown ht hcs hh ho0 hv hx
  go_enter Tryz.func97, Tryz.ntmps97
  go_wp2_with (simp only [hov])
  have hw1 : IntKind.i64.wrap ((i : Int) + 1) = (i : Int) + 1 := by rw [IntKind.wrap_i64]; omega
  have hb1 : (0 : Int) ≤ (i : Int) + 1 := by omega
  have htn : ((i : Int) + 1).toNat = i + 1 := by omega
  have hin : i ≤ l.length := by omega
  have hb3 : (i : Int) ≤ (l.length : Int) + 1 := by omega
  go_region_law (refine step_copy_runH rfl (.tmp 73) (.tmp 76) 34 34 rfl (.slice (some ⟨b, (i + 1) * 3, none⟩) (l.length - i) (c - (i + 1))) (.slice (some ⟨b, i * 3, none⟩) (l.length + 1 - i) (c - i)) (by simp [Act.eval, Act.put]) (by simp [Act.eval, Act.put]) (HC1.out _ _) ?_)
  go_wp2_with (with_reducible refine wpList_copy_runH _ rfl (.tmp 80) (.tmp 81) 34 34 rfl (.slice (some ⟨b, i * 3, none⟩) (l.length + 1 - i) (c - i)) (.slice (some ⟨vb, 0, none⟩) 1 vc) (by simp [Act.eval, Act.put]) (by simp [Act.eval, Act.put]) (HC2.out _) ?_)
  go_ret
  exact ⟨_, rfl, R_ownS90 (fun k hk => .inl (by injection hk with hk; subst hk; exact hP)) HR.out, HB.out.grown HG.out HB.out.size (fun k hk => by injection hk with hk; subst hk; exact hbb), Kept.of_grown HG.out (Kept.refl _ _) (fun k hk => .inl (by injection hk with hk; subst hk; exact hP))⟩
set_option maxHeartbeats 8000000 in
set_option maxRecDepth 100000 in
theorem insGrow97 (P0_ : Nat → Prop) (b c i : Nat) (l : List S90) (x : S90) (vb vc : Nat) (w0 w : World) (hB : Below w0.heap.size w0 w) (ho0 : Kd.R k90 90 w w0.heap.size P0_ (.slice (some ⟨b, 0, none⟩) l.length c) l) (hl : l.length ≤ 1000000) (hi : i < l.length) (hroom : c < l.length + 1)
    {curv : Array Value} (hv : w.heap[vb]? = some (.cells curv 90 (0, 0))) (hx : ∀ j v, [.string x.f0, .int .i64 x.f1, .int .i64 x.f2][j]? = some v → w.cell? ⟨vb, j, none⟩ = some v) :
    Calls Tryz.prog 97 #[.slice (some ⟨b, 0, none⟩) l.length c, .int .i64 (i : Int), .slice (some ⟨vb, 0, none⟩) 1 vc] w fun e w' => ∃ v, e = .returned v ∧ Kd.R k90 90 w' w0.heap.size (fun k_ => P0_ k_ ∨ w.heap.size ≤ k_) v (l.take i ++ [x] ++ l.drop i) ∧ Below w0.heap.size w0 w' ∧ Kept w w' P0_ := by
  have hown := ownS90_of ho0
  obtain ⟨g', cap, cur, he, hbb, hh, hnc, hcm, hcs, ht⟩ := hown.2.resolve_left (by rintro ⟨h, _⟩; cases h)
  injection he with he1 _ he3
  injection he1 with he1
  injection he1 with he1
  subst he1 he3
  have hcell : ∀ j u, (cellsS90 l)[j]? = some u → w.cell? ⟨b, j, none⟩ = some u := fun j u hj => by
    rw [blk_cell hh, ← Array.getElem?_toList]
    rw [← ht, List.getElem?_take] at hj
    split at hj
    · exact hj
    · cases hj
  obtain ⟨i0, hi0, hz0, hz1, hz2⟩ := info_parts infoI90
  have hsz : (Tryz.prog.info? 90).map (·.size) = some 3 := by rw [hi0]; simp [hz1]
  have hold : (Builtin.firstCells i0.size i (.slice (some ⟨b, 0, none⟩) i c)).run Tryz.prog w.drew = .ok (cellsS90 (l.take i)).toArray w.drew := by
    rw [hz1]
    exact run_firstCells_some w.drew 3 i ⟨b, 0, none⟩ i c (cellsS90 (l.take i)) (by rw [cellsS90_length, List.length_take]; omega) (fun j v hj => by
      rw [add_plain]
      rw [← cellsS90_take l i (by omega), List.getElem?_take] at hj
      split at hj
      · exact hcell j v hj
      · cases hj)
  have hrz : ∀ ty, (Builtin.append_ #[34, 3] ty #[.slice (some ⟨b, 0, none⟩) i c, .int .i64 ((l.length : Int) + 1 - (i : Int))]).run Tryz.prog w =
      .ok (.slice (some ⟨w.heap.size, 0, none⟩) (l.length + 1) (grownCap w (l.length + 1) c 90)) (w.drew.alloc (.cells ((cellsS90 (l.take i)).toArray ++ Builtin.zeroCells (Value.agg #[.string ByteArray.empty, .int .i64 0, .int .i64 0]).cells (l.length + 1 - i) ++ Builtin.zeroCells (Value.agg #[.string ByteArray.empty, .int .i64 0, .int .i64 0]).cells (grownCap w (l.length + 1) c 90 - (l.length + 1))) 90)) := fun ty => by
    have hik : i + (l.length + 1 - i) = l.length + 1 := by omega
    have h := Lib.run_append_grow_zeros w 34 3 ty 90 i0 _ .i64 .i64 Tryz.underlying34 Tryz.underlying3 hi0 hz0 (some ⟨b, 0, none⟩) i c (cellsS90 (l.take i)) hold (l.length + 1 - i) (by omega) (by omega) (by omega) (by omega) (by rw [hz2]; omega) (by rw [hz2, hik]; exact growslice_fits hroom (by omega))
    rw [hik] at h
    rw [show (l.length : Int) + 1 - (i : Int) = ((l.length + 1 - i : Nat) : Int) by omega]
    exact h
  have hGn : l.length + 1 ≤ grownCap w (l.length + 1) c 90 := grownCap_ge w _ _ _
  have hG63 : grownCap w (l.length + 1) c 90 ≤ 9223372036854775807 := by
    have := grownCap_le_maxLen w (l.length + 1) c 90 (by unfold maxLen; omega)
    unfold maxLen at this
    omega
  generalize grownCap w (l.length + 1) c 90 = G at hrz hGn hG63
  obtain ⟨ROW, hROW⟩ : ∃ ROW : Array Value, ROW = (cellsS90 (l.take i)).toArray ++ Builtin.zeroCells (Value.agg #[.string ByteArray.empty, .int .i64 0, .int .i64 0]).cells (l.length + 1 - i) ++ Builtin.zeroCells (Value.agg #[.string ByteArray.empty, .int .i64 0, .int .i64 0]).cells (G - (l.length + 1)) := ⟨_, rfl⟩
  rw [← hROW] at hrz
  have htl : (cellsS90 (l.take i)).length = i * 3 := by rw [cellsS90_length, List.length_take]; omega
  have hRs : ROW.size = G * 3 := by
    rw [hROW, Array.size_append, Array.size_append, size_zeroCells, size_zeroCells, List.size_toArray, htl]
    show i * 3 + (l.length + 1 - i) * 3 + (G - (l.length + 1)) * 3 = G * 3
    omega
  have hRt : ROW.toList.take (i * 3) = cellsS90 (l.take i) := by
    rw [hROW, Array.toList_append, Array.toList_append, List.append_assoc, ← htl, List.take_left]
  have hdl : (cellsS90 (l.drop i)).length = (l.length - i) * 3 := by rw [cellsS90_length, List.length_drop]
  have hbw : b < w.heap.size := blk_lt hh
  have hvw : vb < w.heap.size := blk_lt hv
  obtain ⟨H, hH⟩ : ∃ H, H = w.heap.size := ⟨_, rfl⟩
  have hB1 : Below w.heap.size w (w.drew.alloc (.cells ROW 90)) := below_alloc (w := w) (W := w.drew) (below_drew (Below.refl _ _)) _
  have hW1 : (w.drew.alloc (.cells ROW 90)).heap[H]? = some (.cells ROW 90 (0, 0)) := by rw [hH]; exact blk_new w.drew _
  generalize w.drew.alloc (.cells ROW 90) = W1 at hrz hB1 hW1
  rw [← hH] at hrz
  have hvW1 : W1.heap[vb]? = some (.cells curv 90 (0, 0)) := blk_below hv hB1
  have hcpA : ∀ dc ty, (Builtin.copy_ #[34, 34] ty #[.slice (some ⟨H, i * 3, none⟩) (l.length + 1 - i) dc, .slice (some ⟨vb, 0, none⟩) 1 vc]).run Tryz.prog W1 = .ok (goInt 1) (W1.setCells H (i * 3) [.string x.f0, .int .i64 x.f1, .int .i64 x.f2]) := fun dc ty => by
    have hm : Nat.min 1 (l.length + 1 - i) = 1 := by simp only [Nat.min_def]; split <;> omega
    have := run_copy_many (P := Tryz.prog) W1 34 34 ty 90 H (i * 3) (l.length + 1 - i) dc ⟨vb, 0, none⟩ 1 vc 3 [.string x.f0, .int .i64 x.f1, .int .i64 x.f2] Tryz.underlying34 hsz (by rw [hm]; rfl)
      (fun j v hj => by
        rw [add_plain]
        have := hx j v hj
        rw [blk_cell hv] at this
        rw [blk_cell hvW1]
        exact this)
      (fun j hj => by rw [blk_cell hW1]; simp only [List.length_cons, List.length_nil] at hj; simp; omega) (fun j hj => blk_frozen hW1 _) (by simp [Value.oneCell'])
    rw [hm] at this
    exact this
  obtain ⟨cur1, hh1, hs1, ht1⟩ := setCells_row [.string x.f0, .int .i64 x.f1, .int .i64 x.f2] (i * 3) W1 ROW hW1 (by simp only [List.length_cons, List.length_nil]; omega)
  have hfar1 : ∀ k, k ≠ H → (W1.setCells H (i * 3) [.string x.f0, .int .i64 x.f1, .int .i64 x.f2]).heap[k]? = W1.heap[k]? := fun k hk => setCells_far _ _ k hk
  obtain ⟨e1, e2, e3, e4⟩ := setCells_same H [.string x.f0, .int .i64 x.f1, .int .i64 x.f2] (i * 3) W1
  generalize W1.setCells H (i * 3) [.string x.f0, .int .i64 x.f1, .int .i64 x.f2] = W2 at hcpA hh1 hfar1 e1 e2 e3 e4
  have hbN : b ≠ H := by omega
  have hbW2 : W2.heap[b]? = some (.cells cur 90 (0, 0)) := (hfar1 b hbN).trans (blk_below hh hB1)
  have hcpB : ∀ dc sc ty, (Builtin.copy_ #[34, 34] ty #[.slice (some ⟨H, (i + 1) * 3, none⟩) (l.length - i) dc, .slice (some ⟨b, i * 3, none⟩) (l.length - i) sc]).run Tryz.prog W2.drew = .ok (goInt ((l.length - i : Nat) : Int)) (W2.drew.setCells H ((i + 1) * 3) (cellsS90 (l.drop i))) := fun dc sc ty => by
    have hm : Nat.min (l.length - i) (l.length - i) = l.length - i := Nat.min_self _
    have := run_copy_many (P := Tryz.prog) W2.drew 34 34 ty 90 H ((i + 1) * 3) (l.length - i) dc ⟨b, i * 3, none⟩ (l.length - i) sc 3 (cellsS90 (l.drop i)) Tryz.underlying34 hsz (by rw [hdl, hm])
      (fun j v hj => by
        rw [Addr.add_lit]
        rw [← cellsS90_drop l i (by omega), List.getElem?_drop] at hj
        have := hcell _ v hj
        rw [blk_cell hh] at this
        rw [blk_cell (w := W2.drew) hbW2]
        exact this)
      (fun j hj => by rw [blk_cell (w := W2.drew) hh1]; simp; omega) (fun j hj => blk_frozen (w := W2.drew) hh1 _) (cellsS90_one _)
    rw [hm] at this
    exact this
  obtain ⟨cur2, hh2, hs2, ht2⟩ := setCells_row (cellsS90 (l.drop i)) ((i + 1) * 3) W2.drew cur1 hh1 (by omega)
  have hfar2 : ∀ k, k ≠ H → (W2.drew.setCells H ((i + 1) * 3) (cellsS90 (l.drop i))).heap[k]? = W1.heap[k]? := fun k hk => (setCells_far _ _ k hk).trans (hfar1 k hk)
  obtain ⟨f1, f2, f3, f4⟩ := setCells_same H (cellsS90 (l.drop i)) ((i + 1) * 3) W2.drew
  generalize W2.drew.setCells H ((i + 1) * 3) (cellsS90 (l.drop i)) = W3 at hcpB hh2 hfar2 f1 f2 f3 f4
  have hBF : Below w.heap.size w W3 := ⟨f1.trans (e1.trans hB1.os), f2.trans (e2.trans hB1.tape), f3.trans (e3.trans hB1.output), by rw [f4]; exact Nat.le_trans hB1.size (Nat.le_of_eq e4.symm), fun k hk => (hfar2 k (by omega)).trans (hB1.block k hk)⟩
  have hfin : cur2.toList.take ((l.length + 1) * 3) = cellsS90 (l.take i ++ [x] ++ l.drop i) := by
    have hA : cur1.toList.take ((i + 1) * 3) = cellsS90 (l.take i) ++ [.string x.f0, .int .i64 x.f1, .int .i64 x.f2] := by
      rw [ht1, hRt, List.append_assoc, ← List.append_assoc]
      have : (cellsS90 (l.take i) ++ ([.string x.f0, .int .i64 x.f1, .int .i64 x.f2] : List Value)).length = (i + 1) * 3 := by rw [List.length_append, htl]; show i * 3 + 3 = _; omega
      rw [← this, List.take_left]
    rw [ht2, hA, cellsS90_append, cellsS90_append]
    have : (cellsS90 (l.take i) ++ ([.string x.f0, .int .i64 x.f1, .int .i64 x.f2] : List Value) ++ cellsS90 (l.drop i)).length = (l.length + 1) * 3 := by rw [List.length_append, List.length_append, htl, hdl]; show i * 3 + 3 + _ = _; omega
    rw [← this, List.take_left]
    rfl
  have hlen : (l.take i ++ [x] ++ l.drop i).length = l.length + 1 := by simp; omega
  have hres : W3.ownsRow w0.heap.size 90 3 (.slice (some ⟨H, 0, none⟩) (l.length + 1) G) (l.take i ++ [x] ++ l.drop i).length (cellsS90 (l.take i ++ [x] ++ l.drop i)) :=
    ⟨cellsS90_length _, .inr ⟨H, G, cur2, by rw [hlen], by rw [hH]; exact hB.size, hh2, by omega, by unfold maxLen; omega, by omega, by rw [hlen]; exact hfin⟩⟩
  have HG := Aside0.mk hBF
  have HR := Aside0.mk hres
  have HB := Aside0.mk hB
  have HC0 := Aside0.mk hrz
  have HC1 := Aside0.mk hcpA
  have HC2 := Aside0.mk hcpB
  have HH := Aside0.mk hH
  have hGi : ¬ G = i := by omega
  have hGi1 : ¬ G = i + 1 := by omega
  have hci : ¬ c = i := by omega
  have hni : ¬ ((i : Int) = (l.length : Int)) := by omega
  have hz3 : (c : Int) < (l.length : Int) + 1 := by omega
  clear hBF hres hB hrz hcpA hcpB hfin hlen hh2 hh1 ht1 ht2 hs1 hs2 hfar1 hfar2 e1 e2 e3 e4 f1 f2 f3 f4 hcell hdl hsz hown ht hcs hh ho0 hv hx hH hbw hvw hW1 hB1 hvW1 hbW2 htl hRt hRs hROW hold hi0 hz0 hz1 hz2 hcm
  go_enter Tryz.func97, Tryz.ntmps97
  go_wp2_with (first
    | (at_builtin; refine Lib.wpList_append_run _ rfl (.tmp 34) (.tmp 39) 34 3 rfl (.slice (some ⟨b, 0, none⟩) i c) (.int .i64 ((l.length : Int) + 1 - (i : Int))) (by simp [Act.eval, Act.put]) (by simp [Act.eval, Act.put]) _ _ (HC0.out _) ?_)
    | (with_reducible refine wpList_copy_runH _ rfl (.tmp 43) (.tmp 44) 34 34 rfl (.slice (some ⟨H, i * 3, none⟩) (l.length + 1 - i) (G - i)) (.slice (some ⟨vb, 0, none⟩) 1 vc) (by simp [Act.eval, Act.put]) (by simp [Act.eval, Act.put]) (HC1.out _) ?_))
  have hw1 : IntKind.i64.wrap ((i : Int) + 1) = (i : Int) + 1 := by rw [IntKind.wrap_i64]; omega
  have hb1 : (0 : Int) ≤ (i : Int) + 1 := by omega
  have htn : ((i : Int) + 1).toNat = i + 1 := by omega
  have hin : i ≤ l.length := by omega
  have hb3 : (i : Int) ≤ (l.length : Int) + 1 := by omega
  go_region_law (refine step_copy_runH rfl (.tmp 50) (.tmp 53) 34 34 rfl (.slice (some ⟨H, (i + 1) * 3, none⟩) (l.length - i) (G - (i + 1))) (.slice (some ⟨b, i * 3, none⟩) (l.length - i) (c - i)) (by simp [Act.eval, Act.put]) (by simp [Act.eval, Act.put]) (HC2.out _ _) ?_)
  go_wp2
  go_ret
  exact ⟨_, rfl, R_ownS90 (fun k hk => .inr (by injection hk with hk; subst hk; exact Nat.le_of_eq HH.out.symm)) HR.out, below_step HB.out HG.out, Kept.of_below HG.out _⟩
theorem impl_Defect_97.calls (P0_ : Nat → Prop) (u9000_ : Value) (l0 : List S90) (a1 : Int) (P2_ : Nat → Prop) (u9002_ : Value) (l2 : List S90) (r : List S90) (w0 w : World) (hB : Below w0.heap.size w0 w) (ho0 : Kd.R k90 90 w w0.heap.size P0_ u9000_ l0) (hap0 : ∀ k_, P0_ k_ → ¬ P2_ k_) (ho2 : Kd.R k90 90 w w0.heap.size P2_ u9002_ l2) (hap2 : ∀ k_, P2_ k_ → ¬ P0_ k_) (h : impl_Defect_97.f l0 a1 l2 = some r) :
    Calls Tryz.prog 97 #[u9000_, .int .i64 a1, u9002_] w fun e w' => ∃ v, e = .returned v ∧ Kd.R k90 90 w' w0.heap.size (fun k_ => (P0_ k_ ∨ P2_ k_) ∨ w.heap.size ≤ k_) v r ∧ Below w0.heap.size w0 w' ∧ Kept w w' (fun k_ => P0_ k_ ∨ P2_ k_) := by
  unfold impl_Defect_97.f at h
  by_cases h1 : 0 ≤ a1
  · rw [if_pos h1] at h
    by_cases h2 : a1 ≤ (l0.length : Int)
    · rw [if_pos h2] at h
      by_cases h3 : l2.length = 1
      · rw [if_pos h3] at h
        by_cases h4 : l0.length ≤ 1000000
        · rw [if_pos h4] at h
          obtain rfl := Option.some.inj h
          obtain ⟨i, rfl⟩ := Int.eq_ofNat_of_zero_le h1
          obtain ⟨x, rfl⟩ := List.length_eq_one_iff.1 h3
          obtain ⟨vb, vc, rfl, hvb, hvl, curv, hv⟩ := Kd.R_form ho2 (by simp)
          have hP2 : P2_ vb := ho2.1 vb rfl
          have hx : ∀ j v, [.string x.f0, .int .i64 x.f1, .int .i64 x.f2][j]? = some v → w.cell? ⟨vb, j, none⟩ = some v := fun j v hj => by
            have := (ownS90_of ho2).cells (g := vb) rfl j v (by simpa [cellsS90] using hj)
            rwa [add_plain] at this
          rw [Int.toNat_natCast]
          have fin : ∀ {v : Value} {w' : World} {rr : List S90}, Kd.R k90 90 w' w0.heap.size (fun k_ => P0_ k_ ∨ w.heap.size ≤ k_) v rr → Kd.R k90 90 w' w0.heap.size (fun k_ => (P0_ k_ ∨ P2_ k_) ∨ w.heap.size ≤ k_) v rr := fun h => Kd.R_mono h (fun _ hk => hk.elim (fun h => .inl (.inl h)) .inr)
          by_cases h5 : i = l0.length
          · subst h5
            rw [List.take_length, List.drop_length, List.append_nil]
            exact (insEnd97 P0_ u9000_ l0 x vb vc w0 w hB ho0 h4 hx).mono fun _ _ ⟨v, e, hr, hb, hk⟩ => ⟨v, e, fin hr, hb, hk.mono (fun _ hk => .inl hk)⟩
          · obtain ⟨b, c, rfl, hbb, hbl, curb, hb⟩ := Kd.R_form ho0 (by omega)
            have hne : vb ≠ b := fun e => hap0 b (ho0.1 b rfl) (e ▸ hP2)
            by_cases h6 : l0.length + 1 ≤ c
            · exact (insShift97 P0_ b c i l0 x vb vc w0 w hB ho0 h4 (by omega) h6 hne hv hx).mono fun _ _ ⟨v, e, hr, hb, hk⟩ => ⟨v, e, fin hr, hb, hk.mono (fun _ hk => .inl hk)⟩
            · exact (insGrow97 P0_ b c i l0 x vb vc w0 w hB ho0 h4 (by omega) (by omega) hv hx).mono fun _ _ ⟨v, e, hr, hb, hk⟩ => ⟨v, e, fin hr, hb, hk.mono (fun _ hk => .inl hk)⟩
        · rw [if_neg h4] at h
          exact absurd h (by simp)
      · rw [if_neg h3] at h
        exact absurd h (by simp)
    · rw [if_neg h2] at h
      exact absurd h (by simp)
  · rw [if_neg h1] at h
    exact absurd h (by simp)
-- HAND TO

/- impl_Fleet_find: told with (*Fleet).do -/

-- HAND FROM
/-! ### clear(s[i:]) and s[:i], elements of any size (by hand) -/
theorem run_clear_many {P : Program} (w : World) (t e ty : TypeId) (z : Value) (ht : P.underlying t = some (.slice e)) (hv : ∀ w, (zeroValue e).run P w = .ok z w) (h1 : ∀ u ∈ z.cells.toList, u.oneCell' = true) (g o n c : Nat) (hn : 0 < n) {cur : Array Value} {et : Nat} (hh : w.heap[g]? = some (.cells cur et (0, 0))) (hfit : o + n * z.cells.size ≤ cur.size) :
    (Builtin.clear_ #[t] ty #[.slice (some ⟨g, o, none⟩) n c]).run P w = .ok (.tuple #[]) (w.setCells g o (Builtin.zeroCells z.cells n).toList) := by
  have hl : (Builtin.zeroCells z.cells n).toList.length = n * z.cells.size := by rw [Array.length_toList, size_zeroCells]
  have hst := run_storeCells_cells (P := P) g o (Builtin.zeroCells z.cells n).toList 0 w
    (fun j hj => by rw [hl] at hj; rw [blk_cell hh]; simp; omega)
    (fun j _ => blk_frozen hh _)
    (fun v hv' => by
      have : v ∈ z.cells.toList := by
        simp only [Builtin.zeroCells] at hv'
        simp at hv'
        obtain ⟨a, ha, rfl⟩ := hv'
        have hp : 0 < z.cells.size := Nat.pos_of_ne_zero (fun h0 => by rw [h0] at ha; omega)
        have hlt := Nat.mod_lt a hp
        rw [getElem!_pos z.cells _ hlt]
        simp
      exact h1 v this)
  simp only [Nat.add_zero] at hst
  obtain ⟨m, rfl⟩ : ∃ m, n = m + 1 := ⟨n - 1, by omega⟩
  simp [Builtin.clear_, run_underlying ht, hv, hst]
theorem R_clear {α : Type} {d : Kd α} {e n c g i : Nat} {w : World} {base : Nat} {ok : Nat → Prop} {xs : List α} (h : d.R e w base ok (.slice (some ⟨g, 0, none⟩) n c) xs) (hi : i ≤ xs.length) (zs : List Value) (hz : i * d.sz + zs.length ≤ c * d.sz) :
    d.R e (w.setCells g (i * d.sz) zs) base ok (.slice (some ⟨g, 0, none⟩) i c) (xs.take i) ∧ w.grownBy (w.setCells g (i * d.sz) zs) (some g) := by
  have h' := Kd.R_take h hi
  obtain ⟨s1, s2, s3, s4⟩ := setCells_same g zs (i * d.sz) w
  obtain ⟨h0, inner, ho, hr⟩ := h'
  refine ⟨⟨h0, inner, ?_, hr.imp_ (fun p cs hp => d.M_move (fun k hk => setCells_far zs _ k (fun he => hk.2 (by rw [he]; rfl))) hp)⟩, ⟨s1, s2, s3, by omega, fun k _ hk => setCells_far zs _ k (fun he => hk (by rw [he]))⟩⟩
  obtain ⟨hl, ho⟩ := ho
  refine ⟨hl, .inr ?_⟩
  rcases ho with ⟨hv, _⟩ | ⟨g', cap, cur, hv, hb, hh, hnc, hcm, hcs, ht⟩
  · cases hv
  · injection hv with hv1 hv2 hv3
    injection hv1 with hv1
    injection hv1 with hv1
    subst hv1 hv3
    obtain ⟨cur', hh', hs', ht'⟩ := setCells_row zs (i * d.sz) w cur hh (by omega)
    refine ⟨g, c, cur', by rw [← hv2], hb, hh', hnc, hcm, by omega, ?_⟩
    rw [← hv2] at ht ⊢
    rw [← ht, ht', List.take_append_of_le_length, List.take_append_of_le_length, List.take_take, Nat.min_self]
    · rw [List.length_take, Array.length_toList]; have := Nat.mul_le_mul_right d.sz hnc; omega
    · rw [List.length_append, List.length_take, Array.length_toList]; have := Nat.mul_le_mul_right d.sz hnc; omega
theorem Kd.R_frozen_ {α : Type} {d : Kd α} {e n c g : Nat} {w : World} {base : Nat} {ok : Nat → Prop} {xs : List α} (h : d.R e w base ok (.slice (some ⟨g, 0, none⟩) n c) xs) (m : Nat) : w.frozen? ⟨g, m, none⟩ = false := by
  obtain ⟨_, inner, ho, _⟩ := h
  obtain ⟨cells, hc⟩ := own_typed ho g (by simp [Value.ownBlock])
  exact blk_frozen hc _
/-! ### slices.DeleteFunc (function 77) and its slices.IndexFunc (98) with the function value 78 (by hand) -/
def FirstAt78 (q : S90 → Bool) (l : List S90) (i : Int) : Prop := (i = -1 ∧ l.any q = false) ∨ ∃ j : Nat, i = (j : Int) ∧ j < l.length ∧ (l.take j).any q = false ∧ q (rd_T90 l (j : Int)) = true
theorem rdd78 {l : List S90} {i : Nat} (h : i < l.length) : rd_T90 l (i : Int) = l[i] := by simp [rd_T90, List.getD_eq_getElem?_getD, h]
theorem anyd78 (q : S90 → Bool) {l : List S90} {i : Nat} (h : i < l.length) (hn : (l.take i).any q = false) (hb : q (rd_T90 l (i : Int)) = false) : (l.take (i + 1)).any q = false := by
  rw [List.take_succ_eq_append_getElem h, List.any_append, hn, ← rdd78 h]
  simp [hb]
theorem FirstAt78.same {q : S90 → Bool} {l : List S90} {i : Int} {j : Nat} (h : FirstAt78 q l i) (hj : j < l.length) (h1 : (l.take j).any q = false) (h2 : q (rd_T90 l (j : Int)) = true) : i = (j : Int) := by
  rcases h with ⟨rfl, h⟩ | ⟨k, rfl, hk, h3, h4⟩
  · exact absurd (List.any_eq_false.1 h _ (List.getElem_mem hj)) (by rw [← rdd78 hj, h2]; simp)
  · rcases Nat.lt_trichotomy k j with hlt | rfl | hlt
    · refine absurd (List.any_eq_false.1 h1 l[k] ?_) (by rw [← rdd78 hk, h4]; simp)
      rw [List.mem_take_iff_getElem]
      exact ⟨k, by omega, rfl⟩
    · rfl
    · refine absurd (List.any_eq_false.1 h3 l[j] ?_) (by rw [← rdd78 hj, h2]; simp)
      rw [List.mem_take_iff_getElem]
      exact ⟨j, by omega, rfl⟩
theorem FirstAt78.none {q : S90 → Bool} {l : List S90} {i : Int} (h : FirstAt78 q l i) (h1 : l.any q = false) : i = -1 := by
  rcases h with ⟨rfl, h⟩ | ⟨k, rfl, hk, h3, h4⟩
  · rfl
  · exact absurd (List.any_eq_false.1 h1 _ (List.getElem_mem hk)) (by rw [← rdd78 hk, h4]; simp)
theorem firstd78 (q : S90 → Bool) : ∀ l : List S90, l.any q = true → ∃ j : Nat, j < l.length ∧ (l.take j).any q = false ∧ q (rd_T90 l (j : Int)) = true
  | [], h => by simp at h
  | x :: l, h => by
    cases hx : q x with
    | true => exact ⟨0, by simp, by simp, by simpa [rd_T90] using hx⟩
    | false =>
      obtain ⟨j, h1, h2, h3⟩ := firstd78 q l (by simpa [hx] using h)
      refine ⟨j + 1, by simpa using h1, by simp [hx]; simpa using h2, ?_⟩
      rw [rdd78 (by simpa using h1)]
      rw [rdd78 h1] at h3
      simpa using h3
set_option maxHeartbeats 8000000 in
theorem index78 (q : S90 → Bool) (cs : Array Value) (tb : Nat) (HQ : Aside0 (∀ (x : S90) (B : Nat) (W : World), W.heap[B]? = some (.cells cs tb (0, 0)) → Calls Tryz.prog 78 #[.agg #[.string x.f0, .int .i64 x.f1, .int .i64 x.f2], .pointer (some ⟨B, 0, none⟩)] W fun e w' => e = .returned (.bool (q x)) ∧ Below W.heap.size W w'))
    (l : List S90) (A : Option Addr) (c : Nat) (B : Nat) (w : World) (hr : Kd.C k90 w A l.length l) (hc : l.length ≤ c) (hl : l.length ≤ 1152921504606846976) (hB : w.heap[B]? = some (.cells cs tb (0, 0))) :
    Calls Tryz.prog 98 #[.slice A l.length c, .func (.func 78) #[] #[.pointer (some ⟨B, 0, none⟩)]] w fun e w' => (∃ i : Int, e = .returned (.int .i64 i) ∧ FirstAt78 q l i) ∧ Below w.heap.size w w' := by
  have hu_ := Tryz.underlying90
  have HR := Aside0.mk hr
  have HBB := Aside0.mk hB
  have HL := Aside0.mk hl
  clear hr hB
  go_enter Tryz.func98, Tryz.ntmps98
  go_wp2
  go_loopw [8] (fun v8 wr => ∃ i : Nat, i ≤ l.length ∧ v8 = .int .i64 i ∧ Aside0 ((l.take i).any q = false) ∧ Aside0 (Below w.heap.size w wr)) (fun v8 _ => l.length - (intOf v8).toNat)
  case atStart => exact ⟨0, Nat.zero_le _, rfl, ⟨by simp⟩, ⟨Below.refl _ _⟩⟩
  case round =>
    obtain ⟨i, hi, rfl, HN, HB⟩ := hrel
    by_cases hlt : i < l.length
    · obtain ⟨ad, e0, hx0, hx1, hx2⟩ := at_T90 (Kd.C_below HR.out HB.out) (i : Int) (by omega) (by omega)
      cases e0
      simp only [Int.toNat_natCast] at hx0 hx1 hx2
      have hBr := Aside0.mk (blk_below HBB.out (Below.mono HB.out (Nat.le_refl _)))
      cases hb : q (rd_T90 l (i : Int)) with
      | true =>
        have HB1 := Aside0.mk hb
        clear hb
        go_wp2_with (first | (go_at_call 78; (with_reducible refine (HQ.out _ _ _ hBr.out).mono ?_); rw [HB1.out]; rintro e w' ⟨rfl, hb⟩))
        go_ret
        exact ⟨⟨(i : Int), rfl, .inr ⟨i, rfl, hlt, HN.out, HB1.out⟩⟩, below_step HB.out hb⟩
      | false =>
        have HB1 := Aside0.mk hb
        clear hb
        go_wp2_with (first | (go_at_call 78; (with_reducible refine (HQ.out _ _ _ hBr.out).mono ?_); rw [HB1.out]; rintro e w' ⟨rfl, hb⟩))
        go_roundw
        case rel => exact ⟨i + 1, by omega, by go_num, ⟨anyd78 _ hlt HN.out HB1.out⟩, ⟨below_step HB.out hb⟩⟩
        case measure => simp [intOf]; omega
    · obtain rfl : i = l.length := by omega
      go_wp2
      go_ret
      have hn := HN.out
      rw [List.take_length] at hn
      exact ⟨⟨-1, rfl, .inl ⟨rfl, hn⟩⟩, HB.out⟩
theorem keepd78 (q : S90 → Bool) {l xs : List S90} {i j : Nat} (hij : i < j) (hj : j < l.length) (hx : xs.length = l.length) (h1 : xs.take i = (l.take j).filter (fun x => !q x)) (h2 : xs.drop j = l.drop j) :
    rd_T90 xs (j : Int) = rd_T90 l (j : Int) ∧
    (q (rd_T90 l (j : Int)) = true → xs.take i = (l.take (j + 1)).filter (fun x => !q x)) ∧
    (q (rd_T90 l (j : Int)) = false → (xs.set i (rd_T90 l (j : Int))).take (i + 1) = (l.take (j + 1)).filter (fun x => !q x)) ∧
    xs.drop (j + 1) = l.drop (j + 1) ∧ (∀ y, (xs.set i y).drop (j + 1) = l.drop (j + 1)) := by
  have e : xs[j] = l[j] := by
    have := congrArg (fun t => t[0]?) h2
    simpa [List.getElem?_drop, hj, hx] using this
  have h3 : xs.drop (j + 1) = l.drop (j + 1) := by
    have := congrArg (List.drop 1) h2
    simpa [List.drop_drop] using this
  refine ⟨by rw [rdd78 (by omega), rdd78 hj, e], fun hq => ?_, fun hq => ?_, h3, fun y => ?_⟩
  · rw [rdd78 hj] at hq
    rw [List.take_succ_eq_append_getElem hj, List.filter_append, h1]
    simp [hq]
  · have hi : i < xs.length := by omega
    rw [rdd78 hj] at hq ⊢
    rw [List.take_succ_eq_append_getElem hj, List.filter_append, ← h1]
    rw [List.take_succ_eq_append_getElem (by simpa using hi)]
    simp [hq, List.take_set_of_le]
  · rw [List.drop_set_of_lt (by omega), h3]
def z078 : Value := .agg #[.string ByteArray.empty, .int .i64 0, .int .i64 0]
theorem zrun78 : ∀ w, (zeroValue 90).run Tryz.prog w = .ok z078 w := fun w => by kernel_rfl
theorem share178 (x : S90) (d0 : Int) (d1 : ByteArray) (d2 : Int) (d3 : Int) (B : Nat) (w : World) (hB : w.heap[B]? = some (.cells #[.int .i64 d0, .string d1, .int .i64 d2, .int .i64 d3] 60 (0, 0))) :
    Calls Tryz.prog 78 #[.agg #[.string x.f0, .int .i64 x.f1, .int .i64 x.f2], .pointer (some ⟨B, 0, none⟩)] w fun e w' => e = .returned (.bool (x.f1 == d2)) ∧ Below w.heap.size w w' := by
  have hu62 := Tryz.underlying90
  have hc0 : w.cell? ⟨B, 0, none⟩ = some (.int .i64 d0) := (blk_cell hB 0).trans rfl
  have hc1 : w.cell? ⟨B, 1, none⟩ = some (.string d1) := (blk_cell hB 1).trans rfl
  have hc2 : w.cell? ⟨B, 2, none⟩ = some (.int .i64 d2) := (blk_cell hB 2).trans rfl
  have hc3 : w.cell? ⟨B, 3, none⟩ = some (.int .i64 d3) := (blk_cell hB 3).trans rfl
  have hlt : B < w.heap.size := blk_lt hB
  clear hB
  go_enter Tryz.func78, Tryz.ntmps78
  go_wp2
  go_ret
  exact ⟨by first | rfl | simp, by repeat (first | exact Below.refl _ _ | apply below_alloc | apply pw_below_drewN)⟩
set_option maxHeartbeats 8000000 in
set_option maxRecDepth 100000 in
theorem delete78 (q : S90 → Bool) (cs : Array Value) (tb : Nat) (htb : 90 ≠ tb) (HQ : Aside0 (∀ (x : S90) (B : Nat) (W : World), W.heap[B]? = some (.cells cs tb (0, 0)) → Calls Tryz.prog 78 #[.agg #[.string x.f0, .int .i64 x.f1, .int .i64 x.f2], .pointer (some ⟨B, 0, none⟩)] W fun e w' => e = .returned (.bool (q x)) ∧ Below W.heap.size W w'))
    (P0_ : Nat → Prop) (u9000_ : Value) (l0 : List S90) (w0 w : World) {B : Nat} (hfn : w.heap[B]? = some (.cells cs tb (0, 0))) (hB : Below w0.heap.size w0 w) (ho0 : Kd.R k90 90 w w0.heap.size P0_ u9000_ l0) (hl : l0.length ≤ 1152921504606846976) :
    Calls Tryz.prog 77 #[u9000_, .func (.func 78) #[] #[.pointer (some ⟨B, 0, none⟩)]] w fun e w' => ∃ v, e = .returned v ∧ Kd.R k90 90 w' w0.heap.size (fun k_ => (P0_ k_ ∨ w.heap.size ≤ k_)) v (l0.filter (fun x => !q x)) ∧ Below w0.heap.size w0 w' ∧ Kept w w' (fun k_ => P0_ k_) := by
  have hu_ := Tryz.underlying90
  have HO := Aside0.mk ho0
  have HBB := Aside0.mk hfn
  have HB := Aside0.mk hB
  have HL := Aside0.mk hl
  clear ho0 hfn hB
  cases hany : l0.any q with
  | false =>
    obtain ⟨A0, c0, rfl⟩ := Kd.R_slice HO.out
    have hfl : l0.filter (fun x => !q x) = l0 := List.filter_eq_self.2 (fun x hx => by simpa using List.any_eq_false.1 hany x hx)
    rw [hfl]
    have HA := Aside0.mk hany
    clear hany hfl
    have hrd := Kd.R_reads' HO.out
    have HI := Aside0.mk (index78 q cs tb HQ l0 A0 c0 B w hrd.2.2 hrd.2.1 HL.out HBB.out)
    clear hrd
    go_enter Tryz.func77, Tryz.ntmps77
    go_wp2_with (first | (go_at_call 98; (with_reducible refine HI.out.mono ?_); rintro e w' ⟨⟨i, rfl, hi⟩, hb⟩; obtain rfl := FirstAt78.none hi HA.out; clear hi))
    go_ret
    exact ⟨_, rfl, Kd.R_mono (Kd.R_below HO.out hb) (fun _ hk => .inl hk), below_step HB.out hb, Kept.of_below hb _⟩
  | true =>
    obtain ⟨j0, hj0, hn0, hq0⟩ := firstd78 q l0 hany
    clear hany
    obtain ⟨g, cap, rfl, hbg, hgl, ⟨cells, hcells⟩⟩ := Kd.R_form HO.out (by omega)
    have hrd := Kd.R_reads' HO.out
    have hnc : l0.length ≤ cap := hrd.2.1
    have HI := Aside0.mk (index78 q cs tb HQ l0 _ cap B w hrd.2.2 hrd.2.1 HL.out HBB.out)
    have HN0 := Aside0.mk hn0
    have HQ0 := Aside0.mk hq0
    have hgB : B ≠ g := Ne.symm (blk_ne hcells HBB.out htb)
    have hPg : P0_ g := HO.out.1 g rfl
    have hf0 : l0.take j0 = (l0.take (j0 + 1)).filter (fun x => !q x) := by
      rw [List.take_succ_eq_append_getElem hj0, List.filter_append, List.filter_eq_self.2 (fun x hx => by simpa using List.any_eq_false.1 hn0 x hx)]
      rw [rdd78 hj0] at hq0
      simp [hq0]
    have HF0 := Aside0.mk hf0
    have hne : (((j0 : Nat) : Int) == -1) = false := by simp
    have hGB := Aside0.mk hbg
    clear hrd hn0 hq0 hcells hf0 hbg
    go_enter Tryz.func77, Tryz.ntmps77
    go_wp2_with (first | (go_at_call 98; (with_reducible refine HI.out.mono ?_); rintro e w1 ⟨⟨i, rfl, hi⟩, hb⟩; obtain rfl := FirstAt78.same hi hj0 HN0.out HQ0.out; clear hi; have HB1 := Aside0.mk hb; clear hb))
    go_loopw [5, 6] (fun v5 v6 wr => ∃ (i j : Nat) (xs : List S90), v5 = .int .i64 i ∧ v6 = .int .i64 j ∧ i < j ∧ j ≤ l0.length ∧ Aside0 (xs.length = l0.length) ∧ Aside0 (xs.take i = (l0.take j).filter (fun x => !q x)) ∧ Aside0 (xs.drop j = l0.drop j) ∧ Aside0 (Kd.R k90 90 wr w0.heap.size P0_ (.slice (some ⟨g, 0, none⟩) l0.length cap) xs) ∧ Aside0 (wr.heap[B]? = some (.cells cs tb (0, 0))) ∧ Aside0 (Below w0.heap.size w0 wr) ∧ Aside0 (Kept w wr P0_)) (fun _ v6 _ => l0.length - (intOf v6).toNat)
    case atStart => exact ⟨j0, j0 + 1, l0, rfl, by go_num, by omega, by omega, ⟨rfl⟩, HF0, ⟨rfl⟩, ⟨Kd.R_below HO.out HB1.out⟩, ⟨blk_below HBB.out HB1.out⟩, ⟨below_step HB.out HB1.out⟩, ⟨Kept.of_below HB1.out _⟩⟩
    case round =>
      clear HI HF0 hne HN0 HQ0 HB1 HO HBB
      obtain ⟨i, j, xs, rfl, rfl, hij, hjl, HXL, HX1, HX2, HOr, HBr, HBe, HK⟩ := hrel
      by_cases hlt : j < l0.length
      · obtain ⟨hk0, hk1, hk2, hk3, hk4⟩ := keepd78 q hij hlt HXL.out HX1.out HX2.out
        have HK1 := Aside0.mk hk1
        have HK2 := Aside0.mk hk2
        have HK3 := Aside0.mk hk3
        have HK4 := Aside0.mk hk4
        obtain ⟨ce, hcl, hM, hcc, hfr⟩ := Kd.R_elem HOr.out z90 (j : Int) (by omega) (by omega)
        obtain rfl := k90_openM hM
        change ∀ j_ u, [.string (rd_T90 xs (j : Int)).f0, .int .i64 (rd_T90 xs (j : Int)).f1, .int .i64 (rd_T90 xs (j : Int)).f2][j_]? = some u → wr.cell? ⟨g, j * 3 + j_, none⟩ = some u at hcc
        rw [hk0] at hcc
        have hx0 : wr.cell? ⟨g, j * 3, none⟩ = some (.string (rd_T90 l0 (j : Int)).f0) := hcc 0 _ rfl
        have hx1 : wr.cell? ⟨g, j * 3 + 1, none⟩ = some (.int .i64 (rd_T90 l0 (j : Int)).f1) := hcc 1 _ rfl
        have hx2 : wr.cell? ⟨g, j * 3 + 2, none⟩ = some (.int .i64 (rd_T90 l0 (j : Int)).f2) := hcc 2 _ rfl
        have HFZ := Aside0.mk (fun (m : Nat) => Kd.R_frozen_ HOr.out m)
        have hil : i < l0.length := by omega
        clear hk1 hk2 hk3 hk4 hk0 hcl hM hcc hfr
        cases hb : q (rd_T90 l0 (j : Int)) with
        | true =>
          have HB1 := Aside0.mk hb
          clear hb
          go_wp2_with (first | (go_at_call 78; (with_reducible refine (HQ.out _ _ _ (blk_alloc HBr.out _)).mono ?_); rw [HB1.out]; rintro e w2 ⟨rfl, hb⟩; have HS := Aside0.mk (below_step (below_alloc (Below.refl _ _) _) hb); clear hb))
          go_roundw
          case rel => exact ⟨i, j + 1, xs, rfl, by go_num, by omega, by omega, HXL, ⟨HK1.out HB1.out⟩, HK3, ⟨Kd.R_below HOr.out HS.out⟩, ⟨blk_below HBr.out HS.out⟩, ⟨below_step HBe.out HS.out⟩, ⟨Kept.below HK.out HS.out⟩⟩
          case measure => simp [intOf]; omega
        | false =>
          have HB1 := Aside0.mk hb
          clear hb
          have BN := Aside0.mk (blk_new wr (.cells #[.string (rd_T90 l0 (j : Int)).f0, .int .i64 (rd_T90 l0 (j : Int)).f1, .int .i64 (rd_T90 l0 (j : Int)).f2] 90 (0, 0)))
          go_wp2_with (first
            | (go_at_call 78; (with_reducible refine (HQ.out _ _ _ (blk_alloc HBr.out _)).mono ?_); rw [HB1.out]; rintro e w2 ⟨rfl, hb⟩
               have HS := Aside0.mk (below_step (below_alloc (Below.refl _ _) _) hb)
               have BX := Aside0.mk (blk_below BN.out hb)
               clear hb
               have HO2 := Aside0.mk (Kd.R_below HOr.out HS.out)
               have hb0 : w2.cell? ⟨wr.heap.size, 0, none⟩ = some (.string (rd_T90 l0 (j : Int)).f0) := (blk_cell BX.out 0).trans rfl
               have hb1 : w2.cell? ⟨wr.heap.size, 1, none⟩ = some (.int .i64 (rd_T90 l0 (j : Int)).f1) := (blk_cell BX.out 1).trans rfl
               have hb2 : w2.cell? ⟨wr.heap.size, 2, none⟩ = some (.int .i64 (rd_T90 l0 (j : Int)).f2) := (blk_cell BX.out 2).trans rfl
               clear hx0 hx1 hx2 BN)
            | ((with_reducible refine gate_store (t := 90) (p := 33) (v := .tmp 32) rfl ?_)
               obtain ⟨ci, hcl, hM, hcc, hfr⟩ := Kd.R_elem HO2.out z90 (i : Int) (by omega) (by omega)
               obtain rfl := k90_openM hM
               refine Kd.R_store k90 w0.heap.size rfl rfl 90 (.tmp 33) (.tmp 32) rfl 90 (i : Int) 0 xs (rd_T90 l0 (j : Int)) (.agg #[.string (rd_T90 l0 (j : Int)).f0, .int .i64 (rd_T90 l0 (j : Int)).f1, .int .i64 (rd_T90 l0 (j : Int)).f2]) [.string (rd_T90 l0 (j : Int)).f0, .int .i64 (rd_T90 l0 (j : Int)).f1, .int .i64 (rd_T90 l0 (j : Int)).f2] _ P0_ (fun _ => False) rfl (by simp; rfl) rfl rfl (by rfl) (by simp [Value.oneCell']) HO2.out (by omega) (by omega) hcl hcc (Nat.le_refl 3) (k90_mkM _ _ _ _) (fun _ hk => hk.elim) (below_step HBe.out HS.out) ?_
               intro w3 ho3 hb3 hg3
               have HO3 := Aside0.mk ho3
               have HB3 := Aside0.mk hb3
               have HG3 := Aside0.mk hg3
               clear ho3 hb3 hg3 hcl hM hcc hfr))
          go_roundw
          case rel => exact ⟨i + 1, j + 1, xs.set i (rd_T90 l0 (j : Int)), by go_num, by go_num, by omega, by omega, ⟨by rw [List.length_set]; exact HXL.out⟩, ⟨HK2.out HB1.out⟩, ⟨HK4.out _⟩, HO3, ⟨blk_grown (blk_below HBr.out HS.out) HG3.out (by simpa using hgB)⟩, HB3, ⟨Kept.of_grown HG3.out (Kept.below HK.out HS.out) (fun k hk => .inl (by cases hk; exact hPg))⟩⟩
          case measure => simp [intOf]; omega
      · obtain rfl : j = l0.length := by omega
        have hfin : xs.take i = l0.filter (fun x => !q x) := by have := HX1.out; rwa [List.take_length] at this
        obtain ⟨cells, hcells⟩ := Kd.R_typed HOr.out g rfl
        have hcs : cap * 3 ≤ cells.size := by
          obtain ⟨_, inner, ho, _⟩ := HOr.out
          rcases ho.2 with ⟨hv, _⟩ | ⟨g', cap', cur, hv, hb, hh, hnc, hcm, hcs, ht⟩
          · cases hv
          · injection hv with hv1 hv2 hv3
            injection hv1 with hv1
            injection hv1 with hv1
            subst hv1 hv3
            rw [hh] at hcells
            injection hcells with hcells
            injection hcells with hcells
            subst hcells
            exact Nat.le_of_eq hcs.symm
        have hclr := fun ty => run_clear_many (P := Tryz.prog) wr 34 90 ty z078 Tryz.underlying34 zrun78 (by decide) g (i * 3) (l0.length - i) (cap - i) (by omega) hcells (by show _ + _ * 3 ≤ _; omega)
        have hRC := R_clear HOr.out (i := i) (by have := HXL.out; omega) (Builtin.zeroCells z078.cells (l0.length - i)).toList (by rw [Array.length_toList, size_zeroCells]; show i * 3 + _ * 3 ≤ cap * 3; omega)
        change k90.R 90 (wr.setCells g (i * 3) _) _ _ _ _ ∧ wr.grownBy (wr.setCells g (i * 3) _) _ at hRC
        generalize wr.setCells g (i * 3) (Builtin.zeroCells z078.cells (l0.length - i)).toList = w3 at hclr hRC
        obtain ⟨hR3, hG3⟩ := hRC
        have HR3 := Aside0.mk hR3
        have HG3 := Aside0.mk hG3
        rw [hfin] at HR3
        have hci : ¬ cap = i := by omega
        have hil : i < l0.length := by omega
        have hic : i ≤ cap := by omega
        clear hR3 hG3 hfin hcells hcs
        go_wp2
        go_ret
        exact ⟨_, rfl, Kd.R_mono HR3.out (fun _ hk => .inl hk), HBe.out.grown HG3.out HBe.out.size (fun k hk => by cases hk; exact hGB.out), Kept.of_grown HG3.out HK.out (fun k hk => .inl (by cases hk; exact hPg))⟩
def slices_DeleteFunc_do_1.f (l0 : List S90) (d0 : Int) (d1 : ByteArray) (d2 : Int) (d3 : Int) : Option (List S90) := if l0.length ≤ 1152921504606846976 then some (l0.filter (fun x => !(x.f1 == d2))) else none
theorem slices_DeleteFunc_do_1.calls (P0_ : Nat → Prop) (u9000_ : Value) (l0 : List S90) (d0 : Int) (d1 : ByteArray) (d2 : Int) (d3 : Int) (r : List S90) (w0 w : World) {B : Nat} (hfn : w.heap[B]? = some (.cells #[.int .i64 d0, .string d1, .int .i64 d2, .int .i64 d3] 60 (0, 0))) (hB : Below w0.heap.size w0 w) (ho0 : Kd.R k90 90 w w0.heap.size P0_ u9000_ l0) (h : slices_DeleteFunc_do_1.f l0 d0 d1 d2 d3 = some r) :
    Calls Tryz.prog 77 #[u9000_, .func (.func 78) #[] #[.pointer (some ⟨B, 0, none⟩)]] w fun e w' => ∃ v, e = .returned v ∧ Kd.R k90 90 w' w0.heap.size (fun k_ => (P0_ k_ ∨ w.heap.size ≤ k_)) v r ∧ Below w0.heap.size w0 w' ∧ Kept w w' (fun k_ => P0_ k_) := by
  unfold slices_DeleteFunc_do_1.f at h
  by_cases hl : l0.length ≤ 1152921504606846976
  · rw [if_pos hl] at h
    obtain rfl := Option.some.inj h
    exact delete78 (fun x => (x.f1 == d2)) _ _ (by decide) ⟨fun x B W hW => share178 x d0 d1 d2 d3 B W hW⟩ P0_ u9000_ l0 w0 w hfn hB ho0 hl
  · rw [if_neg hl] at h
    exact absurd h (by simp)
-- HAND TO

end Go.Proofs.YtdimdlifjdbgnaaGreat.PFnExactRunWork
