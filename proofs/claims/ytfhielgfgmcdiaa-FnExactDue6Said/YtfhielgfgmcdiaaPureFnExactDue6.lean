/- The program's Due6 answers as the reference's at every argument, writes into no argument and owns its answer. No condition. -/
import Derived.Test.YtfhielgfgmcdiaaPFnExactDue6x8
import Derived.Test.YtfhielgfgmcdiaaBase
set_option linter.unusedVariables false
set_option linter.unusedSimpArgs false
namespace Go.Proofs.Ytfhielgfgmcdiaa.Pure
open Go.RowKit Go.Proofs.Ytfhielgfgmcdiaa.PFnExactDue6 Go.Proofs.Ytfhielgfgmcdiaa.Base Go.Proofs.YtfhielgfgmcdiaaW.PrintWords Go.Proofs.YtfhielgfgmcdiaaW.PrintLast
theorem spec_in_eq (a b c : Int) : spec_l1In.f a b c = some (inB a b c) := in_form a b c
theorem spec_l1Name_l (s : ByteArray) (hn : s.size ≤ 140737488355328) (d : Nat) : ∀ i : Nat, i + d = s.size → Ev (fun k => spec_l1Name.l0 k s (i : Int)) (charsB s d i && inB (s.size : Int) 1 20) := by
  induction d with
  | zero =>
    intro i h
    refine ev_succ ?_
    simp only [spec_l1Name.l0, if_neg (show ¬ ((i : Int) < (s.size : Int)) by omega), spec_in_eq, Option.bind_some, charsB, Bool.true_and]
    exact ev_now _
  | succ d ih =>
    intro i h
    have hi := ih (i + 1) (by omega)
    refine ev_succ ?_
    have hb := bt_range s (i : Int)
    simp only [spec_l1Name.l0, if_pos (show ((i : Int) < (s.size : Int)) by omega), if_pos (show (0 : Int) ≤ (i : Int) by omega), spec_in_eq, Option.bind_some, w64 (show -9223372036854775808 ≤ bt s (i : Int) by omega) (show bt s (i : Int) ≤ 9223372036854775807 by omega)]
    unfold charsB
    generalize bt s (i : Int) = c
    refine Ev.congr (f := fun k => spec_l1Name.j1 k s (i : Int) (!charB c)) (fun k => ?_) ?_
    · by_cases hc : Alnum c
      · rw [show charB c = true by simp [charB, hc]]
        unfold Alnum at hc
        repeat' split
        all_goals first | rfl | (rename_i a1 a2 a3; rw [inB_iff] at a1 a2 a3; exfalso; omega)
      · rw [show charB c = (c == 45) by simp [charB, hc]]
        unfold Alnum at hc
        have n1 : inB c 97 122 = false := by rw [Bool.eq_false_iff, ne_eq, inB_iff]; omega
        have n2 : inB c 65 90 = false := by rw [Bool.eq_false_iff, ne_eq, inB_iff]; omega
        have n3 : inB c 48 57 = false := by rw [Bool.eq_false_iff, ne_eq, inB_iff]; omega
        simp only [n1, n2, n3, Bool.false_eq_true, if_false]
        rfl
    · refine ev_succ ?_
      cases charB c with
      | true => simpa only [spec_l1Name.j1, Bool.not_true, Bool.false_eq_true, if_false, w64s i (show i < 9223372036854775807 by omega), Bool.true_and] using hi
      | false => simpa only [spec_l1Name.j1, Bool.not_false, if_true, Bool.false_and] using ev_now false
theorem spec_l1Name_ev (s : ByteArray) (hn : s.size ≤ 140737488355328) : Ev (fun k => spec_l1Name.f k s) (nameB s) := by
  simpa [spec_l1Name.f, nameB] using spec_l1Name_l s hn s.size 0 (by omega)
/-! The reference on lives and stays. -/
theorem spec_l6Life_ev (n : ByteArray) (hn : n.size ≤ 140737488355328) (a b c : Int) : Ev (fun k => spec_l6Life.f k n a b c) (life6 n a b c) := by
  simp only [spec_l6Life.f, spec_in_eq, Option.bind_some]
  refine (spec_l1Name_ev n hn).bind ?_
  unfold life6
  cases nameB n <;> cases inB a 0 1000000 <;> cases inB b 0 1000000 <;> simpa using ev_now _
theorem spec_l6Stay_ev (n : ByteArray) (hn : n.size ≤ 140737488355328) (a b c : Int) : Ev (fun k => spec_l6Stay.f k n a b c) (stay6 n a b c) := by
  simp only [spec_l6Stay.f, spec_in_eq, Option.bind_some]
  refine (spec_l1Name_ev n hn).bind ?_
  unfold stay6
  cases nameB n <;> cases inB a 0 10000000 <;> cases inB b 0 10000000 <;> simpa using ev_now _
/-! The reference's Due6. -/
abbrev Lf := S29
abbrev St := S31
def ltB (x y : ByteArray) : Bool := Op.bytesLess x.toList y.toList
theorem ltB_iff (x y : ByteArray) : ltB x y = true ↔ x.toList < y.toList := by unfold ltB; rw [bytesLess_eq]; simp
def insR (x : ByteArray) : List ByteArray → List ByteArray
  | [] => [x]
  | y :: D => if ltB y x = true then y :: insR x D else x :: y :: D
theorem insR_perm (x : ByteArray) : ∀ D : List ByteArray, (insR x D).Perm (x :: D)
  | [] => List.Perm.refl _
  | y :: D => by
    unfold insR
    split
    · exact ((insR_perm x D).cons y).trans (List.Perm.swap x y D)
    · exact List.Perm.refl _
abbrev SortedB (D : List ByteArray) : Prop := D.Pairwise fun a b => a.toList ≤ b.toList
theorem insR_sorted (x : ByteArray) : ∀ D : List ByteArray, SortedB D → SortedB (insR x D)
  | [], _ => by simp [insR, SortedB]
  | y :: D, h => by
    have h1 := List.pairwise_cons.1 h
    unfold insR
    split
    · rename_i hlt
      refine List.pairwise_cons.2 ⟨fun z hz => ?_, insR_sorted x D h1.2⟩
      rcases List.mem_cons.1 ((insR_perm x D).mem_iff.1 hz) with rfl | hz
      · exact List.le_of_lt ((ltB_iff _ _).1 hlt)
      · exact h1.1 z hz
    · rename_i hlt
      have hle : x.toList ≤ y.toList := by
        rcases Classical.em (x.toList ≤ y.toList) with h | h
        · exact h
        · exact absurd ((ltB_iff _ _).2 (List.not_le.1 h)) hlt
      refine List.pairwise_cons.2 ⟨fun z hz => ?_, h⟩
      rcases List.mem_cons.1 hz with rfl | hz
      · exact hle
      · exact List.le_trans hle (h1.1 z hz)
theorem insR_at (x : ByteArray) : ∀ (D : List ByteArray) (j : Nat), j ≤ D.length → (∀ q (h : q < D.length), q < j → ltB D[q] x = true) → (∀ h : j < D.length, ltB D[j] x = false) → D.take j ++ (x :: D.drop j) = insR x D
  | [], j, hj, _, _ => by
    obtain rfl : j = 0 := by simpa using hj
    rfl
  | y :: D, 0, _, _, h => by
    have := h (by simp)
    simp only [List.getElem_cons_zero] at this
    unfold insR
    rw [if_neg (by simp [this])]
    rfl
  | y :: D, j + 1, hj, h1, h2 => by
    have h0 := h1 0 (by simp) (by omega)
    simp only [List.getElem_cons_zero] at h0
    unfold insR
    rw [if_pos h0, List.take_succ_cons, List.drop_succ_cons, List.cons_append]
    congr 1
    exact insR_at x D j (by simpa using hj) (fun q h hq => by have := h1 (q + 1) (by simpa using h) (by omega); simpa using this) (fun h => by have := h2 (by simpa using h); simpa using this)
def buildF (ls : List Lf) : List St → List ByteArray → List ByteArray
  | [], D => D
  | s :: l, D => buildF ls l (if dueB ls s = true then insR s.f0 D else D)
theorem build_perm (ls : List Lf) : ∀ (l : List St) (D : List ByteArray), (buildF ls l D).Perm (((l.filter (dueB ls)).map fun x => x.f0) ++ D)
  | [], D => List.Perm.refl _
  | s :: l, D => by
    unfold buildF
    refine (build_perm ls l _).trans ?_
    by_cases h : dueB ls s = true
    · rw [if_pos h, List.filter_cons_of_pos h, List.map_cons]
      refine ((insR_perm s.f0 D).append_left _).trans ?_
      exact List.perm_middle
    · rw [if_neg h, List.filter_cons_of_neg h]
theorem build_sorted (ls : List Lf) : ∀ (l : List St) (D : List ByteArray), SortedB D → SortedB (buildF ls l D)
  | [], D, h => h
  | s :: l, D, h => by
    unfold buildF
    refine build_sorted ls l _ ?_
    split
    · exact insR_sorted _ _ h
    · exact h
theorem build_length (ls : List Lf) (l : List St) (D : List ByteArray) : (buildF ls l D).length ≤ l.length + D.length := by
  rw [(build_perm ls l D).length_eq, List.length_append, List.length_map]
  have := List.length_filter_le (dueB ls) l
  omega
theorem back_ (x : ByteArray) : (⟨x.data.toList.toArray⟩ : ByteArray) = x := by cases x; simp
theorem sort_build (ls : List Lf) (ss : List St) : sortS (outL ls ss ss.length) = buildF ls ss [] := by
  have h1 := build_perm ls ss []
  have h2 := build_sorted ls ss [] List.Pairwise.nil
  rw [List.append_nil] at h1
  unfold outL
  rw [List.take_length]
  generalize ((ss.filter (dueB ls)).map fun x => x.f0) = out at h1
  generalize buildF ls ss [] = B at h1 h2
  have e : (strs out).mergeSort (fun x y => decide (x ≤ y)) = strs B := by
    refine List.Perm.eq_of_pairwise (le := fun a b : List UInt8 => a ≤ b) (fun a b _ _ h h' => List.le_antisymm h h') ?_ ?_ ((List.mergeSort_perm _ _).trans (h1.symm.map _))
    · have := List.pairwise_mergeSort (le := fun x y : List UInt8 => decide (x ≤ y)) (fun a b c h h' => by simp only [decide_eq_true_eq] at h h' ⊢; exact List.le_trans h h') (fun a b => by simp only [Bool.or_eq_true, decide_eq_true_eq]; exact List.le_total a b) (strs out)
      simpa using this
    · unfold strs
      refine List.pairwise_map.2 (h2.imp fun {a b} h => ?_)
      rw [ByteArray.toList_eq, ByteArray.toList_eq] at h
      exact h
  unfold sortS
  rw [e]
  unfold strs
  rw [List.map_map]
  exact (List.map_congr_left fun x _ => back_ x).trans (List.map_id _)
theorem known_any (l : List Lf) (s : ByteArray) : (knownF l s).isSome = l.any fun x => x.f0.toList == s.toList := by
  unfold knownF
  induction l with
  | nil => rfl
  | cons a l ih =>
    rw [List.find?_cons, List.any_cons]
    cases h : a.f0.toList == s.toList with
    | true => rfl
    | false => simpa using ih
def foldB (s : St) : List Lf → Bool → Bool
  | [], b => b
  | x :: l, b => foldB s l (if x.f0.toList = s.f0.toList then isd x.f1 x.f2 x.f3 s.f1 s.f2 s.f3 else b)
theorem fold_none (s : St) : ∀ (l : List Lf) (b : Bool), (∀ x ∈ l, x.f0.toList ≠ s.f0.toList) → foldB s l b = b
  | [], _, _ => rfl
  | x :: l, b, h => by
    unfold foldB
    rw [if_neg (h x List.mem_cons_self), fold_none s l b fun y hy => h y (List.mem_cons_of_mem _ hy)]
theorem fold_due (s : St) : ∀ (l : List Lf), l.Pairwise (fun a b => a.f0.toList ≠ b.f0.toList) → foldB s l true = dueB l s
  | [], _ => rfl
  | x :: l, h => by
    have h1 := List.pairwise_cons.1 h
    unfold foldB
    by_cases e : x.f0.toList = s.f0.toList
    · rw [if_pos e, fold_none s l _ fun y hy => by rw [← e]; exact (h1.1 y hy).symm]
      simp [dueB, knownF, e]
    · rw [if_neg e, fold_due s l h1.2]
      simp [dueB, knownF, e]
theorem okL_iff {ls : List Lf} {i : Nat} (h : i < ls.length) : okL ls i = (!(ls.take i).any (fun x => x.f0.toList == (ls[i]).f0.toList) && life6 (ls[i]).f0 (ls[i]).f1 (ls[i]).f2 (ls[i]).f3) := by
  unfold okL
  rw [rd_atL h, known_any]
theorem okS_iff {ss : List St} {i : Nat} (h : i < ss.length) : okS ss i = (!(ss.take i).any (fun x => x.f0.toList == (ss[i]).f0.toList) && stay6 (ss[i]).f0 (ss[i]).f1 (ss[i]).f2 (ss[i]).f3) := by
  unfold okS seenF
  rw [rd_atS h]
theorem okL_pw {ls : List Lf} (h : ∀ i, i < ls.length → okL ls i = true) : ls.Pairwise (fun a b => a.f0.toList ≠ b.f0.toList) := by
  rw [List.pairwise_iff_getElem]
  intro i j hi hj hij e
  have := h j hj
  rw [okL_iff hj] at this
  simp only [Bool.and_eq_true, Bool.not_eq_true', List.any_eq_false] at this
  refine this.1 ls[i] ?_ (by simpa using e)
  rw [List.mem_take_iff_getElem]
  exact ⟨i, by omega, rfl⟩
theorem drop_take {α : Type} {l : List α} {i j : Nat} (hj : j < i) (hi : i ≤ l.length) : (l.take i).drop j = l[j]'(by omega) :: (l.take i).drop (j + 1) := by
  rw [List.drop_eq_getElem_cons (by rw [List.length_take]; omega), List.getElem_take]
theorem l1_ev (ls : List Lf) (ss : List St) (hn : ls.length ≤ 30) (hz : ∀ x ∈ ls, x.f0.size ≤ 140737488355328) (i : Nat) (hi : i < ls.length) (R : List ByteArray × Bool) (d : Nat) : ∀ j : Nat, j + d = i →
    ((!((ls.take i).drop j).any (fun x => x.f0.toList == (ls[i]).f0.toList) && life6 (ls[i]).f0 (ls[i]).f1 (ls[i]).f2 (ls[i]).f3) = true → Ev (fun k => spec_Due6.l0 k ls ss [] ((i : Int) + 1)) R) →
    Ev (fun k => spec_Due6.l1 k ls ss [] (i : Int) (j : Int)) (if (!((ls.take i).drop j).any (fun x => x.f0.toList == (ls[i]).f0.toList) && life6 (ls[i]).f0 (ls[i]).f1 (ls[i]).f2 (ls[i]).f3) = true then R else ([], false)) := by
  induction d with
  | zero =>
    intro j h hR
    obtain rfl : j = i := by omega
    have hdr : (ls.take j).drop j = [] := List.drop_eq_nil_of_le (by rw [List.length_take]; omega)
    rw [hdr] at hR ⊢
    refine ev_succ ?_
    simp only [spec_Due6.l1, if_neg (show ¬ ((j : Int) < (j : Int)) by omega), if_pos (show (0 : Int) ≤ (j : Int) by omega), if_pos (show (j : Int) < (ls.length : Int) by omega), rd_atL hi]
    refine (spec_l6Life_ev _ (hz _ (List.getElem_mem hi)) _ _ _).bind ?_
    simp only [List.any_nil, Bool.not_false, Bool.true_and] at hR ⊢
    cases hb : life6 (ls[j]).f0 (ls[j]).f1 (ls[j]).f2 (ls[j]).f3 with
    | true =>
      have := hR hb
      rw [w64s j (by omega)]
      exact this
    | false => simpa using ev_now _
  | succ d ih =>
    intro j h hR
    have hjl : j < ls.length := by omega
    rw [drop_take (show j < i by omega) (by omega)] at hR ⊢
    refine ev_succ ?_
    simp only [spec_Due6.l1, if_pos (show ((j : Int) < (i : Int)) by omega), if_pos (show (0 : Int) ≤ (j : Int) by omega), if_pos (show (j : Int) < (ls.length : Int) by omega), if_pos (show (0 : Int) ≤ (i : Int) by omega), if_pos (show (i : Int) < (ls.length : Int) by omega), rd_atL hi, rd_atL hjl, w64s j (by omega)]
    by_cases e : (ls[j]).f0.toList = (ls[i]).f0.toList
    · simpa [e] using ev_now _
    · have := ih (j + 1) (by omega) (fun hc => hR (by simpa [e] using hc))
      simpa [e] using this
theorem l0_ev (ls : List Lf) (ss : List St) (hn : ls.length ≤ 30) (hz : ∀ x ∈ ls, x.f0.size ≤ 140737488355328) (R : List ByteArray × Bool) (d : Nat) : ∀ i : Nat, i + d = ls.length →
    ((List.range' i d).all (okL ls) = true → Ev (fun k => spec_Due6.l2 k ls ss [] [] 0) R) →
    Ev (fun k => spec_Due6.l0 k ls ss [] (i : Int)) (if (List.range' i d).all (okL ls) = true then R else ([], false)) := by
  induction d with
  | zero =>
    intro i h hR
    refine ev_succ ?_
    simp only [spec_Due6.l0, if_neg (show ¬ ((i : Int) < (ls.length : Int)) by omega)]
    simpa using hR rfl
  | succ d ih =>
    intro i h hR
    have hi : i < ls.length := by omega
    refine ev_succ ?_
    simp only [spec_Due6.l0, if_pos (show ((i : Int) < (ls.length : Int)) by omega)]
    rw [List.range'_succ, List.all_cons, okL_iff hi] at hR ⊢
    have h1 := l1_ev ls ss hn hz i hi (if (List.range' (i + 1) d).all (okL ls) = true then R else ([], false)) i 0 (by omega) (by
      intro hc
      rw [List.drop_zero] at hc
      rw [hc, Bool.true_and] at hR
      have := ih (i + 1) (by omega) hR
      simpa using this)
    rw [List.drop_zero] at h1
    cases hb : (!(ls.take i).any (fun x => x.f0.toList == (ls[i]).f0.toList) && life6 (ls[i]).f0 (ls[i]).f1 (ls[i]).f2 (ls[i]).f3) with
    | true => rw [hb] at h1; simpa only [Bool.true_and, if_true, Int.natCast_zero, Int.ofNat_zero, Int.cast_ofNat_Int] using h1
    | false => rw [hb] at h1; simpa using h1
theorem l5_ev (ls : List Lf) (ss : List St) (hs : ss.length ≤ 30) (D : List ByteArray) (hD : D.length ≤ 1000) (i : Nat) (hi : i < ss.length) (R : List ByteArray × Bool) (hR : Ev (fun k => spec_Due6.l2 k ls ss [] (insR (ss[i]).f0 D) ((i : Int) + 1)) R) (d : Nat) : ∀ j : Nat, j + d = D.length → (∀ q (h : q < D.length), q < j → ltB D[q] (ss[i]).f0 = true) →
    Ev (fun k => spec_Due6.l5 k ls ss [] D (i : Int) (j : Int)) R := by
  have fin : ∀ j : Nat, j ≤ D.length → (∀ q (h : q < D.length), q < j → ltB D[q] (ss[i]).f0 = true) → (∀ h : j < D.length, ltB D[j] (ss[i]).f0 = false) →
      Ev (fun k => (if (([(ss[i]).f0] : List ByteArray).length + (D.drop j).length < 8796093022208) then (if (([] : List ByteArray).length + (D.take j).length < 8796093022208) then (if ((([] : List ByteArray) ++ D.take j).length + ([(ss[i]).f0] ++ D.drop j).length < 8796093022208) then spec_Due6.l2 k ls ss [] ((([] : List ByteArray) ++ D.take j) ++ ([(ss[i]).f0] ++ D.drop j)) ((i : Int) + 1) else none) else none) else none)) R := by
    intro j hj h1 h2
    have e := insR_at (ss[i]).f0 D j hj h1 h2
    have c1 : ([(ss[i]).f0] : List ByteArray).length + (D.drop j).length < 8796093022208 := by rw [List.length_drop]; simp; omega
    have c2 : ([] : List ByteArray).length + (D.take j).length < 8796093022208 := by rw [List.length_take]; simp; omega
    have c3 : (([] : List ByteArray) ++ D.take j).length + ([(ss[i]).f0] ++ D.drop j).length < 8796093022208 := by
      rw [List.length_append, List.length_append, List.length_take, List.length_drop]; simp; omega
    simp only [if_pos c1, if_pos c2, if_pos c3]
    rw [← e] at hR
    simpa using hR
  induction d with
  | zero =>
    intro j h hlt
    obtain rfl : j = D.length := by omega
    have hf := fin D.length (Nat.le_refl _) hlt (fun h => absurd h (Nat.lt_irrefl _))
    refine ev_succ ?_
    simp only [spec_Due6.l5, if_neg (show ¬ ((D.length : Int) < (D.length : Int)) by omega), if_pos (show (0 : Int) ≤ (i : Int) by omega), if_pos (show (i : Int) < (ss.length : Int) by omega), rd_atS hi, Option.bind_some, if_pos (show (0 : Int) ≤ (D.length : Int) by omega), if_pos (show (D.length : Int) ≤ (D.length : Int) by omega), Int.toNat_natCast, w64s i (by omega)]
    exact hf
  | succ d ih =>
    intro j h hlt
    have hj : j < D.length := by omega
    have hrd : rdOf ByteArray.empty D (j : Int) = D[j] := by simp [rdOf, List.getD_eq_getElem?_getD, hj]
    refine ev_succ ?_
    simp only [spec_Due6.l5, if_pos (show ((j : Int) < (D.length : Int)) by omega), if_pos (show (0 : Int) ≤ (j : Int) by omega), if_pos (show (0 : Int) ≤ (i : Int) by omega), if_pos (show (i : Int) < (ss.length : Int) by omega), rd_atS hi, hrd, Option.bind_some, if_pos (show (j : Int) ≤ (D.length : Int) by omega), Int.toNat_natCast, w64s i (by omega), w64s j (by omega)]
    cases hb : Op.bytesLess (D[j]).toList ((ss[i]).f0).toList with
    | true =>
      simp only [if_true]
      refine ih (j + 1) (by omega) (fun q hq hqj => ?_)
      rcases Nat.lt_or_eq_of_le (Nat.lt_succ_iff.1 hqj) with h1 | rfl
      · exact hlt q hq h1
      · exact hb
    | false =>
      simp only [Bool.false_eq_true, if_false]
      exact fin j (by omega) hlt (fun _ => hb)
theorem l4_ev (ls : List Lf) (ss : List St) (hn : ls.length ≤ 30) (hs : ss.length ≤ 30) (D : List ByteArray) (hD : D.length ≤ 1000) (i : Nat) (hi : i < ss.length) (R : Bool → List ByteArray × Bool) (hR : ∀ b, Ev (fun k => spec_Due6.l2 k ls ss [] (if b = true then insR (ss[i]).f0 D else D) ((i : Int) + 1)) (R b)) (d : Nat) : ∀ (j : Nat) (b : Bool), j + d = ls.length →
    Ev (fun k => spec_Due6.l4 k ls ss [] D (i : Int) b (j : Int)) (R (foldB (ss[i]) (ls.drop j) b)) := by
  induction d with
  | zero =>
    intro j b h
    rw [List.drop_eq_nil_of_le (by omega)]
    refine ev_succ ?_
    simp only [spec_Due6.l4, if_neg (show ¬ ((j : Int) < (ls.length : Int)) by omega)]
    have := hR b
    cases b with
    | true =>
      simp only [if_true] at this ⊢
      exact l5_ev ls ss hs D hD i hi _ this D.length 0 (by omega) (fun q _ hq => absurd hq (Nat.not_lt_zero q))
    | false =>
      simp only [Bool.false_eq_true, if_false, w64s i (by omega)] at this ⊢
      exact this
  | succ d ih =>
    intro j b h
    have hj : j < ls.length := by omega
    rw [List.drop_eq_getElem_cons hj]
    unfold foldB
    have ih' := fun b => ih (j + 1) b (by omega)
    refine ev_succ ?_
    simp only [spec_Due6.l4, if_pos (show ((j : Int) < (ls.length : Int)) by omega), if_pos (show (0 : Int) ≤ (j : Int) by omega), if_pos (show (0 : Int) ≤ (i : Int) by omega), if_pos (show (i : Int) < (ss.length : Int) by omega), rd_atS hi, rd_atL hj, w64s j (by omega)]
    by_cases e : (ls[j]).f0.toList = (ss[i]).f0.toList
    · simp only [if_pos e]
      have hi' := ih' (isd (ls[j]).f1 (ls[j]).f2 (ls[j]).f3 (ss[i]).f1 (ss[i]).f2 (ss[i]).f3)
      generalize hv : isd (ls[j]).f1 (ls[j]).f2 (ls[j]).f3 (ss[i]).f1 (ss[i]).f2 (ss[i]).f3 = v at hi'
      unfold isd at hv
      by_cases h1 : (ls[j]).f1 > 0 <;> by_cases h2 : (ss[i]).f1 ≥ (ls[j]).f1 <;> by_cases h3 : (ls[j]).f2 > 0 <;> by_cases h4 : (ss[i]).f2 ≥ (ls[j]).f2 <;> by_cases h5 : (ls[j]).f3 > 0 <;> by_cases h6 : (ss[i]).f3 ≥ (ls[j]).f3 <;> simp only [h1, h2, h3, h4, h5, h6, decide_true, decide_false, Bool.true_and, Bool.false_and, Bool.or_true, Bool.true_or, Bool.or_false, Bool.false_or, Bool.or_self, Bool.and_self, Bool.and_false, if_true, if_false] at hv ⊢ <;> (subst hv; exact hi')
    · simp only [if_neg e]
      exact ih' b
theorem l3_ev (ls : List Lf) (ss : List St) (hs : ss.length ≤ 30) (hz : ∀ x ∈ ss, x.f0.size ≤ 140737488355328) (D : List ByteArray) (i : Nat) (hi : i < ss.length) (R : List ByteArray × Bool) (hR : Ev (fun k => spec_Due6.l4 k ls ss [] D (i : Int) true 0) R) (d : Nat) : ∀ j : Nat, j + d = i →
    Ev (fun k => spec_Due6.l3 k ls ss [] D (i : Int) (j : Int)) (if (!((ss.take i).drop j).any (fun x => x.f0.toList == (ss[i]).f0.toList) && stay6 (ss[i]).f0 (ss[i]).f1 (ss[i]).f2 (ss[i]).f3) = true then R else ([], false)) := by
  induction d with
  | zero =>
    intro j h
    obtain rfl : j = i := by omega
    have hdr : (ss.take j).drop j = [] := List.drop_eq_nil_of_le (by rw [List.length_take]; omega)
    rw [hdr]
    refine ev_succ ?_
    simp only [spec_Due6.l3, if_neg (show ¬ ((j : Int) < (j : Int)) by omega), if_pos (show (0 : Int) ≤ (j : Int) by omega), if_pos (show (j : Int) < (ss.length : Int) by omega), rd_atS hi]
    refine (spec_l6Stay_ev _ (hz _ (List.getElem_mem hi)) _ _ _).bind ?_
    simp only [List.any_nil, Bool.not_false, Bool.true_and]
    cases stay6 (ss[j]).f0 (ss[j]).f1 (ss[j]).f2 (ss[j]).f3 with
    | true => simpa only [if_true] using hR
    | false => simpa using ev_now _
  | succ d ih =>
    intro j h
    have hjl : j < ss.length := by omega
    rw [drop_take (show j < i by omega) (by omega)]
    refine ev_succ ?_
    simp only [spec_Due6.l3, if_pos (show ((j : Int) < (i : Int)) by omega), if_pos (show (0 : Int) ≤ (j : Int) by omega), if_pos (show (j : Int) < (ss.length : Int) by omega), if_pos (show (0 : Int) ≤ (i : Int) by omega), if_pos (show (i : Int) < (ss.length : Int) by omega), rd_atS hi, rd_atS hjl, w64s j (by omega)]
    by_cases e : (ss[j]).f0.toList = (ss[i]).f0.toList
    · simpa [e] using ev_now _
    · have := ih (j + 1) (by omega)
      simpa [e] using this
theorem l2_ev (ls : List Lf) (ss : List St) (hn : ls.length ≤ 30) (hs : ss.length ≤ 30) (hz : ∀ x ∈ ss, x.f0.size ≤ 140737488355328) (hp : ls.Pairwise (fun a b => a.f0.toList ≠ b.f0.toList)) (d : Nat) : ∀ (i : Nat) (D : List ByteArray), i + d = ss.length → D.length ≤ i →
    Ev (fun k => spec_Due6.l2 k ls ss [] D (i : Int)) (if (List.range' i d).all (okS ss) = true then (buildF ls (ss.drop i) D, true) else ([], false)) := by
  induction d with
  | zero =>
    intro i D h hD
    rw [List.drop_eq_nil_of_le (by omega)]
    refine ev_succ ?_
    simp only [spec_Due6.l2, if_neg (show ¬ ((i : Int) < (ss.length : Int)) by omega)]
    exact ev_now _
  | succ d ih =>
    intro i D h hD
    have hi : i < ss.length := by omega
    refine ev_succ ?_
    simp only [spec_Due6.l2, if_pos (show ((i : Int) < (ss.length : Int)) by omega)]
    have h4 := l4_ev ls ss hn hs D (by omega) i hi _ (fun b => by
      have := ih (i + 1) (if b = true then insR (ss[i]).f0 D else D) (by omega) (by split; rw [(insR_perm _ _).length_eq, List.length_cons]; omega; omega)
      simpa using this) ls.length 0 true (by omega)
    rw [List.drop_zero, fold_due _ ls hp] at h4
    have h3 := l3_ev ls ss hs hz D i hi _ (by simpa using h4) i 0 (by omega)
    rw [List.drop_zero] at h3
    rw [List.range'_succ, List.all_cons, okS_iff hi, List.drop_eq_getElem_cons hi]
    unfold buildF
    cases hb : (!(ss.take i).any (fun x => x.f0.toList == (ss[i]).f0.toList) && stay6 (ss[i]).f0 (ss[i]).f1 (ss[i]).f2 (ss[i]).f3) with
    | true => rw [hb] at h3; simpa only [Bool.true_and, if_true, Int.natCast_zero, Int.ofNat_zero, Int.cast_ofNat_Int] using h3
    | false => rw [hb] at h3; simpa using h3
theorem spec_Due6_ev (ls : List Lf) (ss : List St) (hz : ∀ x ∈ ls, x.f0.size ≤ 140737488355328) (hz2 : ∀ x ∈ ss, x.f0.size ≤ 140737488355328) : Ev (fun k => spec_Due6.f k ls ss) (dueF ls ss) := by
  simp only [spec_Due6.f, Option.bind_some]
  have bad : ∀ x : Bool, x = true → Ev (fun k => spec_Due6.j0 k ls ss [] x) ([], false) := by
    rintro _ rfl
    refine ev_succ ?_
    simpa only [spec_Due6.j0, if_true] using ev_now _
  by_cases h1 : (ls.length : Int) > 30
  · simp only [if_pos h1]
    rw [due_big (by omega)]
    exact bad _ rfl
  · simp only [if_neg h1]
    by_cases h2 : (ss.length : Int) > 30
    · rw [due_big (by omega)]
      exact bad _ (decide_eq_true h2)
    · rw [decide_eq_false h2]
      refine ev_succ ?_
      simp only [spec_Due6.j0, Bool.false_eq_true, if_false]
      by_cases hl : ∀ i, i < ls.length → okL ls i = true
      · have h3 := l2_ev ls ss (by omega) (by omega) hz2 (okL_pw hl) ss.length 0 [] (by omega) (Nat.le_refl _)
        have h4 := l0_ev ls ss (by omega) hz _ ls.length 0 (by omega) (fun _ => h3)
        have e1 : (List.range' 0 ls.length).all (okL ls) = true := by
          rw [List.all_eq_true]
          intro i hi
          exact hl i (by simpa [List.mem_range'] using hi)
        rw [e1, if_pos rfl] at h4
        by_cases hk : ∀ i, i < ss.length → okS ss i = true
        · have e2 : (List.range' 0 ss.length).all (okS ss) = true := by
            rw [List.all_eq_true]
            intro i hi
            exact hk i (by simpa [List.mem_range'] using hi)
          rw [e2, if_pos rfl, List.drop_zero] at h4
          rw [due_good (by omega) (by omega) hl hk, sort_build]
          simpa using h4
        · obtain ⟨i, hi, hf⟩ : ∃ i, i < ss.length ∧ okS ss i = false := by
            rcases Classical.not_forall.1 hk with ⟨i, hi⟩
            rcases Classical.not_imp.1 hi with ⟨h, hf⟩
            exact ⟨i, h, by simpa using hf⟩
          have e2 : (List.range' 0 ss.length).all (okS ss) = false := by
            rw [List.all_eq_false]
            exact ⟨i, by simp [List.mem_range', hi], by simp [hf]⟩
          rw [e2, if_neg (by simp)] at h4
          rw [due_bad2 hi hf]
          simpa using h4
      · obtain ⟨i, hi, hf⟩ : ∃ i, i < ls.length ∧ okL ls i = false := by
          rcases Classical.not_forall.1 hl with ⟨i, hi⟩
          rcases Classical.not_imp.1 hi with ⟨h, hf⟩
          exact ⟨i, h, by simpa using hf⟩
        have e1 : (List.range' 0 ls.length).all (okL ls) = false := by
          rw [List.all_eq_false]
          exact ⟨i, by simp [List.mem_range', hi], by simp [hf]⟩
        rw [due_bad1 hi hf]
        have h4 := l0_ev ls ss (by omega) hz ([], false) ls.length 0 (by omega) (fun h => by rw [e1] at h; cases h)
        rw [ite_self] at h4
        simpa using h4
theorem rdwLife {xs : List S23} {i : Nat} (h : i < xs.length) : rd_T23 xs (i : Int) = xs[i] := by
  simp [rd_T23, List.getD_eq_getElem?_getD, h]
def wLife (x : S23) : Nat := x.f0.size
theorem szLife_eq (x : S23) (left : Int) (h0 : 0 ≤ left) (h1 : left ≤ 1048576) (hw : wLife x ≤ 140737488355328) : laws_szLife.f x.f0 x.f1 x.f2 x.f3 left = some (if left - (wLife x : Int) < 0 then -1 else left - (wLife x : Int)) := by
  unfold wLife at hw ⊢
  unfold laws_szLife.f
  rw [w64 (by omega) (by omega)]
  split <;> rfl
theorem szLifeS_l (xs : List S23) (hn : xs.length ≤ 140737488355328) (hx : ∀ x ∈ xs, wLife x ≤ 140737488355328) (d : Nat) : ∀ (i : Nat) (left : Int), i + d = xs.length → 0 ≤ left → left ≤ 1048576 →
    ∃ v, Ev (fun k => laws_szLifeS.l0 k xs left (i : Int)) v ∧ (v < 0 ∨ (0 ≤ v ∧ v + (((xs.drop i).map wLife).sum : Nat) = left)) := by
  induction d with
  | zero =>
    intro i left h h0 h1
    refine ⟨left, ev_succ ?_, .inr ⟨h0, ?_⟩⟩
    · simp only [laws_szLifeS.l0, if_neg (show ¬ ((i : Int) < (xs.length : Int)) by omega)]
      exact ev_now _
    · rw [List.drop_of_length_le (by omega)]; simp
  | succ d ih =>
    intro i left h h0 h1
    have hlt : i < xs.length := by omega
    have hxi := hx _ (List.getElem_mem hlt)
    by_cases hs : left - (wLife (xs[i]) : Int) < 0
    · refine ⟨-1, ev_succ ?_, .inl (by omega)⟩
      simp only [laws_szLifeS.l0, if_pos (show ((i : Int) < (xs.length : Int)) by omega), if_pos (show (0 : Int) ≤ (i : Int) by omega), rdwLife hlt, szLife_eq _ left h0 h1 hxi, if_pos hs, Option.bind_some, if_pos (show (-1 : Int) < 0 by omega)]
      exact ev_now _
    · obtain ⟨v, hv, hr⟩ := ih (i + 1) (left - (wLife (xs[i]) : Int)) (by omega) (by omega) (by omega)
      refine ⟨v, ev_succ ?_, ?_⟩
      · simp only [laws_szLifeS.l0, if_pos (show ((i : Int) < (xs.length : Int)) by omega), if_pos (show (0 : Int) ≤ (i : Int) by omega), rdwLife hlt, szLife_eq _ left h0 h1 hxi, if_neg hs, Option.bind_some, w64s i (by omega)]
        exact hv
      · rcases hr with hr | ⟨hr0, hr⟩
        · exact .inl hr
        · refine .inr ⟨hr0, ?_⟩
          rw [List.drop_eq_getElem_cons hlt, List.map_cons, List.sum_cons]
          omega
theorem szLifeS_ev (xs : List S23) (left : Int) (h0 : 0 ≤ left) (h1 : left ≤ 1048576) (hn : xs.length ≤ 140737488355328) (hx : ∀ x ∈ xs, wLife x ≤ 140737488355328) :
    ∃ v, Ev (fun k => laws_szLifeS.f k xs left) v ∧ (v < 0 ∨ (0 ≤ v ∧ v + (xs.length : Int) + ((xs.map wLife).sum : Nat) = left)) := by
  simp only [laws_szLifeS.f]
  rw [w64 (by omega) (by omega)]
  by_cases hs : left - (xs.length : Int) < 0
  · simp only [if_pos hs]
    exact ⟨-1, ev_now _, .inl (by omega)⟩
  · simp only [if_neg hs]
    obtain ⟨v, hv, hr⟩ := szLifeS_l xs hn hx xs.length 0 (left - (xs.length : Int)) (by omega) (by omega) (by omega)
    refine ⟨v, hv, ?_⟩
    rcases hr with hr | ⟨hr0, hr⟩
    · exact .inl hr
    · rw [List.drop_zero] at hr
      exact .inr ⟨hr0, by omega⟩
theorem rdwStay {xs : List S24} {i : Nat} (h : i < xs.length) : rd_T24 xs (i : Int) = xs[i] := by
  simp [rd_T24, List.getD_eq_getElem?_getD, h]
def wStay (x : S24) : Nat := x.f0.size
theorem szStay_eq (x : S24) (left : Int) (h0 : 0 ≤ left) (h1 : left ≤ 1048576) (hw : wStay x ≤ 140737488355328) : laws_szStay.f x.f0 x.f1 x.f2 x.f3 left = some (if left - (wStay x : Int) < 0 then -1 else left - (wStay x : Int)) := by
  unfold wStay at hw ⊢
  unfold laws_szStay.f
  rw [w64 (by omega) (by omega)]
  split <;> rfl
theorem szStayS_l (xs : List S24) (hn : xs.length ≤ 140737488355328) (hx : ∀ x ∈ xs, wStay x ≤ 140737488355328) (d : Nat) : ∀ (i : Nat) (left : Int), i + d = xs.length → 0 ≤ left → left ≤ 1048576 →
    ∃ v, Ev (fun k => laws_szStayS.l0 k xs left (i : Int)) v ∧ (v < 0 ∨ (0 ≤ v ∧ v + (((xs.drop i).map wStay).sum : Nat) = left)) := by
  induction d with
  | zero =>
    intro i left h h0 h1
    refine ⟨left, ev_succ ?_, .inr ⟨h0, ?_⟩⟩
    · simp only [laws_szStayS.l0, if_neg (show ¬ ((i : Int) < (xs.length : Int)) by omega)]
      exact ev_now _
    · rw [List.drop_of_length_le (by omega)]; simp
  | succ d ih =>
    intro i left h h0 h1
    have hlt : i < xs.length := by omega
    have hxi := hx _ (List.getElem_mem hlt)
    by_cases hs : left - (wStay (xs[i]) : Int) < 0
    · refine ⟨-1, ev_succ ?_, .inl (by omega)⟩
      simp only [laws_szStayS.l0, if_pos (show ((i : Int) < (xs.length : Int)) by omega), if_pos (show (0 : Int) ≤ (i : Int) by omega), rdwStay hlt, szStay_eq _ left h0 h1 hxi, if_pos hs, Option.bind_some, if_pos (show (-1 : Int) < 0 by omega)]
      exact ev_now _
    · obtain ⟨v, hv, hr⟩ := ih (i + 1) (left - (wStay (xs[i]) : Int)) (by omega) (by omega) (by omega)
      refine ⟨v, ev_succ ?_, ?_⟩
      · simp only [laws_szStayS.l0, if_pos (show ((i : Int) < (xs.length : Int)) by omega), if_pos (show (0 : Int) ≤ (i : Int) by omega), rdwStay hlt, szStay_eq _ left h0 h1 hxi, if_neg hs, Option.bind_some, w64s i (by omega)]
        exact hv
      · rcases hr with hr | ⟨hr0, hr⟩
        · exact .inl hr
        · refine .inr ⟨hr0, ?_⟩
          rw [List.drop_eq_getElem_cons hlt, List.map_cons, List.sum_cons]
          omega
theorem szStayS_ev (xs : List S24) (left : Int) (h0 : 0 ≤ left) (h1 : left ≤ 1048576) (hn : xs.length ≤ 140737488355328) (hx : ∀ x ∈ xs, wStay x ≤ 140737488355328) :
    ∃ v, Ev (fun k => laws_szStayS.f k xs left) v ∧ (v < 0 ∨ (0 ≤ v ∧ v + (xs.length : Int) + ((xs.map wStay).sum : Nat) = left)) := by
  simp only [laws_szStayS.f]
  rw [w64 (by omega) (by omega)]
  by_cases hs : left - (xs.length : Int) < 0
  · simp only [if_pos hs]
    exact ⟨-1, ev_now _, .inl (by omega)⟩
  · simp only [if_neg hs]
    obtain ⟨v, hv, hr⟩ := szStayS_l xs hn hx xs.length 0 (left - (xs.length : Int)) (by omega) (by omega) (by omega)
    refine ⟨v, hv, ?_⟩
    rcases hr with hr | ⟨hr0, hr⟩
    · exact .inl hr
    · rw [List.drop_zero] at hr
      exact .inr ⟨hr0, by omega⟩
/-! The helpers over Lifes. -/
def convLife (x : S23) : S29 := ⟨x.f0, x.f1, x.f2, x.f3⟩
theorem rdlLife {xs : List S23} {i : Nat} (h : i < xs.length) : rd_T23 xs (i : Int) = xs[i] := by
  simp [rd_T23, List.getD_eq_getElem?_getD, h]
theorem rdiLife {xs : List S29} {i : Nat} (h : i < xs.length) : rd_T29 xs (i : Int) = xs[i] := by
  simp [rd_T29, List.getD_eq_getElem?_getD, h]
theorem dropLife {xs : List S29} {i : Nat} (h : i < xs.length) : xs.drop i = rd_T29 xs (i : Int) :: xs.drop (i + 1) := by
  rw [List.drop_eq_getElem_cons h, rdiLife h]
theorem toLifeS_l (xs : List S23) (hn : xs.length ≤ 7036874417766) (d : Nat) : ∀ i : Nat, i + d = xs.length →
    Ev (fun k => laws_toLifeS.l0 k xs ((xs.map convLife).take i ++ List.replicate (xs.length - i) z29) (i : Int)) (xs.map convLife) := by
  induction d with
  | zero =>
    intro i h
    refine ev_succ ?_
    simp only [laws_toLifeS.l0, if_neg (show ¬ ((i : Int) < (xs.length : Int)) by omega)]
    exact ev_some (by rw [List.take_of_length_le (by simp; omega), show xs.length - i = 0 by omega]; simp)
  | succ d ih =>
    intro i h
    refine ev_succ ?_
    have hlt : i < xs.length := by omega
    have hl : (((xs.map convLife).take i ++ List.replicate (xs.length - i) z29).length : Int) = (xs.length : Int) := by simp; omega
    have hs := take_setG (xs := xs) (c := convLife) hlt z29
    simp only [laws_toLifeS.l0, if_pos (show ((i : Int) < (xs.length : Int)) by omega), if_pos (show (0 : Int) ≤ (i : Int) by omega), hl, w64s i (by omega), Int.toNat_natCast, rdlLife hlt, laws_toLife.f, Option.bind_some]
    rw [show ((xs.map convLife).take i ++ List.replicate (xs.length - i) z29).set i ⟨(xs[i]).f0, (xs[i]).f1, (xs[i]).f2, (xs[i]).f3⟩ = _ from hs]
    exact ih (i + 1) (by omega)
theorem toLifeS_ev (xs : List S23) (hn : xs.length ≤ 7036874417766) : Ev (fun k => laws_toLifeS.f k xs) (xs.map convLife) := by
  simp only [laws_toLifeS.f, if_pos (show (0 : Int) ≤ (xs.length : Int) by omega), Int.toNat_natCast, if_pos hn]
  simpa using toLifeS_l xs hn xs.length 0 (by omega)
/-! The helpers over Stays. -/
def convStay (x : S24) : S31 := ⟨x.f0, x.f1, x.f2, x.f3⟩
theorem rdlStay {xs : List S24} {i : Nat} (h : i < xs.length) : rd_T24 xs (i : Int) = xs[i] := by
  simp [rd_T24, List.getD_eq_getElem?_getD, h]
theorem rdiStay {xs : List S31} {i : Nat} (h : i < xs.length) : rd_T31 xs (i : Int) = xs[i] := by
  simp [rd_T31, List.getD_eq_getElem?_getD, h]
theorem dropStay {xs : List S31} {i : Nat} (h : i < xs.length) : xs.drop i = rd_T31 xs (i : Int) :: xs.drop (i + 1) := by
  rw [List.drop_eq_getElem_cons h, rdiStay h]
theorem toStayS_l (xs : List S24) (hn : xs.length ≤ 7036874417766) (d : Nat) : ∀ i : Nat, i + d = xs.length →
    Ev (fun k => laws_toStayS.l0 k xs ((xs.map convStay).take i ++ List.replicate (xs.length - i) z31) (i : Int)) (xs.map convStay) := by
  induction d with
  | zero =>
    intro i h
    refine ev_succ ?_
    simp only [laws_toStayS.l0, if_neg (show ¬ ((i : Int) < (xs.length : Int)) by omega)]
    exact ev_some (by rw [List.take_of_length_le (by simp; omega), show xs.length - i = 0 by omega]; simp)
  | succ d ih =>
    intro i h
    refine ev_succ ?_
    have hlt : i < xs.length := by omega
    have hl : (((xs.map convStay).take i ++ List.replicate (xs.length - i) z31).length : Int) = (xs.length : Int) := by simp; omega
    have hs := take_setG (xs := xs) (c := convStay) hlt z31
    simp only [laws_toStayS.l0, if_pos (show ((i : Int) < (xs.length : Int)) by omega), if_pos (show (0 : Int) ≤ (i : Int) by omega), hl, w64s i (by omega), Int.toNat_natCast, rdlStay hlt, laws_toStay.f, Option.bind_some]
    rw [show ((xs.map convStay).take i ++ List.replicate (xs.length - i) z31).set i ⟨(xs[i]).f0, (xs[i]).f1, (xs[i]).f2, (xs[i]).f3⟩ = _ from hs]
    exact ih (i + 1) (by omega)
theorem toStayS_ev (xs : List S24) (hn : xs.length ≤ 7036874417766) : Ev (fun k => laws_toStayS.f k xs) (xs.map convStay) := by
  simp only [laws_toStayS.f, if_pos (show (0 : Int) ≤ (xs.length : Int) by omega), Int.toNat_natCast, if_pos hn]
  simpa using toStayS_l xs hn xs.length 0 (by omega)
theorem eqLifeS_l (xs : List S29) (hn : xs.length ≤ 140737488355328) (d : Nat) : ∀ i : Nat, i + d = xs.length →
    Ev (fun k => laws_eqLifeS.l0 k xs xs (i : Int)) true := by
  induction d with
  | zero =>
    intro i h
    refine ev_succ ?_
    simp only [laws_eqLifeS.l0, if_neg (show ¬ ((i : Int) < (xs.length : Int)) by omega)]
    exact ev_now _
  | succ d ih =>
    intro i h
    refine ev_succ ?_
    simp only [laws_eqLifeS.l0, if_pos (show ((i : Int) < (xs.length : Int)) by omega), if_pos (show (0 : Int) ≤ (i : Int) by omega), w64s i (by omega), laws_eqLife.f, Option.bind_some, if_true]
    exact ih (i + 1) (by omega)
theorem eqLifeS_self (xs : List S29) (hn : xs.length ≤ 140737488355328) : Ev (fun k => laws_eqLifeS.f k xs xs) true := by
  simp only [laws_eqLifeS.f, if_true]
  simpa using eqLifeS_l xs hn xs.length 0 (by omega)
theorem eqStayS_l (xs : List S31) (hn : xs.length ≤ 140737488355328) (d : Nat) : ∀ i : Nat, i + d = xs.length →
    Ev (fun k => laws_eqStayS.l0 k xs xs (i : Int)) true := by
  induction d with
  | zero =>
    intro i h
    refine ev_succ ?_
    simp only [laws_eqStayS.l0, if_neg (show ¬ ((i : Int) < (xs.length : Int)) by omega)]
    exact ev_now _
  | succ d ih =>
    intro i h
    refine ev_succ ?_
    simp only [laws_eqStayS.l0, if_pos (show ((i : Int) < (xs.length : Int)) by omega), if_pos (show (0 : Int) ≤ (i : Int) by omega), w64s i (by omega), laws_eqStay.f, Option.bind_some, if_true]
    exact ih (i + 1) (by omega)
theorem eqStayS_self (xs : List S31) (hn : xs.length ≤ 140737488355328) : Ev (fun k => laws_eqStayS.f k xs xs) true := by
  simp only [laws_eqStayS.f, if_true]
  simpa using eqStayS_l xs hn xs.length 0 (by omega)
/-! The text of a mark. -/
def mtL : Nat → Int → ByteArray → ByteArray
  | 0, _, x => (⟨#[109]⟩ : ByteArray) ++ x
  | n + 1, v, x => if v > 0 then mtL n (v / 10) (strOfNums [(wrap64 (48 + (Int.tmod v 10))) % 256] ++ x) else (⟨#[109]⟩ : ByteArray) ++ x
def mtx (v : Int) : ByteArray := mtL 19 v ⟨#[]⟩
theorem mtL_ev : ∀ (n : Nat) (v : Int) (x : ByteArray), 0 ≤ v → v ≤ 9223372036854775807 → v < 10 ^ n → x.size + n ≤ 1000 → Ev (fun k => laws_markText.l0 k v x) (mtL n v x)
  | 0, v, x, h0, _, h1, hx => by
    refine ev_succ ?_
    simp only [laws_markText.l0, if_neg (show ¬ v > 0 by simp at h1; omega), if_pos (show 1 + x.size ≤ 9223372036854775807 by omega)]
    exact ev_now _
  | n + 1, v, x, h0, h2, h1, hx => by
    refine ev_succ ?_
    unfold mtL
    by_cases c : v > 0
    · have hd : Int.tdiv v 10 = v / 10 := Int.tdiv_eq_ediv_of_nonneg h0
      have hs : (strOfNums [(wrap64 (48 + (Int.tmod v 10))) % 256]).size = 1 := rfl
      have hp : v / 10 < 10 ^ n := by rw [Int.pow_succ] at h1; omega
      simp only [laws_markText.l0, if_pos c, Option.bind_some, hs, if_pos (show 1 + x.size ≤ 9223372036854775807 by omega), hd, w64 (n := v / 10) (by omega) (by omega)]
      exact mtL_ev n (v / 10) _ (by omega) (by omega) hp (by rw [ByteArray.size_append, hs]; omega)
    · simp only [laws_markText.l0, if_neg c, if_pos (show 1 + x.size ≤ 9223372036854775807 by omega)]
      exact ev_now _
theorem markText_ev (v : Int) (h0 : 0 < v) (h1 : v ≤ 1152921504606846976) : Ev (fun k => laws_markText.f k v) (mtx v) := by
  simp only [laws_markText.f, if_neg (show ¬ v ≤ 0 by omega)]
  exact mtL_ev 19 v ⟨#[]⟩ (by omega) (by omega) (by omega) (by decide)
/-! The marks of Lifes. -/
def lmarks (k0 : Int) (n : Nat) : List S29 := (List.range n).map fun i : Nat => ⟨mtx (k0 + 4 * (i : Int)), k0 + 4 * (i : Int) + 1, k0 + 4 * (i : Int) + 1 + 1, k0 + 4 * (i : Int) + 1 + 1 + 1⟩
theorem lmarks_length (k0 : Int) (n : Nat) : (lmarks k0 n).length = n := by simp [lmarks]
theorem lrd {xs : List S29} {i : Nat} (h : i < xs.length) : rd_T29 xs (i : Int) = xs[i] := by simp [rd_T29, List.getD_eq_getElem?_getD, h]
theorem lrd_set {xs : List S29} {i : Nat} (h : i < xs.length) (a : S29) : rd_T29 (xs.set i a) (i : Int) = a := by rw [lrd (by simpa using h)]; simp
theorem lmarks_set {k0 : Int} {xs : List S29} {i : Nat} (h : i < xs.length) : (lmarks k0 i ++ xs.drop i).set i ⟨mtx (k0 + 4 * (i : Int)), k0 + 4 * (i : Int) + 1, k0 + 4 * (i : Int) + 1 + 1, k0 + 4 * (i : Int) + 1 + 1 + 1⟩ = lmarks k0 (i + 1) ++ xs.drop (i + 1) := by
  rw [List.set_append, if_neg (by rw [lmarks_length]; omega), lmarks_length, Nat.sub_self, List.drop_eq_getElem_cons h, List.set_cons_zero]
  simp [lmarks, List.range_succ]
theorem markLife_l (xs : List S29) (k0 : Int) (h0 : 0 < k0) (h1 : k0 ≤ 1125899906842624) (hn : xs.length ≤ 140737488355328) (d : Nat) : ∀ i : Nat, i + d = xs.length →
    Ev (fun k => laws_markLifeS.l0 k (lmarks k0 i ++ xs.drop i) (k0 + 4 * (i : Int)) (i : Int)) (k0 + 4 * (xs.length : Int), lmarks k0 xs.length) := by
  induction d with
  | zero =>
    intro i h
    obtain rfl : i = xs.length := by omega
    refine ev_succ ?_
    have hl : (lmarks k0 xs.length ++ xs.drop xs.length).length = xs.length := by rw [List.length_append, lmarks_length, List.length_drop]; omega
    simp only [laws_markLifeS.l0, hl, if_neg (show ¬ ((xs.length : Int) < (xs.length : Int)) by omega)]
    exact ev_some (by simp)
  | succ d ih =>
    intro i h
    have hi : i < xs.length := by omega
    have hl : (lmarks k0 i ++ xs.drop i).length = xs.length := by rw [List.length_append, lmarks_length, List.length_drop]; omega
    have hset := lmarks_set (k0 := k0) hi
    have hin := ih (i + 1) (by omega)
    rw [← hset] at hin
    generalize lmarks k0 i ++ xs.drop i = ys at hl hin
    have hiy : i < ys.length := by omega
    refine ev_succ ?_
    simp only [laws_markLifeS.l0, hl, if_pos (show ((i : Int) < (xs.length : Int)) by omega), if_pos (show (0 : Int) ≤ (i : Int) by omega), w64s i (show i < 9223372036854775807 by omega), Int.toNat_natCast, w64 (n := k0 + 4 * (i : Int) + 1) (by omega) (by omega), w64 (n := k0 + 4 * (i : Int) + 1 + 1) (by omega) (by omega), w64 (n := k0 + 4 * (i : Int) + 1 + 1 + 1) (by omega) (by omega), w64 (n := k0 + 4 * (i : Int) + 1 + 1 + 1 + 1) (by omega) (by omega)]
    refine (markText_ev (k0 + 4 * (i : Int)) (by omega) (by omega)).bind ?_
    simp only [Option.bind_some, lrd_set hiy, List.set_set]
    have hb : ∀ a, rd_T29 (ys.set i a) (i : Int) = a := fun a => lrd_set hiy a
    (try simp only [hb, List.set_set])
    rw [show k0 + 4 * ((i + 1 : Nat) : Int) = k0 + 4 * (i : Int) + 1 + 1 + 1 + 1 by omega] at hin
    exact hin
theorem markLife_ev (xs : List S29) (k0 : Int) (h0 : 0 < k0) (h1 : k0 ≤ 1125899906842624) (hn : xs.length ≤ 140737488355328) : Ev (fun k => laws_markLifeS.f k xs k0) (k0 + 4 * (xs.length : Int), lmarks k0 xs.length) := by
  have := markLife_l xs k0 h0 h1 hn xs.length 0 (by omega)
  simpa [laws_markLifeS.f, lmarks] using this
/-! The marks of Stays. -/
def ymarks (k0 : Int) (n : Nat) : List S31 := (List.range n).map fun i : Nat => ⟨mtx (k0 + 4 * (i : Int)), k0 + 4 * (i : Int) + 1, k0 + 4 * (i : Int) + 1 + 1, k0 + 4 * (i : Int) + 1 + 1 + 1⟩
theorem ymarks_length (k0 : Int) (n : Nat) : (ymarks k0 n).length = n := by simp [ymarks]
theorem yrd {xs : List S31} {i : Nat} (h : i < xs.length) : rd_T31 xs (i : Int) = xs[i] := by simp [rd_T31, List.getD_eq_getElem?_getD, h]
theorem yrd_set {xs : List S31} {i : Nat} (h : i < xs.length) (a : S31) : rd_T31 (xs.set i a) (i : Int) = a := by rw [yrd (by simpa using h)]; simp
theorem ymarks_set {k0 : Int} {xs : List S31} {i : Nat} (h : i < xs.length) : (ymarks k0 i ++ xs.drop i).set i ⟨mtx (k0 + 4 * (i : Int)), k0 + 4 * (i : Int) + 1, k0 + 4 * (i : Int) + 1 + 1, k0 + 4 * (i : Int) + 1 + 1 + 1⟩ = ymarks k0 (i + 1) ++ xs.drop (i + 1) := by
  rw [List.set_append, if_neg (by rw [ymarks_length]; omega), ymarks_length, Nat.sub_self, List.drop_eq_getElem_cons h, List.set_cons_zero]
  simp [ymarks, List.range_succ]
theorem markStay_l (xs : List S31) (k0 : Int) (h0 : 0 < k0) (h1 : k0 ≤ 1125899906842624) (hn : xs.length ≤ 140737488355328) (d : Nat) : ∀ i : Nat, i + d = xs.length →
    Ev (fun k => laws_markStayS.l0 k (ymarks k0 i ++ xs.drop i) (k0 + 4 * (i : Int)) (i : Int)) (k0 + 4 * (xs.length : Int), ymarks k0 xs.length) := by
  induction d with
  | zero =>
    intro i h
    obtain rfl : i = xs.length := by omega
    refine ev_succ ?_
    have hl : (ymarks k0 xs.length ++ xs.drop xs.length).length = xs.length := by rw [List.length_append, ymarks_length, List.length_drop]; omega
    simp only [laws_markStayS.l0, hl, if_neg (show ¬ ((xs.length : Int) < (xs.length : Int)) by omega)]
    exact ev_some (by simp)
  | succ d ih =>
    intro i h
    have hi : i < xs.length := by omega
    have hl : (ymarks k0 i ++ xs.drop i).length = xs.length := by rw [List.length_append, ymarks_length, List.length_drop]; omega
    have hset := ymarks_set (k0 := k0) hi
    have hin := ih (i + 1) (by omega)
    rw [← hset] at hin
    generalize ymarks k0 i ++ xs.drop i = ys at hl hin
    have hiy : i < ys.length := by omega
    refine ev_succ ?_
    simp only [laws_markStayS.l0, hl, if_pos (show ((i : Int) < (xs.length : Int)) by omega), if_pos (show (0 : Int) ≤ (i : Int) by omega), w64s i (show i < 9223372036854775807 by omega), Int.toNat_natCast, w64 (n := k0 + 4 * (i : Int) + 1) (by omega) (by omega), w64 (n := k0 + 4 * (i : Int) + 1 + 1) (by omega) (by omega), w64 (n := k0 + 4 * (i : Int) + 1 + 1 + 1) (by omega) (by omega), w64 (n := k0 + 4 * (i : Int) + 1 + 1 + 1 + 1) (by omega) (by omega)]
    refine (markText_ev (k0 + 4 * (i : Int)) (by omega) (by omega)).bind ?_
    simp only [Option.bind_some, yrd_set hiy, List.set_set]
    have hb : ∀ a, rd_T31 (ys.set i a) (i : Int) = a := fun a => yrd_set hiy a
    (try simp only [hb, List.set_set])
    rw [show k0 + 4 * ((i + 1 : Nat) : Int) = k0 + 4 * (i : Int) + 1 + 1 + 1 + 1 by omega] at hin
    exact hin
theorem markStay_ev (xs : List S31) (k0 : Int) (h0 : 0 < k0) (h1 : k0 ≤ 1125899906842624) (hn : xs.length ≤ 140737488355328) : Ev (fun k => laws_markStayS.f k xs k0) (k0 + 4 * (xs.length : Int), ymarks k0 xs.length) := by
  have := markStay_l xs k0 h0 h1 hn xs.length 0 (by omega)
  simpa [laws_markStayS.f, ymarks] using this
/-! Rows of strings. -/
theorem eqStringS_l (xs : List ByteArray) (hn : xs.length ≤ 140737488355328) (d : Nat) : ∀ i : Nat, i + d = xs.length → Ev (fun k => laws_eqStringS.l0 k xs xs (i : Int)) true := by
  induction d with
  | zero =>
    intro i h
    refine ev_succ ?_
    simp only [laws_eqStringS.l0, if_neg (show ¬ ((i : Int) < (xs.length : Int)) by omega)]
    exact ev_now _
  | succ d ih =>
    intro i h
    refine ev_succ ?_
    simp only [laws_eqStringS.l0, if_pos (show ((i : Int) < (xs.length : Int)) by omega), if_pos (show (0 : Int) ≤ (i : Int) by omega), w64s i (by omega), if_true]
    exact ih (i + 1) (by omega)
theorem eqStringS_self (xs : List ByteArray) (hn : xs.length ≤ 140737488355328) : Ev (fun k => laws_eqStringS.f k xs xs) true := by
  simp only [laws_eqStringS.f, if_true]
  simpa using eqStringS_l xs hn xs.length 0 (by omega)
def smarks (k0 : Int) (n : Nat) : List ByteArray := (List.range n).map fun i : Nat => mtx (k0 + (i : Int))
theorem smarks_length (k0 : Int) (n : Nat) : (smarks k0 n).length = n := by simp [smarks]
theorem smarks_set {k0 : Int} {xs : List ByteArray} {i : Nat} (h : i < xs.length) : (smarks k0 i ++ xs.drop i).set i (mtx (k0 + (i : Int))) = smarks k0 (i + 1) ++ xs.drop (i + 1) := by
  rw [List.set_append, if_neg (by rw [smarks_length]; omega), smarks_length, Nat.sub_self, List.drop_eq_getElem_cons h, List.set_cons_zero]
  simp [smarks, List.range_succ]
theorem markString_l (xs : List ByteArray) (k0 : Int) (h0 : 0 < k0) (h1 : k0 ≤ 1125899906842624) (hn : xs.length ≤ 140737488355328) (d : Nat) : ∀ i : Nat, i + d = xs.length →
    Ev (fun k => laws_markStringS.l0 k (smarks k0 i ++ xs.drop i) (k0 + (i : Int)) (i : Int)) (k0 + (xs.length : Int), smarks k0 xs.length) := by
  induction d with
  | zero =>
    intro i h
    obtain rfl : i = xs.length := by omega
    refine ev_succ ?_
    have hl : (smarks k0 xs.length ++ xs.drop xs.length).length = xs.length := by rw [List.length_append, smarks_length, List.length_drop]; omega
    simp only [laws_markStringS.l0, hl, if_neg (show ¬ ((xs.length : Int) < (xs.length : Int)) by omega)]
    exact ev_some (by simp)
  | succ d ih =>
    intro i h
    have hi : i < xs.length := by omega
    have hl : (smarks k0 i ++ xs.drop i).length = xs.length := by rw [List.length_append, smarks_length, List.length_drop]; omega
    have hin := ih (i + 1) (by omega)
    refine ev_succ ?_
    simp only [laws_markStringS.l0, hl, if_pos (show ((i : Int) < (xs.length : Int)) by omega)]
    refine (markText_ev (k0 + (i : Int)) (by omega) (by omega)).bind ?_
    simp only [if_pos (show (0 : Int) ≤ (i : Int) by omega), w64s i (show i < 9223372036854775807 by omega), Int.toNat_natCast, w64 (n := k0 + (i : Int) + 1) (by omega) (by omega), smarks_set hi]
    rw [show k0 + ((i + 1 : Nat) : Int) = k0 + (i : Int) + 1 by omega] at hin
    exact hin
theorem markString_ev (xs : List ByteArray) (k0 : Int) (h0 : 0 < k0) (h1 : k0 ≤ 1125899906842624) (hn : xs.length ≤ 140737488355328) : Ev (fun k => laws_markStringS.f k xs k0) (k0 + (xs.length : Int), smarks k0 xs.length) := by
  have := markString_l xs k0 h0 h1 hn xs.length 0 (by omega)
  simpa [laws_markStringS.f, smarks] using this
theorem heldString_l (n : Nat) (k0 : Int) (h0 : 0 < k0) (h1 : k0 ≤ 1125899906842624) (hn : n ≤ 140737488355328) (d : Nat) : ∀ i : Nat, i + d = n →
    Ev (fun k => laws_heldStringS.l0 k (smarks k0 n) (k0 + (i : Int)) (i : Int)) (k0 + (n : Int)) := by
  induction d with
  | zero =>
    intro i h
    refine ev_succ ?_
    simp only [laws_heldStringS.l0, smarks_length, if_neg (show ¬ ((i : Int) < (n : Int)) by omega)]
    exact ev_some (by omega)
  | succ d ih =>
    intro i h
    have hr : rdOf ByteArray.empty (smarks k0 n) (i : Int) = mtx (k0 + (i : Int)) := by
      simp [rdOf, smarks, List.getD_eq_getElem?_getD, show i < n by omega]
    refine ev_succ ?_
    simp only [laws_heldStringS.l0, smarks_length, hr, if_pos (show ((i : Int) < (n : Int)) by omega), if_pos (show (0 : Int) ≤ (i : Int) by omega), w64s i (by omega), w64 (n := k0 + (i : Int) + 1) (by omega) (by omega)]
    refine (markText_ev (k0 + (i : Int)) (by omega) (by omega)).bind ?_
    simp only [if_true]
    have := ih (i + 1) (by omega)
    rw [show k0 + ((i + 1 : Nat) : Int) = k0 + (i : Int) + 1 by omega] at this
    exact this
theorem heldString_ev (n : Nat) (k0 : Int) (h0 : 0 < k0) (h1 : k0 ≤ 1125899906842624) (hn : n ≤ 140737488355328) : Ev (fun k => laws_heldStringS.f k (smarks k0 n) k0) (k0 + (n : Int)) := by
  have := heldString_l n k0 h0 h1 hn n 0 (by omega)
  simpa [laws_heldStringS.f] using this
theorem due_length (ls : List Lf) (ss : List St) : (dueF ls ss).1.length ≤ 30 := by
  unfold dueF
  split
  · rename_i h
    simp only [Bool.and_eq_true, decide_eq_true_eq] at h
    show (sortS (outL ls ss ss.length)).length ≤ 30
    rw [sortS_length]
    unfold outL
    rw [List.length_map]
    have := List.length_filter_le (dueB ls) (ss.take ss.length)
    rw [List.length_take] at this
    omega
  · exact Nat.zero_le _
theorem FnExactDue6 (l0 : List (S23)) (l1 : List (S24)) (g0 : (l0.length * 40 ≤ 140737488351232 ∧ ∀ x ∈ l0, (x.f0.size ≤ 140737488351232 ∧ (Lit.int .i64 x.f1).wf = true ∧ (Lit.int .i64 x.f2).wf = true ∧ (Lit.int .i64 x.f3).wf = true))) (g1 : (l1.length * 40 ≤ 140737488351232 ∧ ∀ x ∈ l1, (x.f0.size ≤ 140737488351232 ∧ (Lit.int .i64 x.f1).wf = true ∧ (Lit.int .i64 x.f2).wf = true ∧ (Lit.int .i64 x.f3).wf = true))) : ∃ k, laws_FnExactDue6.f k l0 l1 = some true := by
  obtain ⟨h0, hx0⟩ := g0
  obtain ⟨h1, hx1⟩ := g1
  have hlx : ∀ x ∈ l0, wLife x ≤ 140737488355328 := fun x hx => by have := (hx0 x hx).1; unfold wLife; omega
  have hsx : ∀ x ∈ l1, wStay x ≤ 140737488355328 := fun x hx => by have := (hx1 x hx).1; unfold wStay; omega
  have ml : ∀ x ∈ l0.map convLife, x.f0.size ≤ 140737488355328 := by
    intro x h
    obtain ⟨y, hy, rfl⟩ := List.mem_map.1 h
    exact hlx y hy
  have ms : ∀ x ∈ l1.map convStay, x.f0.size ≤ 140737488355328 := by
    intro x h
    obtain ⟨y, hy, rfl⟩ := List.mem_map.1 h
    exact hsx y hy
  have ll : (l0.map convLife).length ≤ 7036874417766 := by rw [List.length_map]; omega
  have ls : (l1.map convStay).length ≤ 7036874417766 := by rw [List.length_map]; omega
  refine Ev.rounds ?_
  simp only [laws_FnExactDue6.f]
  obtain ⟨z1, e1, hz1⟩ := szLifeS_ev l0 1048576 (by omega) (by omega) (by omega) hlx
  refine e1.bind ?_
  rcases hz1 with hz1 | hz1
  · simp only [if_pos hz1]
    exact ev_now _
  simp only [if_neg (show ¬ z1 < 0 by omega)]
  obtain ⟨z2, e2, hz2⟩ := szStayS_ev l1 z1 hz1.1 (by omega) (by omega) hsx
  refine e2.bind ?_
  rcases hz2 with hz2 | hz2
  · simp only [if_pos hz2]
    exact ev_now _
  simp only [if_neg (show ¬ z2 < 0 by omega)]
  have tl := toLifeS_ev l0 (by omega)
  have ts := toStayS_ev l1 (by omega)
  have hd := due_length (l0.map convLife) (l1.map convStay)
  have hi : impl_Due6.f (l0.map convLife) (l1.map convStay) = some (dueF (l0.map convLife) (l1.map convStay)) := by
    unfold impl_Due6.f
    rw [if_pos]
    simp only [Bool.and_eq_true, List.all_eq_true, decide_eq_true_eq]
    exact ⟨ml, ms⟩
  have hp := spec_Due6_ev (l0.map convLife) (l1.map convStay) ml ms
  refine tl.bind ?_
  refine ts.bind ?_
  refine hp.bind ?_
  refine tl.bind ?_
  refine ts.bind ?_
  simp only [hi, Option.bind_some]
  generalize dueF (l0.map convLife) (l1.map convStay) = R at hd hi ⊢
  obtain ⟨out, ok⟩ := R
  dsimp only at hd
  have eo := eqStringS_self out (by omega)
  refine eo.bind ?_
  simp only [if_true, bne_self_eq_false]
  refine ev_succ ?_
  simp only [laws_FnExactDue6.j0, Bool.false_eq_true, if_false]
  refine tl.bind ?_
  refine (eqLifeS_self _ (by omega)).bind ?_
  simp only [if_true]
  refine ts.bind ?_
  refine (eqStayS_self _ (by omega)).bind ?_
  simp only [if_true]
  refine (markLife_ev (l0.map convLife) 1 (by omega) (by omega) (by omega)).bind ?_
  dsimp only
  refine (markStay_ev (l1.map convStay) _ (by omega) (by omega) (by omega)).bind ?_
  dsimp only
  simp only [if_neg (show ¬ (1 + 4 * ((l0.map convLife).length : Int) + 4 * ((l1.map convStay).length : Int)) < 0 by omega)]
  refine eo.bind ?_
  simp only [if_true, bne_self_eq_false]
  refine ev_succ ?_
  simp only [laws_FnExactDue6.j1, Bool.false_eq_true, if_false]
  refine (markString_ev out 1 (by omega) (by omega) (by omega)).bind ?_
  dsimp only
  have hh := heldString_ev out.length 1 (by omega) (by omega) (by omega)
  refine hh.bind ?_
  simp only [if_neg (show ¬ (1 + (out.length : Int)) < 0 by omega), if_true]
  refine tl.bind ?_
  refine ts.bind ?_
  simp only [hi, Option.bind_some]
  refine eo.bind ?_
  simp only [if_true, bne_self_eq_false]
  refine ev_succ ?_
  simp only [laws_FnExactDue6.j2, Bool.false_eq_true, if_false]
  refine hh.bind ?_
  simp only [if_neg (show ¬ (1 + (out.length : Int)) < 0 by omega), if_true]
  exact ev_now _
end Go.Proofs.Ytfhielgfgmcdiaa.Pure
