/- The program's Seal answers as the reference's at every argument. No condition. -/
import Derived.Test.YtlpcogichompoaaPFnExactSealx4
import Derived.Test.YtlpcogichompoaaBase
set_option linter.unusedVariables false
set_option linter.unusedSimpArgs false
namespace Go.Proofs.Ytlpcogichompoaa.Pure
open Go.RowKit Go.Proofs.Ytlpcogichompoaa.PFnExactSeal Go.Proofs.Ytlpcogichompoaa.Base Go.Proofs.YtlpcogichompoaaW.PrintWords Go.Proofs.YtlpcogichompoaaW.PrintLast
theorem impl_in_eq (a b c : Int) : impl_in.f a b c = some (inB a b c) := in_form a b c
theorem spec_in_eq (a b c : Int) : spec_l1In.f a b c = some (inB a b c) := in_form a b c
/-! The helpers of the laws over ByteS. -/
theorem szByteS_eq (xs : List Int) (left : Int) (h0 : 0 ≤ left) (h1 : left ≤ 1048576) (hn : xs.length ≤ 140737488355328) : laws_szByteS.f xs left = some (if left - (xs.length : Int) < 0 then -1 else left - (xs.length : Int)) := by
  unfold laws_szByteS.f
  rw [w64 (by omega) (by omega)]
  split <;> rfl
theorem toByteS_l (xs : List Int) (hn : xs.length ≤ 140737488355328) (d : Nat) : ∀ i : Nat, i + d = xs.length →
    Ev (fun k => laws_toByteS.l0 k xs (xs.take i ++ List.replicate (xs.length - i) 0) (i : Int)) xs := by
  induction d with
  | zero =>
    intro i h
    refine ev_succ ?_
    simp only [laws_toByteS.l0, if_neg (show ¬ ((i : Int) < (xs.length : Int)) by omega)]
    exact ev_some (by rw [List.take_of_length_le (by omega), show xs.length - i = 0 by omega]; simp)
  | succ d ih =>
    intro i h
    refine ev_succ ?_
    have hl : ((xs.take i ++ List.replicate (xs.length - i) (0 : Int)).length : Int) = (xs.length : Int) := by simp; omega
    simp only [laws_toByteS.l0, if_pos (show ((i : Int) < (xs.length : Int)) by omega), if_pos (show (0 : Int) ≤ (i : Int) by omega), hl, w64s i (by omega), Int.toNat_natCast, take_set (show i < xs.length by omega)]
    exact ih (i + 1) (by omega)
theorem toByteS_ev (xs : List Int) (hn : xs.length ≤ 140737488355328) : Ev (fun k => laws_toByteS.f k xs) xs := by
  simp only [laws_toByteS.f, if_pos (show (0 : Int) ≤ (xs.length : Int) by omega), Int.toNat_natCast, if_pos (show xs.length ≤ 281474976710656 by omega)]
  simpa using toByteS_l xs hn xs.length 0 (by omega)
theorem eqByteS_l (xs ys : List Int) (hn : xs.length ≤ 140737488355328) (hl : ys.length = xs.length) (d : Nat) : ∀ i : Nat, i + d = xs.length →
    Ev (fun k => laws_eqByteS.l0 k xs ys (i : Int)) (decide (xs.drop i = ys.drop i)) := by
  induction d with
  | zero =>
    intro i h
    refine ev_succ ?_
    simp only [laws_eqByteS.l0, if_neg (show ¬ ((i : Int) < (xs.length : Int)) by omega)]
    exact ev_some (by rw [List.drop_of_length_le (by omega), List.drop_of_length_le (by omega)]; rfl)
  | succ d ih =>
    intro i h
    refine ev_succ ?_
    simp only [laws_eqByteS.l0, if_pos (show ((i : Int) < (xs.length : Int)) by omega), if_pos (show (0 : Int) ≤ (i : Int) by omega), hl, w64s i (by omega)]
    rw [drop_rd (show i < xs.length by omega), drop_rd (show i < ys.length by omega)]
    by_cases e : rd xs (i : Int) = rd ys (i : Int)
    · simp only [if_pos e]
      simpa [e] using ih (i + 1) (by omega)
    · simp only [if_neg e]
      exact ev_some (by simp [e])
theorem eqByteS_ev (xs ys : List Int) (hn : xs.length ≤ 140737488355328) : Ev (fun k => laws_eqByteS.f k xs ys) (decide (xs = ys)) := by
  unfold laws_eqByteS.f
  by_cases hl : ys.length = xs.length
  · simp only [if_pos (show (xs.length : Int) = (ys.length : Int) by omega)]
    simpa using eqByteS_l xs ys hn hl xs.length 0 (by omega)
  · simp only [if_neg (show ¬ (xs.length : Int) = (ys.length : Int) by omega)]
    exact ev_some (by
      have : ¬ xs = ys := fun e => hl (by rw [e])
      simp [this])
theorem eqByteS_self (xs : List Int) (hn : xs.length ≤ 140737488355328) : Ev (fun k => laws_eqByteS.f k xs xs) true := by simpa using eqByteS_ev xs xs hn
/-! Names: 1 to 20 letters, digits and dashes. -/
def Alnum (c : Int) : Prop := (97 ≤ c ∧ c ≤ 122) ∨ (65 ≤ c ∧ c ≤ 90) ∨ (48 ≤ c ∧ c ≤ 57)
instance (c : Int) : Decidable (Alnum c) := by unfold Alnum; exact inferInstance
def charB (c : Int) : Bool := decide (Alnum c) || (c == 45)
def charsB (s : ByteArray) : Nat → Nat → Bool
  | 0, _ => true
  | d + 1, i => charB (bt s (i : Int)) && charsB s d (i + 1)
def nameB (s : ByteArray) : Bool := charsB s s.size 0 && inB (s.size : Int) 1 20
theorem impl_isName_l (s : ByteArray) (hn : s.size ≤ 140737488355328) (d : Nat) : ∀ i : Nat, i + d = s.size → Ev (fun k => impl_isName.l0 k s (s.size : Int) (i : Int)) (charsB s d i && inB (s.size : Int) 1 20) := by
  induction d with
  | zero =>
    intro i h
    refine ev_succ ?_
    simp only [impl_isName.l0, if_neg (show ¬ ((i : Int) < (s.size : Int)) by omega), impl_in_eq, Option.bind_some, charsB, Bool.true_and]
    exact ev_now _
  | succ d ih =>
    intro i h
    have hi := ih (i + 1) (by omega)
    refine ev_succ ?_
    simp only [impl_isName.l0, if_pos (show ((i : Int) < (s.size : Int)) by omega), if_pos (show (0 : Int) ≤ (i : Int) by omega)]
    unfold charsB
    generalize bt s (i : Int) = c
    refine Ev.congr (f := fun k => impl_isName.j1 k s (s.size : Int) (i : Int) (!charB c)) (fun k => ?_) ?_
    · by_cases hc : Alnum c
      · rw [show charB c = true by simp [charB, hc]]
        unfold Alnum at hc
        repeat' split
        all_goals first | rfl | (exfalso; omega)
      · rw [show charB c = (c == 45) by simp [charB, hc]]
        unfold Alnum at hc
        repeat' split
        all_goals first | rfl | (exfalso; omega)
    · refine ev_succ ?_
      cases charB c with
      | true => simpa only [impl_isName.j1, Bool.not_true, Bool.false_eq_true, if_false, w64s i (show i < 9223372036854775807 by omega), Bool.true_and] using hi
      | false => simpa only [impl_isName.j1, Bool.not_false, if_true, Bool.false_and] using ev_now false
theorem impl_isName_ev (s : ByteArray) (hn : s.size ≤ 140737488355328) : Ev (fun k => impl_isName.f k s) (nameB s) := by
  simpa [impl_isName.f, nameB] using impl_isName_l s hn s.size 0 (by omega)
theorem spec_l1Name_l (s : ByteArray) (hn : s.size ≤ 140737488355328) (d : Nat) : ∀ i : Nat, i + d = s.size → Ev (fun k => spec_l1Name.l0 k s (i : Int)) (charsB s d i && inB (s.size : Int) 1 20) := by
  induction d with
  | zero =>
    intro i h
    refine ev_succ ?_
    simp only [spec_l1Name.l0, if_neg (show ¬ ((i : Int) < (s.size : Int)) by omega), spec_in_eq, Option.bind_some, charsB, Bool.true_and]
    exact ev_now _
  | succ d ih =>
    intro i h
    have hi := ih (i + 1) (by omega)
    refine ev_succ ?_
    have hb := bt_range s (i : Int)
    simp only [spec_l1Name.l0, if_pos (show ((i : Int) < (s.size : Int)) by omega), if_pos (show (0 : Int) ≤ (i : Int) by omega), spec_in_eq, Option.bind_some, w64 (show -9223372036854775808 ≤ bt s (i : Int) by omega) (show bt s (i : Int) ≤ 9223372036854775807 by omega)]
    unfold charsB
    generalize bt s (i : Int) = c
    refine Ev.congr (f := fun k => spec_l1Name.j1 k s (i : Int) (!charB c)) (fun k => ?_) ?_
    · by_cases hc : Alnum c
      · rw [show charB c = true by simp [charB, hc]]
        unfold Alnum at hc
        repeat' split
        all_goals first | rfl | (rename_i a1 a2 a3; rw [inB_iff] at a1 a2 a3; exfalso; omega)
      · rw [show charB c = (c == 45) by simp [charB, hc]]
        unfold Alnum at hc
        have n1 : inB c 97 122 = false := by rw [Bool.eq_false_iff, ne_eq, inB_iff]; omega
        have n2 : inB c 65 90 = false := by rw [Bool.eq_false_iff, ne_eq, inB_iff]; omega
        have n3 : inB c 48 57 = false := by rw [Bool.eq_false_iff, ne_eq, inB_iff]; omega
        simp only [n1, n2, n3, Bool.false_eq_true, if_false]
        rfl
    · refine ev_succ ?_
      cases charB c with
      | true => simpa only [spec_l1Name.j1, Bool.not_true, Bool.false_eq_true, if_false, w64s i (show i < 9223372036854775807 by omega), Bool.true_and] using hi
      | false => simpa only [spec_l1Name.j1, Bool.not_false, if_true, Bool.false_and] using ev_now false
theorem spec_l1Name_ev (s : ByteArray) (hn : s.size ≤ 140737488355328) : Ev (fun k => spec_l1Name.f k s) (nameB s) := by
  simpa [spec_l1Name.f, nameB] using spec_l1Name_l s hn s.size 0 (by omega)
/-! A load. -/
def loadB (n : ByteArray) (a b c d : Int) (m : Int) : Bool := nameB n && (inB a 1 1000000 && (inB b 1 c && (decide (c ≤ 1000000) && (inB d 0 1000000 && decide (m ≤ 400)))))
theorem spec_LoadOk_ev (n : ByteArray) (hn : n.size ≤ 140737488355328) (a b c d : Int) (xs : List Int) : Ev (fun k => spec_LoadOk.f k n a b c d xs) (loadB n a b c d xs.length) := by
  simp only [spec_LoadOk.f, spec_in_eq, Option.bind_some]
  refine (spec_l1Name_ev n hn).bind ?_
  unfold loadB
  cases nameB n with
  | false => simpa using ev_now _
  | true =>
    cases inB a 1 1000000 with
    | false => simpa using ev_now _
    | true =>
      cases inB b 1 c with
      | false => simpa using ev_now _
      | true =>
        simp only [if_true, Bool.true_and]
        by_cases h : c ≤ 1000000
        · simp only [if_pos h, h, decide_true, Bool.true_and]
          cases inB d 0 1000000 <;> simpa using ev_now _
        · simpa only [h, if_false, decide_false, Bool.false_and] using ev_now _
theorem impl_LoadOk_ev (n : ByteArray) (hn : n.size ≤ 140737488355328) (a b c d : Int) (xs : List Int) : Ev (fun k => impl_LoadOk.f k n a b c d xs) (loadB n a b c d xs.length) := by
  simp only [impl_LoadOk.f, impl_in_eq, Option.bind_some]
  have hbc : (inB b 1 1000000 && inB c b 1000000) = (inB b 1 c && decide (c ≤ 1000000)) := by
    rw [Bool.eq_iff_iff]
    simp only [Bool.and_eq_true, inB_iff, decide_eq_true_eq]
    omega
  have hl : loadB n a b c d xs.length = (nameB n && (inB a 1 1000000 && ((inB b 1 1000000 && inB c b 1000000) && (inB d 0 1000000 && decide ((xs.length : Int) ≤ 400))))) := by
    rw [hbc]
    simp only [loadB, Bool.and_assoc]
  rw [hl]
  cases inB b 1 1000000 with
  | false =>
    simp only [Bool.false_eq_true, if_false]
    refine (impl_isName_ev n hn).bind ?_
    cases nameB n <;> cases inB a 1 1000000 <;> simpa using ev_now _
  | true =>
    simp only [if_true]
    refine (impl_isName_ev n hn).bind ?_
    cases nameB n <;> cases inB a 1 1000000 <;> cases inB c b 1000000 <;> cases inB d 0 1000000 <;> simpa using ev_now _
theorem toLoad18_ev (n : ByteArray) (a b c d : Int) (xs : List Int) (hn : xs.length ≤ 140737488355328) : Ev (fun k => laws_toLoad18.f k n a b c d xs) (n, a, b, c, d, xs) := by
  simp only [laws_toLoad18.f, laws_toFits.f, Option.bind_some]
  exact (toByteS_ev xs hn).bind (f := fun _ t => some (n, a, b, c, d, t)) (ev_now _)
theorem eqLoad18_self (n : ByteArray) (a b c d : Int) (xs : List Int) (hn : xs.length ≤ 140737488355328) : Ev (fun k => laws_eqLoad18.f k n a b c d xs n a b c d xs) true := by
  simp only [laws_eqLoad18.f, laws_eqFits.f, if_true, Option.bind_some]
  exact (eqByteS_self xs hn).bind (f := fun _ t => if t = true then some true else some false) (ev_now _)
theorem szLoad18_eq (n : ByteArray) (a b c d : Int) (xs : List Int) (hs : n.size ≤ 140737488355328) (hn : xs.length ≤ 140737488355328) : ∃ v, laws_szLoad18.f n a b c d xs 1048576 = some v := by
  simp only [laws_szLoad18.f]
  rw [w64 (by omega) (by omega)]
  by_cases h : (1048576 : Int) - (n.size : Int) < 0
  · exact ⟨-1, by rw [if_pos h]⟩
  · rw [if_neg h, szByteS_eq xs _ (by omega) (by omega) hn, Option.bind_some]
    split <;> exact ⟨_, rfl⟩
/-! Seals. -/
def chars (s : ByteArray) : List Int := s.data.toList.map fun b => (b.toNat : Int)
theorem chars_length (s : ByteArray) : (chars s).length = s.size := by simp [chars]
theorem chars_drop {s : ByteArray} {i : Nat} (h : i < s.size) : (chars s).drop i = bt s (i : Int) :: (chars s).drop (i + 1) := by
  rw [List.drop_eq_getElem_cons (by rw [chars_length]; exact h)]
  congr 1
  simp only [chars, List.getElem_map, bt, Int.toNat_natCast, dif_pos h]
  rfl
theorem sealB_chars (x : Int) (s : ByteArray) : sealB x s.data.toList = sealL x (chars s) := by
  simp only [sealB, sealL, chars, List.foldl_map]
theorem sealL_append (x : Int) (l m : List Int) : sealL x (l ++ m) = sealL (sealL x l) m := by simp [sealL]
def sealOf (n : ByteArray) (a b c d : Int) (xs : List Int) : Int := sealL 7 (chars n ++ ([a, b, c, d, (xs.length : Int)] ++ xs.map wrap64))
theorem spec_Seal_l2 (xs : List Int) (hx : xs.length ≤ 1000000) (d : Nat) : ∀ (i : Nat) (x : Int), i + d = xs.length → Ev (fun k => spec_Seal.l2 k xs x (i : Int)) (sealL x (xs.drop i), true) := by
  induction d with
  | zero =>
    intro i x h
    refine ev_succ ?_
    simp only [spec_Seal.l2, if_neg (show ¬ ((i : Int) < (xs.length : Int)) by omega), List.drop_of_length_le (show xs.length ≤ i by omega)]
    exact ev_now _
  | succ d ih =>
    intro i x h
    refine ev_succ ?_
    have hi := ih (i + 1) (sealStep x (rd xs (i : Int))) (by omega)
    rw [drop_rd (show i < xs.length by omega)]
    simpa only [spec_Seal.l2, if_pos (show ((i : Int) < (xs.length : Int)) by omega), if_pos (show (0 : Int) ≤ (i : Int) by omega), w64s i (show i < 9223372036854775807 by omega), sealL, List.foldl_cons, sealStep] using hi
theorem spec_Seal_l1 (n : ByteArray) (a b c e : Int) (ds : List Int) (d : Nat) : ∀ (i : Nat) (xs : List Int), i + d = ds.length → xs.length + d ≤ 1000000 → ds.length ≤ 1000000 → Ev (fun k => spec_Seal.l1 k xs (i : Int) n a b c e ds) (sealL 7 (xs ++ (ds.drop i).map wrap64), true) := by
  induction d with
  | zero =>
    intro i xs h hx hd
    refine ev_succ ?_
    simp only [spec_Seal.l1, if_neg (show ¬ ((i : Int) < (ds.length : Int)) by omega), List.drop_of_length_le (show ds.length ≤ i by omega), List.map_nil, List.append_nil]
    exact spec_Seal_l2 xs (by omega) xs.length 0 7 (by omega)
  | succ d ih =>
    intro i xs h hx hd
    refine ev_succ ?_
    have hi := ih (i + 1) (xs ++ [wrap64 (rd ds (i : Int))]) (by omega) (by simp; omega) hd
    rw [drop_rd (show i < ds.length by omega)]
    simpa only [spec_Seal.l1, if_pos (show ((i : Int) < (ds.length : Int)) by omega), if_pos (show (0 : Int) ≤ (i : Int) by omega), if_pos (show xs.length < 17592186044416 by omega), w64s i (show i < 9223372036854775807 by omega), List.map_cons, List.append_assoc, List.cons_append, List.nil_append] using hi
theorem spec_Seal_l0 (n : ByteArray) (a b c e : Int) (ds : List Int) (d : Nat) : ∀ (i : Nat) (xs : List Int), i + d = n.size → xs.length + d + 5 + ds.length ≤ 1000000 → n.size ≤ 1000000 → Ev (fun k => spec_Seal.l0 k xs (i : Int) n a b c e ds) (sealL 7 (xs ++ ((chars n).drop i ++ ([a, b, c, e, (ds.length : Int)] ++ ds.map wrap64))), true) := by
  induction d with
  | zero =>
    intro i xs h hx hn
    refine ev_succ ?_
    have := spec_Seal_l1 n a b c e ds ds.length 0 (xs ++ [a, b, c, e, (ds.length : Int)]) (by omega) (by simp; omega) (by omega)
    simpa only [Int.natCast_zero, spec_Seal.l0, if_neg (show ¬ ((i : Int) < (n.size : Int)) by omega), List.drop_of_length_le (show (chars n).length ≤ i by rw [chars_length]; omega), List.nil_append, Option.bind_some, if_pos (show xs.length + [a, b, c, e, (ds.length : Int)].length < 17592186044416 by simp; omega), List.drop_zero, List.append_assoc] using this
  | succ d ih =>
    intro i xs h hx hn
    refine ev_succ ?_
    have hb := bt_range n (i : Int)
    have hi := ih (i + 1) (xs ++ [bt n (i : Int)]) (by omega) (by simp; omega) hn
    rw [chars_drop (show i < n.size by omega)]
    simpa only [spec_Seal.l0, if_pos (show ((i : Int) < (n.size : Int)) by omega), if_pos (show (0 : Int) ≤ (i : Int) by omega), if_pos (show xs.length < 17592186044416 by omega), w64s i (show i < 9223372036854775807 by omega), w64 (show -9223372036854775808 ≤ bt n (i : Int) by omega) (show bt n (i : Int) ≤ 9223372036854775807 by omega), List.append_assoc, List.cons_append, List.nil_append] using hi
theorem loadB_size {n : ByteArray} {a b c d m : Int} (h : loadB n a b c d m = true) : n.size ≤ 20 ∧ m ≤ 400 := by
  simp only [loadB, nameB, Bool.and_eq_true, decide_eq_true_eq, inB_iff] at h
  omega
theorem spec_Seal_ev (n : ByteArray) (hn : n.size ≤ 140737488355328) (a b c d : Int) (xs : List Int) : Ev (fun k => spec_Seal.f k n a b c d xs) (if loadB n a b c d xs.length = true then (sealOf n a b c d xs, true) else (0, false)) := by
  refine (spec_LoadOk_ev n hn a b c d xs).bind ?_
  by_cases h : loadB n a b c d xs.length = true
  · have hz := loadB_size h
    simp only [if_pos h]
    simpa [sealOf] using spec_Seal_l0 n a b c d xs n.size 0 [] (by omega) (by simp; omega) (by omega)
  · simp only [if_neg h]
    exact ev_now _
theorem impl_seal_is (n : ByteArray) (a b c d : Int) (xs : List Int) (hn : n.size ≤ 1000000) (hx : xs.length ≤ 1000000) : impl_seal.f n a b c d xs = some (sealOf n a b c d xs) := by
  simp only [impl_seal.f, if_pos (show (n.size : Int) ≤ 1152921504606846976 by omega), if_pos (show (xs.length : Int) ≤ 1152921504606846976 by omega), sealOf, sealL_append, sealB_chars]
theorem impl_Seal_ev (n : ByteArray) (hn : n.size ≤ 140737488355328) (a b c d : Int) (xs : List Int) : Ev (fun k => impl_Seal.f k n a b c d xs) (if loadB n a b c d xs.length = true then (sealOf n a b c d xs, true) else (0, false)) := by
  refine (impl_LoadOk_ev n hn a b c d xs).bind ?_
  by_cases h : loadB n a b c d xs.length = true
  · have hz := loadB_size h
    simp only [if_pos h, impl_seal_is n a b c d xs (by omega) (by omega), Option.bind_some]
    exact ev_now _
  · simp only [if_neg h]
    exact ev_now _
theorem FnExactSeal (a0_0 : ByteArray) (a0_1 : Int) (a0_2 : Int) (a0_3 : Int) (a0_4 : Int) (l0_5 : List (Int)) (g0 : (a0_0.size ≤ 140737488351232 ∧ (Lit.int .i64 a0_1).wf = true ∧ ((Lit.int .i64 a0_2).wf = true ∧ (Lit.int .i64 a0_3).wf = true) ∧ (Lit.int .i64 a0_4).wf = true ∧ (l0_5.length * 1 ≤ 140737488351232 ∧ ∀ x ∈ l0_5, (Lit.int .u8 x).wf = true))) : ∃ k, laws_FnExactSeal.f k a0_0 a0_1 a0_2 a0_3 a0_4 l0_5 = some true := by
  have hs : a0_0.size ≤ 140737488355328 := by omega
  have hn : l0_5.length ≤ 140737488355328 := by omega
  refine Ev.rounds ?_
  obtain ⟨v, hv⟩ := szLoad18_eq a0_0 a0_1 a0_2 a0_3 a0_4 l0_5 hs hn
  simp only [laws_FnExactSeal.f, hv, Option.bind_some]
  by_cases h : v < 0
  · simp only [if_pos h]
    exact ev_now _
  · simp only [if_neg h]
    refine (toLoad18_ev a0_0 a0_1 a0_2 a0_3 a0_4 l0_5 hn).bind ?_
    refine (spec_Seal_ev a0_0 hs a0_1 a0_2 a0_3 a0_4 l0_5).bind ?_
    refine (toLoad18_ev a0_0 a0_1 a0_2 a0_3 a0_4 l0_5 hn).bind ?_
    refine (impl_Seal_ev a0_0 hs a0_1 a0_2 a0_3 a0_4 l0_5).bind ?_
    simp only [if_pos, bne_self_eq_false]
    refine ev_succ ?_
    simp only [laws_FnExactSeal.j0, Bool.false_eq_true, if_false]
    refine (toLoad18_ev a0_0 a0_1 a0_2 a0_3 a0_4 l0_5 hn).bind ?_
    exact (eqLoad18_self a0_0 a0_1 a0_2 a0_3 a0_4 l0_5 hn).bind (f := fun _ t => if t = true then some true else some false) (ev_now _)
end Go.Proofs.Ytlpcogichompoaa.Pure
