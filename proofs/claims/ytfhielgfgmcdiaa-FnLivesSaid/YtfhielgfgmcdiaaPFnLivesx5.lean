-- Written by a program of this session (wip/xprint.py) out of the translation; Lean checks it.
import Derived.Test.YtfhielgfgmcdiaaPFnLivesx0
import Derived.Test.YtfhielgfgmcdiaaPFnLivesx1
import Derived.Test.YtfhielgfgmcdiaaPFnLivesx2
import Derived.Test.YtfhielgfgmcdiaaPFnLivesx3
import Derived.Test.YtfhielgfgmcdiaaPFnLivesx4
namespace Go.Proofs.Ytfhielgfgmcdiaa.PFnLives
open Go.RowKit Go.Proofs.YtfhielgfgmcdiaaW.PrintWords Go.Proofs.YtfhielgfgmcdiaaW.PrintLast Go.Proofs.YtfhielgfgmcdiaaW.PrintMore Go.Proofs.Ytfhielgfgmcdiaa.Sq
attribute [local go_sem] max2_int min2_int max_two min_two max_three min_three max_four min_four   -- for this text's walks alone
set_option linter.unusedVariables false
set_option linter.unusedSimpArgs false

/-! ### laws_FnLives: function 4 (by hand) -/
-- HAND FROM
open Go.Proofs.Ytfhielgfgmcdiaa.Base
/-! ### laws.FnLives (by hand) -/
theorem at_ev (l : List Int) (hw : ∀ x ∈ l, 0 ≤ x ∧ x ≤ 255) (hn : l.length ≤ 1048576) (i : Int) (h0 : 0 ≤ i) (h1 : i ≤ 1000) : ∃ v, laws_at.f l i = some v ∧ 0 ≤ v ∧ v ≤ 255 := by
  unfold laws_at.f
  by_cases h : i < (l.length : Int)
  · have := hw _ (rd_mem h0 h)
    refine ⟨rd l i, ?_, this.1, this.2⟩
    rw [if_pos h, if_pos h0, w64 (by omega) (by omega)]
  · refine ⟨_, by rw [if_neg h], ?_, ?_⟩
    · rw [w64 (n := i * 7) (by omega) (by omega), w64 (by omega) (by omega)]
      have := Int.tmod_nonneg 256 (show 0 ≤ i * 7 + (l.length : Int) by omega)
      omega
    · rw [w64 (n := i * 7) (by omega) (by omega), w64 (by omega) (by omega)]
      have := Int.tmod_lt_of_pos (i * 7 + (l.length : Int)) (show (0 : Int) < 256 by omega)
      omega
def pick6 (X Y : List Int) (i b : Int) : Bool := decide (rd X i > 0) && (decide (b < 0) || decide (wrap64 (rd Y i * rd X b) > wrap64 (rd Y b * rd X i)))
def left6From (X Y : List Int) : Nat → Nat → Int → Int × Int × Bool
  | 0, _, b => if b < 0 then (-1, 0, false) else (b, wrap64 (rd X b - rd Y b), true)
  | d + 1, i, b => left6From X Y d (i + 1) (if pick6 X Y i b = true then (i : Int) else b)
theorem impl_Left6_l (X Y : List Int) (hx : X.length = 3) (hy : Y.length = 3) (d : Nat) : ∀ (i : Nat) (b : Int), i + d = 3 → b < (i : Int) → Ev (fun k => impl_Left6.l0 k b X Y X 3 (i : Int)) (left6From X Y d i b) := by
  induction d with
  | zero =>
    intro i b h hb
    refine ev_succ ?_
    simp only [impl_Left6.l0, if_neg (show ¬ ((i : Int) < 3) by omega), hx, hy, left6From]
    by_cases h0 : b < 0
    · simpa only [if_pos h0] using ev_now _
    · simpa only [if_neg h0, if_pos (show 0 ≤ b by omega), if_pos (show b < ((3 : Nat) : Int) by omega)] using ev_now _
  | succ d ih =>
    intro i b h hb
    have hj : ∀ t : Bool, Ev (fun k => impl_Left6.j2 k b X Y (i : Int) X 3 (i : Int) t) (left6From X Y d (i + 1) (if t = true then (i : Int) else b)) := by
      intro t
      refine ev_succ ?_
      cases t with
      | true => simpa only [impl_Left6.j2, if_true, w64s i (by omega)] using ih (i + 1) (i : Int) (by omega) (by omega)
      | false => simpa only [impl_Left6.j2, Bool.false_eq_true, if_false, w64s i (by omega)] using ih (i + 1) b (by omega) (by omega)
    refine ev_succ ?_
    simp only [impl_Left6.l0, if_pos (show ((i : Int) < 3) by omega), if_pos (show (0 : Int) ≤ (i : Int) by omega), hx, hy, if_pos (show (i : Int) < ((3 : Nat) : Int) by omega), left6From]
    by_cases h1 : rd X (i : Int) > 0
    · by_cases h2 : b < 0
      · simpa only [if_true, if_false, Bool.false_eq_true, pick6, h1, h2, decide_true, Bool.true_or, Bool.and_self] using hj true
      · simpa only [if_true, if_false, Bool.false_eq_true, pick6, h1, h2, decide_true, decide_false, Bool.false_or, Bool.true_and, if_pos (show 0 ≤ b by omega), if_pos (show b < ((3 : Nat) : Int) by omega)] using hj _
    · simpa only [if_true, if_false, Bool.false_eq_true, pick6, h1, decide_false, Bool.false_and] using hj false
def left6 (n : ByteArray) (a b c : Int) (m : ByteArray) (p q r : Int) : Int × Int × Bool :=
  if (life6 n a b c && (stay6 m p q r && !(n.toList != m.toList))) = true then left6From [a, b, c] [p, q, r] 3 0 (-1) else (-1, 0, false)
theorem impl_Left6_ev (n : ByteArray) (hn : n.size ≤ 140737488355328) (a b c : Int) (m : ByteArray) (hm : m.size ≤ 140737488355328) (p q r : Int) : Ev (fun k => impl_Left6.f k n a b c m p q r) (left6 n a b c m p q r) := by
  simp only [impl_Left6.f]
  refine (impl_lifeOk_ev n hn a b c).bind ?_
  have ht : Ev (fun k => impl_Left6.j0 k true n a b c m p q r) (-1, 0, false) := by
    refine ev_succ ?_
    simpa only [impl_Left6.j0, if_true] using ev_now _
  unfold left6
  cases life6 n a b c with
  | false => simpa using ht
  | true =>
    simp only [if_true, Bool.true_and]
    refine (impl_stayOk_ev m hm p q r).bind ?_
    cases stay6 m p q r with
    | false => simpa using ht
    | true =>
      simp only [if_true, Bool.true_and]
      cases n.toList != m.toList with
      | true => simpa using ht
      | false =>
        simp only [Bool.not_false, if_true]
        refine ev_succ ?_
        simp only [impl_Left6.j0, Bool.false_eq_true, if_false, impl_Life_numbers.f, impl_Stay_numbers.f, Option.bind_some]
        exact impl_Left6_l [a, b, c] [p, q, r] rfl rfl 3 0 (-1) (by omega) (by omega)
abbrev pump : ByteArray := ⟨#[112, 117, 109, 112]⟩
abbrev fan : ByteArray := ⟨#[102, 97, 110]⟩
theorem pump_name : nameB pump = true := by decide +kernel
theorem fan_name : nameB fan = true := by decide +kernel
theorem inB_mk {a b c : Int} (h1 : b ≤ a) (h2 : a ≤ c) : inB a b c = true := by rw [inB_iff]; exact ⟨h1, h2⟩
theorem left_val {a b c d : Int} (a0 : 0 ≤ a) (a1 : a ≤ 255) (b0 : 0 ≤ b) (b1 : b ≤ 255) (c0 : 0 ≤ c) (c1 : c ≤ 255) (d0 : 0 ≤ d) (d1 : d ≤ 255) :
    left6 pump (1 + a) (1 + b) 0 pump c d 0 = if d * (1 + a) > c * (1 + b) then (1, 1 + b - d, true) else (0, 1 + a - c, true) := by
  have m1 : d * (1 + a) ≤ 255 * 256 := by
    refine Int.le_trans (Int.mul_le_mul_of_nonneg_right d1 (by omega)) ?_
    omega
  have m2 : c * (1 + b) ≤ 255 * 256 := by
    refine Int.le_trans (Int.mul_le_mul_of_nonneg_right c1 (by omega)) ?_
    omega
  have m3 : 0 ≤ d * (1 + a) := Int.mul_nonneg d0 (by omega)
  have m4 : 0 ≤ c * (1 + b) := Int.mul_nonneg c0 (by omega)
  have hok : (life6 pump (1 + a) (1 + b) 0 && (stay6 pump c d 0 && !(pump.toList != pump.toList))) = true := by
    simp only [life6, stay6, pump_name, inB_mk (show (0 : Int) ≤ 1 + a by omega) (show 1 + a ≤ 1000000 by omega), inB_mk (show (0 : Int) ≤ 1 + b by omega) (show 1 + b ≤ 1000000 by omega), inB_mk (show (0 : Int) ≤ 0 by omega) (show (0 : Int) ≤ 1000000 by omega), inB_mk c0 (show c ≤ 10000000 by omega), inB_mk d0 (show d ≤ 10000000 by omega), inB_mk (show (0 : Int) ≤ 0 by omega) (show (0 : Int) ≤ 10000000 by omega), Bool.true_and, bne_self_eq_false, Bool.not_false]
  have r0 : rd [1 + a, 1 + b, 0] 0 = 1 + a := rfl
  have r1 : rd [1 + a, 1 + b, 0] 1 = 1 + b := rfl
  have r2 : rd [1 + a, 1 + b, 0] 2 = 0 := rfl
  have q0 : rd [c, d, 0] 0 = c := rfl
  have q1 : rd [c, d, 0] 1 = d := rfl
  have p0 : pick6 [1 + a, 1 + b, 0] [c, d, 0] 0 (-1) = true := by simp only [pick6, r0]; simp; omega
  have p1 : pick6 [1 + a, 1 + b, 0] [c, d, 0] 1 0 = decide (d * (1 + a) > c * (1 + b)) := by
    simp only [pick6, r0, r1, q0, q1, w64 (n := d * (1 + a)) (by omega) (by omega), w64 (n := c * (1 + b)) (by omega) (by omega)]
    rw [decide_eq_true (show 1 + b > 0 by omega)]
    simp
  have p2 : ∀ x, pick6 [1 + a, 1 + b, 0] [c, d, 0] 2 x = false := by intro x; simp only [pick6, r2]; simp
  unfold left6
  rw [if_pos hok]
  simp only [left6From, Nat.zero_add, Nat.reduceAdd, show ((0 : Nat) : Int) = 0 from rfl, show ((1 : Nat) : Int) = 1 from rfl, show ((2 : Nat) : Int) = 2 from rfl, p0, if_true, p1, p2, Bool.false_eq_true, if_false, decide_eq_true_eq]
  by_cases h : d * (1 + a) > c * (1 + b)
  · simp only [if_pos h]
    rw [if_neg (by omega), r1, q1, w64 (by omega) (by omega)]
  · simp only [if_neg h]
    rw [if_neg (by omega), r0, q0, w64 (by omega) (by omega)]
theorem sort_two : sortS [pump, fan] = [fan, pump] := by
  have h : decide ([(112 : UInt8), 117, 109, 112] ≤ [102, 97, 110]) = false := by decide
  simp [sortS, strs, List.mergeSort, List.MergeSort.Internal.splitInTwo, List.merge, h]
theorem sort_one : sortS [fan] = [fan] := by
  simp [sortS, strs]
theorem due_val {a b c d : Int} (a0 : 0 ≤ a) (a1 : a ≤ 255) (b0 : 0 ≤ b) (b1 : b ≤ 255) (c0 : 0 ≤ c) (c1 : c ≤ 255) (d0 : 0 ≤ d) (d1 : d ≤ 255) :
    dueF [⟨pump, 1 + a, 1 + b, 0⟩] [⟨pump, c, d, 0⟩, ⟨fan, 0, 0, 0⟩] = (if (1 + a ≤ c ∨ 1 + b ≤ d) then [fan, pump] else [fan], true) := by
  have ne1 : (fan.toList == pump.toList) = false := by decide +kernel
  have ne2 : (pump.toList == fan.toList) = false := by decide +kernel
  have l0 : ∀ i, i < [(⟨pump, 1 + a, 1 + b, 0⟩ : S29)].length → okL [⟨pump, 1 + a, 1 + b, 0⟩] i = true := by
    intro i hi
    obtain rfl : i = 0 := by simpa using hi
    show (!(knownF [] pump).isSome && life6 pump (1 + a) (1 + b) 0) = true
    simp only [life6, pump_name, inB_mk (show (0 : Int) ≤ 1 + a by omega) (show 1 + a ≤ 1000000 by omega), inB_mk (show (0 : Int) ≤ 1 + b by omega) (show 1 + b ≤ 1000000 by omega), inB_mk (show (0 : Int) ≤ 0 by omega) (show (0 : Int) ≤ 1000000 by omega), Bool.true_and]
    rfl
  have s0 : ∀ i, i < [(⟨pump, c, d, 0⟩ : S31), ⟨fan, 0, 0, 0⟩].length → okS [⟨pump, c, d, 0⟩, ⟨fan, 0, 0, 0⟩] i = true := by
    intro i hi
    have hi : i < 2 := hi
    rcases Nat.lt_or_ge i 1 with h | h
    · obtain rfl : i = 0 := by omega
      show (!seenF [] pump && stay6 pump c d 0) = true
      simp only [stay6, pump_name, inB_mk c0 (show c ≤ 10000000 by omega), inB_mk d0 (show d ≤ 10000000 by omega), inB_mk (show (0 : Int) ≤ 0 by omega) (show (0 : Int) ≤ 10000000 by omega), Bool.true_and]
      rfl
    · obtain rfl : i = 1 := by omega
      show (!seenF [⟨pump, c, d, 0⟩] fan && stay6 fan 0 0 0) = true
      have e : seenF [(⟨pump, c, d, 0⟩ : S31)] fan = false := by simp only [seenF, List.any_cons, List.any_nil, ne2, Bool.or_false]
      simp only [e, stay6, fan_name, inB_mk (show (0 : Int) ≤ 0 by omega) (show (0 : Int) ≤ 10000000 by omega), Bool.true_and, Bool.not_false]
  rw [due_good (by simp) (by simp) l0 s0]
  have dp : dueB [⟨pump, 1 + a, 1 + b, 0⟩] ⟨pump, c, d, 0⟩ = decide (1 + a ≤ c ∨ 1 + b ≤ d) := by
    have e : knownF [(⟨pump, 1 + a, 1 + b, 0⟩ : S29)] pump = some ⟨pump, 1 + a, 1 + b, 0⟩ := by simp [knownF]
    simp only [dueB, e, isd]
    by_cases h1 : 1 + a ≤ c <;> by_cases h2 : 1 + b ≤ d <;> simp [h1, h2] <;> omega
  have df : dueB [⟨pump, 1 + a, 1 + b, 0⟩] ⟨fan, 0, 0, 0⟩ = true := by
    have e : knownF [(⟨pump, 1 + a, 1 + b, 0⟩ : S29)] fan = none := by simp only [knownF, List.find?_cons, ne2, List.find?_nil]
    simp only [dueB, e]
  have ho : outL [⟨pump, 1 + a, 1 + b, 0⟩] [⟨pump, c, d, 0⟩, ⟨fan, 0, 0, 0⟩] [(⟨pump, c, d, 0⟩ : S31), ⟨fan, 0, 0, 0⟩].length = if (1 + a ≤ c ∨ 1 + b ≤ d) then [pump, fan] else [fan] := by
    unfold outL
    rw [List.take_length]
    by_cases h : 1 + a ≤ c ∨ 1 + b ≤ d
    · rw [if_pos h, List.filter_cons_of_pos (by rw [dp]; simpa using h), List.filter_cons_of_pos (by rw [df])]
      rfl
    · rw [if_neg h, List.filter_cons_of_neg (by rw [dp]; simpa using h), List.filter_cons_of_pos (by rw [df])]
      rfl
  rw [ho]
  by_cases h : 1 + a ≤ c ∨ 1 + b ≤ d
  · rw [if_pos h, if_pos h, sort_two]
  · rw [if_neg h, if_neg h, sort_one]
theorem left_choice {a b c d : Int} (a0 : 0 ≤ a) (a1 : a ≤ 255) (b0 : 0 ≤ b) (b1 : b ≤ 255) (c0 : 0 ≤ c) (c1 : c ≤ 255) (d0 : 0 ≤ d) (d1 : d ≤ 255) :
    (d * (1 + a) > c * (1 + b) → ((1 + a ≤ c ∨ 1 + b ≤ d) ↔ 1 + b - d ≤ 0)) ∧ (¬ d * (1 + a) > c * (1 + b) → ((1 + a ≤ c ∨ 1 + b ≤ d) ↔ 1 + a - c ≤ 0)) := by
  refine ⟨fun h => ⟨fun q => ?_, fun q => .inr (by omega)⟩, fun h => ⟨fun q => ?_, fun q => .inl (by omega)⟩⟩
  · rcases q with q | q
    · by_cases e : 1 + b ≤ d
      · omega
      · exfalso
        have e1 : d * (1 + a) ≤ (1 + b) * (1 + a) := Int.mul_le_mul_of_nonneg_right (by omega) (by omega)
        have e2 : (1 + a) * (1 + b) ≤ c * (1 + b) := Int.mul_le_mul_of_nonneg_right q (by omega)
        rw [Int.mul_comm (1 + a) (1 + b)] at e2
        omega
    · omega
  · rcases q with q | q
    · omega
    · by_cases e : 1 + a ≤ c
      · omega
      · exfalso
        have e1 : (1 + b) * (1 + a) ≤ d * (1 + a) := Int.mul_le_mul_of_nonneg_right q (by omega)
        have e2 : c * (1 + b) < (1 + a) * (1 + b) := Int.mul_lt_mul_of_pos_right (by omega) (by omega)
        rw [Int.mul_comm (1 + a) (1 + b)] at e2
        omega
set_option maxHeartbeats 16000000 in
set_option maxRecDepth 100000 in
theorem lives_t (A : Option Addr) (c0 : Nat) (l : List Int) (w : World) (hr0 : Kd.C (Kd.int .u8) w A l.length l) (hc0 : l.length ≤ c0) (hw : ∀ x ∈ l, 0 ≤ x ∧ x ≤ 255) :
    Calls Try.prog 4 #[.slice A l.length c0] w fun e w' => e = .returned (.bool true) ∧ Below w.heap.size w w' := by
  have hu1 := Try.underlying29
  have hu2 := Try.underlying31
  by_cases hl : (l.length : Int) > 1048576
  · have KB := Aside0.mk (laws_big.calls A c0 l true w hr0 hc0 (by unfold laws_big.f; rw [decide_eq_true hl]))
    clear hr0 hl
    go_enter Try.func4, Try.ntmps4
    go_wp2_with (first | (go_at_call 12; (with_reducible refine KB.out.mono ?_); rintro e w1 ⟨rfl, hb⟩))
    go_ret
    exact ⟨rfl, hb.below⟩
  have KB := Aside0.mk (laws_big.calls A c0 l false w hr0 hc0 (by unfold laws_big.f; rw [decide_eq_false hl]))
  obtain ⟨a, ha, a0, a1⟩ := at_ev l hw (by omega) 0 (by omega) (by omega)
  obtain ⟨b, hb, b0, b1⟩ := at_ev l hw (by omega) 1 (by omega) (by omega)
  obtain ⟨c, hc, c0_, c1⟩ := at_ev l hw (by omega) 2 (by omega) (by omega)
  obtain ⟨d, hd, d0, d1⟩ := at_ev l hw (by omega) 3 (by omega) (by omega)
  have KA := Aside0.mk (fun w' (h : Below w.heap.size w w') => laws_at.calls A c0 l 0 a w' (Kd.C_below hr0 h) hc0 ha)
  have KA1 := Aside0.mk (fun w' (h : Below w.heap.size w w') => laws_at.calls A c0 l 1 b w' (Kd.C_below hr0 h) hc0 hb)
  have KA2 := Aside0.mk (fun w' (h : Below w.heap.size w w') => laws_at.calls A c0 l 2 c w' (Kd.C_below hr0 h) hc0 hc)
  have KA3 := Aside0.mk (fun w' (h : Below w.heap.size w w') => laws_at.calls A c0 l 3 d w' (Kd.C_below hr0 h) hc0 hd)
  have e1 : wrap64 (1 + a) = 1 + a := w64 (by omega) (by omega)
  have e2 : wrap64 (1 + b) = 1 + b := w64 (by omega) (by omega)
  have hz : (([(⟨pump, wrap64 (1 + a), wrap64 (1 + b), 0⟩ : S29)] : List S29).all (fun x => decide (x.f0.size ≤ 140737488355328)) && ([(⟨pump, c, d, 0⟩ : S31), ⟨fan, 0, 0, 0⟩] : List S31).all (fun x => decide (x.f0.size ≤ 140737488355328))) = true := by
    simp only [List.all_cons, List.all_nil, Bool.and_true]; rfl
  obtain ⟨L, hL, hLc⟩ : ∃ L, impl_Due6.f [(⟨pump, wrap64 (1 + a), wrap64 (1 + b), 0⟩ : S29)] [(⟨pump, c, d, 0⟩ : S31), ⟨fan, 0, 0, 0⟩] = some (L, true) ∧ ((L = [fan, pump] ∧ (1 + a ≤ c ∨ 1 + b ≤ d)) ∨ (L = [fan] ∧ ¬ (1 + a ≤ c ∨ 1 + b ≤ d))) := by
    refine ⟨_, by unfold impl_Due6.f; rw [if_pos hz, e1, e2, due_val a0 a1 b0 b1 c0_ c1 d0 d1], ?_⟩
    by_cases q : 1 + a ≤ c ∨ 1 + b ≤ d
    · rw [if_pos q]; exact .inl ⟨rfl, q⟩
    · rw [if_neg q]; exact .inr ⟨rfl, q⟩
  obtain ⟨kl, hkl⟩ := (impl_Left6_ev pump (by decide) (1 + a) (1 + b) 0 pump (by decide) c d 0).rounds
  rw [left_val a0 a1 b0 b1 c0_ c1 d0 d1, ← e1, ← e2] at hkl
  have hch := left_choice a0 a1 b0 b1 c0_ c1 d0 d1
  obtain ⟨i, left, hlf, hi⟩ : ∃ i left, impl_Left6.f kl pump (wrap64 (1 + a)) (wrap64 (1 + b)) 0 pump c d 0 = some (i, left, true) ∧ ((i = 0 ∧ left = wrap64 (wrap64 (1 + a) - c) ∧ ((1 + a ≤ c ∨ 1 + b ≤ d) ↔ left ≤ 0)) ∨ (i = 1 ∧ left = wrap64 (wrap64 (1 + b) - d) ∧ ((1 + a ≤ c ∨ 1 + b ≤ d) ↔ left ≤ 0))) := by
    rw [e1, e2] at hkl ⊢
    rw [hkl]
    by_cases q : d * (1 + a) > c * (1 + b)
    · rw [if_pos q]; exact ⟨_, _, rfl, .inr ⟨rfl, (w64 (by omega) (by omega)).symm, hch.1 q⟩⟩
    · rw [if_neg q]; exact ⟨_, _, rfl, .inl ⟨rfl, (w64 (by omega) (by omega)).symm, hch.2 q⟩⟩
  have KL := Aside0.mk (fun w' => impl_Left6.calls kl pump (wrap64 (1 + a)) (wrap64 (1 + b)) 0 pump c d 0 i left true w' hlf)
  have KD := Aside0.mk (show ∀ (W : World) (b1 b2 : Nat) (P1 P2 : Nat → Prop) (A0 : Option Addr) (n0 : Nat) (A1 : Option Addr) (n1 : Nat), Kd.R k29 29 W b1 P1 (.slice A0 1 n0) [(⟨pump, wrap64 (1 + a), wrap64 (1 + b), 0⟩ : S29)] → Kd.R k31 31 W b2 P2 (.slice A1 2 n1) [(⟨pump, c, d, 0⟩ : S31), ⟨fan, 0, 0, 0⟩] → Calls Try.prog 14 #[.slice A0 1 n0, .slice A1 2 n1] W fun e w' => ∃ v0_ : Value, e = .returned (.tuple #[v0_, .bool true]) ∧ Kd.R Kd.string 9 w' W.heap.size (fun _ => True) v0_ L ∧ Below W.heap.size W w' from fun W b1 b2 P1 P2 A0 n0 A1 n1 h0 h1 => impl_Due6.calls A0 n0 [(⟨pump, wrap64 (1 + a), wrap64 (1 + b), 0⟩ : S29)] A1 n1 [(⟨pump, c, d, 0⟩ : S31), ⟨fan, 0, 0, 0⟩] L true W (Kd.R_reads' h0).2.2 (Kd.R_reads' h0).2.1 (Kd.R_reads' h1).2.2 (Kd.R_reads' h1).2.1 hL)
  have HI := Aside0.mk hi
  have HLC := Aside0.mk hLc
  have HE := Aside0.mk (And.intro e1 e2)
  clear hr0 ha hb hc hd e1 e2 hz hL hkl hch hlf hi hLc a0 a1 b0 b1 c0_ c1 d0 d1 hw hl
  have HB := Aside0.mk (Below.refl w.heap.size w)
  go_enter Try.func4, Try.ntmps4
  go_upto_region 4 with (first | (go_at_call 12; (with_reducible refine KB.out.mono ?_); rintro e w2 ⟨rfl, hb⟩; replace HB := Aside0.mk hb.below; clear hb) | (go_at_call 13; (first | (with_reducible refine (KA.out _ HB.out).mono ?_) | (with_reducible refine (KA1.out _ HB.out).mono ?_)); rintro e w2 ⟨rfl, hb⟩; replace HB := Aside0.mk (below_step HB.out hb.below); clear hb))
  have nw := below_alloc (Below.refl w2.heap.size w2) (.cells #[.string pump, .int .i64 (wrap64 (1 + a)), .int .i64 (wrap64 (1 + b)), .int .i64 0] 29 (0, 0))
  have HS := Aside0.mk (And.intro (blk_new w2 (.cells #[.string pump, .int .i64 (wrap64 (1 + a)), .int .i64 (wrap64 (1 + b)), .int .i64 0] 29 (0, 0))) (below_step HB.out nw))
  clear nw HB KB KA KA1
  generalize w2.heap.size = g3 at HS ⊢
  generalize w2.alloc _ = W at HS ⊢
  have B3 := Aside0.mk HS.out.1
  have HB := Aside0.mk HS.out.2
  clear HS
  go_upto_region 5 with (first | (go_at_call 13; (first | (with_reducible refine (KA2.out _ HB.out).mono ?_) | (with_reducible refine (KA3.out _ HB.out).mono ?_)); rintro e w2 ⟨rfl, hb⟩; replace B3 := Aside0.mk (blk_below B3.out hb.below); replace HB := Aside0.mk (below_step HB.out hb.below); clear hb))
  have nw := below_alloc (Below.refl w2.heap.size w2) (.cells #[.string pump, .int .i64 c, .int .i64 d, .int .i64 0] 31 (0, 0))
  have HS := Aside0.mk (And.intro (blk_new w2 (.cells #[.string pump, .int .i64 c, .int .i64 d, .int .i64 0] 31 (0, 0))) (And.intro (blk_below B3.out nw) (below_step HB.out nw)))
  clear nw HB KA2 KA3 B3
  generalize w2.heap.size = g4 at HS ⊢
  generalize w2.alloc _ = W at HS ⊢
  have B4 := Aside0.mk HS.out.1
  have B3 := Aside0.mk HS.out.2.1
  have HB := Aside0.mk HS.out.2.2
  clear HS
  obtain ⟨y0, y1, y2, y3⟩ := ck4' B3.out
  obtain ⟨z0, z1, z2, z3⟩ := ck4' B4.out
  go_upto_region 6 with (first | (go_at_call 11; (with_reducible refine (KL.out _).mono ?_); rintro e w5 ⟨rfl, hb⟩))
  clear y0 y1 y2 y3 z0 z1 z2 z3 KL
  replace B3 := Aside0.mk (blk_below B3.out hb)
  replace B4 := Aside0.mk (blk_below B4.out hb)
  replace HB := Aside0.mk (below_step HB.out hb)
  clear hb
  obtain ⟨y0, y1, y2, y3⟩ := ck4' B3.out
  go_upto_region 7 with (first | ((with_reducible refine gate_dst (N := 34) rfl ?_); refine Kd.R_lit k29 _ 29 ?hg (N := 34) ?hd (xs := ([(⟨pump, wrap64 (1 + a), wrap64 (1 + b), 0⟩ : S29)] : List S29)) (inner := [.string pump, .int .i64 (wrap64 (1 + a)), .int .i64 (wrap64 (1 + b)), .int .i64 0]) (ok := fun _ => True) (okp := fun _ => True) ?hr ?hp (fun _ hk => hk) trivial (Below.refl _ _) (Nat.le_refl _) (by simp) ?_; (case hd => rfl); (case hg => rfl); (case hr => first | (go_simp; done) | (go_simp; rfl)); (case hp => exact (Reps.c4 (show Kd.M k29 _ _ _ (⟨pump, wrap64 (1 + a), wrap64 (1 + b), 0⟩ : S29) [.string pump, .int .i64 (wrap64 (1 + a)), .int .i64 (wrap64 (1 + b)), .int .i64 0] from (k29_mkM _ _ _ (⟨pump, wrap64 (1 + a), wrap64 (1 + b), 0⟩ : S29))) (Reps.none _ _))); intro v34 w6 ho hb hg_ hnew_; clear hg_ hnew_; replace B3 := Aside0.mk (blk_below B3.out hb); replace B4 := Aside0.mk (blk_below B4.out hb); replace HB := Aside0.mk (below_step HB.out hb); have H34 := Aside0.mk ho; clear ho hb y0 y1 y2 y3; obtain ⟨V34, c34, rfl⟩ := Kd.R_slice H34.out; obtain ⟨z0, z1, z2, z3⟩ := ck4' B4.out) | ((with_reducible refine gate_dst (N := 37) rfl ?_); refine Kd.R_lit k31 _ 31 ?hg (N := 37) ?hd (xs := ([(⟨pump, c, d, 0⟩ : S31), ⟨fan, 0, 0, 0⟩] : List S31)) (inner := [.string pump, .int .i64 c, .int .i64 d, .int .i64 0, .string fan, .int .i64 0, .int .i64 0, .int .i64 0]) (ok := fun _ => True) (okp := fun _ => True) ?hr ?hp (fun _ hk => hk) trivial (Below.refl _ _) (Nat.le_refl _) (by simp) ?_; (case hd => rfl); (case hg => rfl); (case hr => first | (go_simp; done) | (go_simp; rfl)); (case hp => exact (Reps.c4 (show Kd.M k31 _ _ _ (⟨pump, c, d, 0⟩ : S31) [.string pump, .int .i64 c, .int .i64 d, .int .i64 0] from (k31_mkM _ _ _ (⟨pump, c, d, 0⟩ : S31))) (Reps.c4 (show Kd.M k31 _ _ _ (⟨fan, 0, 0, 0⟩ : S31) [.string fan, .int .i64 0, .int .i64 0, .int .i64 0] from (k31_mkM _ _ _ (⟨fan, 0, 0, 0⟩ : S31))) (Reps.none _ _)))); intro v37 w7 ho hb hg_ hnew_; clear hg_ hnew_; replace B3 := Aside0.mk (blk_below B3.out hb); replace B4 := Aside0.mk (blk_below B4.out hb); replace HB := Aside0.mk (below_step HB.out hb); have H37 := Aside0.mk ho; replace H34 := Aside0.mk (Kd.R_below H34.out hb); clear ho hb z0 z1 z2 z3; obtain ⟨V37, c37, rfl⟩ := Kd.R_slice H37.out) | (go_at_call 14; refine (KD.out _ _ _ _ _ _ _ _ _ H34.out H37.out).mono ?_; rintro e w9 ⟨v9, rfl, ho, hb⟩))
  clear H34 H37 KD
  have HO := Aside0.mk ho
  replace B3 := Aside0.mk (blk_below B3.out hb)
  replace B4 := Aside0.mk (blk_below B4.out hb)
  replace HB := Aside0.mk (below_step HB.out hb)
  clear ho hb
  obtain ⟨y0, y1, y2, y3⟩ := ck4' B3.out
  obtain ⟨z0, z1, z2, z3⟩ := ck4' B4.out
  rcases HLC.out with ⟨rfl, q⟩ | ⟨rfl, q⟩
  · obtain ⟨g, cap, rfl, -⟩ := Kd.R_form HO.out (by decide)
    obtain ⟨ad, e0, x0⟩ := Kd.at_string (Kd.R_reads' HO.out).2.2 0 (by decide) (by decide)
    obtain ⟨ad', e0', x1⟩ := Kd.at_string (Kd.R_reads' HO.out).2.2 1 (by decide) (by decide)
    cases e0
    cases e0'
    replace x0 : w9.cell? ⟨g, 0, none⟩ = some (.string fan) := x0
    replace x1 : w9.cell? ⟨g, 1, none⟩ = some (.string pump) := x1
    rcases HI.out with ⟨rfl, rfl, hq⟩ | ⟨rfl, rfl, hq⟩
    all_goals
      have q3 := hq.1 q
      clear hq HI HLC
      rw [← HE.out.1, ← HE.out.2] at q
      by_cases q1 : c ≥ wrap64 (1 + a)
      · clear q HE
        go_wp2
        go_ret
        exact ⟨rfl, HB.out⟩
      · have q2 : d ≥ wrap64 (1 + b) := by omega
        clear q HE
        go_wp2
        go_ret
        exact ⟨rfl, HB.out⟩
  · obtain ⟨g, cap, rfl, -⟩ := Kd.R_form HO.out (by decide)
    obtain ⟨ad, e0, x0⟩ := Kd.at_string (Kd.R_reads' HO.out).2.2 0 (by decide) (by decide)
    cases e0
    replace x0 : w9.cell? ⟨g, 0, none⟩ = some (.string fan) := x0
    rcases HI.out with ⟨rfl, rfl, hq⟩ | ⟨rfl, rfl, hq⟩
    all_goals
      have q3 : ¬ _ := fun h => q (hq.2 h)
      clear hq HI HLC
      rw [← HE.out.1, ← HE.out.2] at q
      have q1 : ¬ c ≥ wrap64 (1 + a) := by omega
      have q2 : ¬ d ≥ wrap64 (1 + b) := by omega
      clear q HE
      go_wp2
      go_ret
      exact ⟨rfl, HB.out⟩
def laws_FnLives.f (k : Nat) (l0 : List Int) : Option Bool := if l0.all (fun x => decide (0 ≤ x) && decide (x ≤ 255)) = true then some true else none
theorem laws_FnLives.calls (k : Nat) (A0 : Option Addr) (c0 : Nat) (l0 : List Int) (r : Bool) (hr_ : r = true) (w : World) (hr0 : Kd.C (Kd.int .u8) w A0 l0.length l0) (hc0 : l0.length ≤ c0) (h : laws_FnLives.f k l0 = some r) :
  Calls Try.prog 4 #[.slice A0 l0.length c0] w fun e w' => e = .returned (.bool r) ∧ Below w.heap.size w w' := by
  unfold laws_FnLives.f at h
  split at h
  · rename_i hq
    simp only [List.all_eq_true, Bool.and_eq_true, decide_eq_true_eq] at hq
    cases h
    exact lives_t A0 c0 l0 w hr0 hc0 hq
  · cases h
-- HAND TO
/-- THE ONE PURE STATEMENT of laws_FnLives: yours. -/
def laws_FnLives.Pure : Prop := ∀ (l0 : List Int), l0.length ≤ maxLen → l0.length * 1 ≤ 140737488351232 → (∀ x ∈ l0, (Lit.int .u8 x).wf = true) → ∃ k, laws_FnLives.f k l0 = some true
theorem laws_FnLives.walk (P : laws_FnLives.Pure) (a0 : Option Addr) (len0 cap0 : Nat) (z0 : List Int) (w : World) (w0 : (a0 = none ∧ len0 = 0 ∧ cap0 = 0 ∧ z0 = []) ∨ ∃ x, a0 = some x ∧ len0 ≤ cap0 ∧ cap0 ≤ maxLen ∧ z0.length = cap0 ∧ (∀ i, i < z0.length → w.cell? (x.add i) = some (.int .u8 (z0.getD i 0))) ∧ ∀ n ∈ z0, (Lit.int .u8 n).wf = true) (y0 : len0 * 1 ≤ 140737488351232) :
  Calls Try.prog 4 #[.slice a0 len0 cap0] w fun e w' => e = .returned (.bool true) ∧ Below w.heap.size w w' := by
 obtain ⟨l0, rfl, hr0, hm0, hw0, hc0⟩ := ReadsInt.ofRowC w0
 obtain ⟨k, h⟩ := P l0 hm0 y0 hw0
 refine (laws_FnLives.calls k _ _ l0 true rfl w (Kd.C_of_reads (d := (0 : Int)) (h1 := fun _ => rfl) hr0) hc0 h).mono ?_
 rintro e w' ⟨rfl, hd⟩
 exact ⟨rfl, hd⟩

end Go.Proofs.Ytfhielgfgmcdiaa.PFnLives
