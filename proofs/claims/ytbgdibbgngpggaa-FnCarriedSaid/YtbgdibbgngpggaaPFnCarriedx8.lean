-- Written by a program of this session (wip/xprint.py) out of the translation; Lean checks it.
import Derived.Test.YtbgdibbgngpggaaPFnCarriedx0
import Derived.Test.YtbgdibbgngpggaaPFnCarriedx1
import Derived.Test.YtbgdibbgngpggaaPFnCarriedx2
import Derived.Test.YtbgdibbgngpggaaPFnCarriedx3
import Derived.Test.YtbgdibbgngpggaaPFnCarriedx4
import Derived.Test.YtbgdibbgngpggaaPFnCarriedx5
import Derived.Test.YtbgdibbgngpggaaPFnCarriedx6
import Derived.Test.YtbgdibbgngpggaaPFnCarriedx7
namespace Go.Proofs.Ytbgdibbgngpggaa.PFnCarried
open Go.RowKit Go.Proofs.YtbgdibbgngpggaaW.PrintWords Go.Proofs.YtbgdibbgngpggaaW.PrintLast Go.Proofs.YtbgdibbgngpggaaW.PrintMore Go.Proofs.Ytbgdibbgngpggaa.Sq
attribute [local go_sem] max2_int min2_int max_two min_two max_three min_three max_four min_four   -- for this text's walks alone
set_option linter.unusedVariables false
set_option linter.unusedSimpArgs false

-- HAND FROM
open Go.Proofs.Ytbgdibbgngpggaa.Base Go.Proofs.Ytbgdibbgngpggaa.Sq
theorem spec_in_eq (a b c : Int) : spec_l1In.f a b c = some (inB a b c) := in_form a b c
theorem spec_l1Name_l (s : ByteArray) (hn : s.size ≤ 140737488355328) (d : Nat) : ∀ i : Nat, i + d = s.size → Ev (fun k => spec_l1Name.l0 k s (i : Int)) (charsB s d i && inB (s.size : Int) 1 20) := by
  induction d with
  | zero =>
    intro i h
    refine ev_succ ?_
    simp only [spec_l1Name.l0, if_neg (show ¬ ((i : Int) < (s.size : Int)) by omega), spec_in_eq, Option.bind_some, charsB, Bool.true_and]
    exact ev_now _
  | succ d ih =>
    intro i h
    have hi := ih (i + 1) (by omega)
    refine ev_succ ?_
    have hb := bt_range s (i : Int)
    simp only [spec_l1Name.l0, if_pos (show ((i : Int) < (s.size : Int)) by omega), if_pos (show (0 : Int) ≤ (i : Int) by omega), spec_in_eq, Option.bind_some, w64 (show -9223372036854775808 ≤ bt s (i : Int) by omega) (show bt s (i : Int) ≤ 9223372036854775807 by omega)]
    unfold charsB
    generalize bt s (i : Int) = c
    refine Ev.congr (f := fun k => spec_l1Name.j1 k s (i : Int) (!charB c)) (fun k => ?_) ?_
    · by_cases hc : Alnum c
      · rw [show charB c = true by simp [charB, hc]]
        unfold Alnum at hc
        repeat' split
        all_goals first | rfl | (rename_i a1 a2 a3; rw [inB_iff] at a1 a2 a3; exfalso; omega)
      · rw [show charB c = (c == 45) by simp [charB, hc]]
        unfold Alnum at hc
        have n1 : inB c 97 122 = false := by rw [Bool.eq_false_iff, ne_eq, inB_iff]; omega
        have n2 : inB c 65 90 = false := by rw [Bool.eq_false_iff, ne_eq, inB_iff]; omega
        have n3 : inB c 48 57 = false := by rw [Bool.eq_false_iff, ne_eq, inB_iff]; omega
        simp only [n1, n2, n3, Bool.false_eq_true, if_false]
        rfl
    · refine ev_succ ?_
      cases charB c with
      | true => simpa only [spec_l1Name.j1, Bool.not_true, Bool.false_eq_true, if_false, w64s i (show i < 9223372036854775807 by omega), Bool.true_and] using hi
      | false => simpa only [spec_l1Name.j1, Bool.not_false, if_true, Bool.false_and] using ev_now false
theorem spec_l1Name_ev (s : ByteArray) (hn : s.size ≤ 140737488355328) : Ev (fun k => spec_l1Name.f k s) (nameB s) := by
  simpa [spec_l1Name.f, nameB] using spec_l1Name_l s hn s.size 0 (by omega)
theorem uName : Ent Try.prog 49 := fun a w => enters_ Try.func49 rfl rfl a w
theorem uIn : Ent Try.prog 46 := fun a w => enters_ Try.func46 rfl rfl a w
theorem name_u (s : ByteArray) (hs : s.size ≤ 140737488355328) (w : World) : Calls Try.prog 49 #[.string s] w fun e w' => e = .returned (.bool (nameB s)) ∧ Below w.heap.size w w' := by
  obtain ⟨k, hk⟩ := (spec_l1Name_ev s hs).rounds
  exact drawn_ (spec_l1Name.calls k s _ w hk)
theorem in_u (a b c : Int) (w : World) : Calls Try.prog 46 #[.int .i64 a, .int .i64 b, .int .i64 c] w fun e w' => e = .returned (.bool (inB a b c)) ∧ Below w.heap.size w w' := drawn_ (spec_l1In.calls a b c _ w (spec_in_eq a b c))
set_option maxHeartbeats 4000000 in
set_option maxRecDepth 100000 in
theorem spec_CarryOk.go (A0 : Option Addr) (c0 : Nat) (l0 : List S70) (w : World) (hr0 : Kd.C k70 w A0 l0.length l0) (hc0 : l0.length ≤ c0) (hn : l0.length ≤ 140737488355328) (hx : ∀ x ∈ l0, x.f0.size ≤ 140737488355328) :
    Calls Try.prog 21 #[.slice A0 l0.length c0] w fun e w' => e = .returned (.bool (carryB l0)) ∧ Below w.heap.size w w' := by
  have hu70 := Try.underlying70
  have HR := Aside0.mk hr0
  have HX := Aside0.mk hx
  clear hr0 hx
  go_enter Try.func21, Try.ntmps21
  go_wp2
  go_loopw [3] (fun v wr => ∃ i : Nat, i ≤ l0.length ∧ v = .int .i64 i ∧ Aside0 (carryB l0 = carryFrom l0 (l0.length - i) i) ∧ Aside0 (Below w.heap.size w wr)) (fun v _ => l0.length - (intOf v).toNat)
  case atStart => exact ⟨0, Nat.zero_le _, rfl, ⟨rfl⟩, ⟨Below.refl _ _⟩⟩
  case round =>
    obtain ⟨i, hi, rfl, HE, HB⟩ := hrel
    by_cases hlt : i < l0.length
    · obtain ⟨ad, e0, hx0, hx1, hx2⟩ := at_T70 (Kd.C_below HR.out HB.out) (i : Int) (by omega) (by omega)
      cases e0
      simp only [Int.toNat_natCast] at hx0 hx1 hx2
      have HS := Aside0.mk (carry_step hlt HE.out)
      have HZ := Aside0.mk (HX.out _ (List.getElem_mem hlt))
      rw [← rd_at70 hlt] at HZ
      have HK := Aside0.mk (blk_new wr (.cells #[.string (rd_T70 l0 (i : Int)).f0, .int .i64 (rd_T70 l0 (i : Int)).f1, .int .i64 (rd_T70 l0 (i : Int)).f2] 70 (0, 0)))
      have HB2 := Aside0.mk (below_alloc HB.out (.cells #[.string (rd_T70 l0 (i : Int)).f0, .int .i64 (rd_T70 l0 (i : Int)).f1, .int .i64 (rd_T70 l0 (i : Int)).f2] 70 (0, 0)))
      go_upto_region 5 with (fail)
      generalize wr.heap.size = gx at HK ⊢
      refine world_ (fun W => W.heap[gx]? = some (.cells #[.string (rd_T70 l0 (i : Int)).f0, .int .i64 (rd_T70 l0 (i : Int)).f1, .int .i64 (rd_T70 l0 (i : Int)).f2] 70 (0, 0)) ∧ Below w.heap.size w W) ⟨HK.out, HB2.out⟩ ?_
      clear HK HB2 HE HB hx0 hx1 hx2
      rintro W ⟨HK, HB⟩
      replace HK := Aside0.mk HK
      replace HB := Aside0.mk HB
      obtain ⟨b1, Eb1⟩ : ∃ b, nameB (rd_T70 l0 (i : Int)).f0 = b := ⟨_, rfl⟩
      have Kb1 := Aside0.mk (fun w' => kb_ (name_u (rd_T70 l0 (i : Int)).f0 HZ.out w') Eb1)
      obtain ⟨b2, Eb2⟩ : ∃ b, inB (rd_T70 l0 (i : Int)).f1 0 10 = b := ⟨_, rfl⟩
      have Kb2 := Aside0.mk (fun w' => kb_ (in_u (rd_T70 l0 (i : Int)).f1 0 10 w') Eb2)
      obtain ⟨b3, Eb3⟩ : ∃ b, inB (rd_T70 l0 (i : Int)).f2 0 120 = b := ⟨_, rfl⟩
      have Kb3 := Aside0.mk (fun w' => kb_ (in_u (rd_T70 l0 (i : Int)).f2 0 120 w') Eb3)
      have HE := Aside0.mk (And.intro Eb1 (And.intro Eb2 Eb3))
      clear Eb1 Eb2 Eb3
      go_cut [45] (fun v wc => v = .bool (!carryAt l0 (i : Int)) ∧ Aside0 (Below w.heap.size w wc))
      case first =>
        clear HS
        rcases Nat.eq_zero_or_pos i with h0 | h0
        · subst h0
          have L := Aside0.mk (fun w' (h : Up W w') => (⟨ck (blk_below HK.out h) 0 rfl, ck (blk_below HK.out h) 1 rfl, ck (blk_below HK.out h) 2 rfl⟩ : w'.cell? ⟨gx, 0, none⟩ = some (.string (rd_T70 l0 ((0 : Nat) : Int)).f0) ∧ w'.cell? ⟨gx, 1, none⟩ = some (.int .i64 (rd_T70 l0 ((0 : Nat) : Int)).f1) ∧ w'.cell? ⟨gx, 2, none⟩ = some (.int .i64 (rd_T70 l0 ((0 : Nat) : Int)).f2)))
          have HP : Aside0 (carryAtPv l0 ((0 : Nat) : Int) = true) := ⟨rfl⟩
          rcases or3_ b1 b2 b3 with rfl | ⟨rfl, rfl⟩ | ⟨rfl, rfl, rfl⟩ | ⟨rfl, rfl, rfl⟩
          all_goals
            (refine rg_ (by kernel_rfl) (by kernel_rfl) ?_; (repeat (first | refine qn_ ?_ | refine qc_ uName (fun w' _ => Kb1.out w') ?_ | refine qc_ uIn (fun w' _ => Kb2.out w') ?_ | refine qc_ uIn (fun w' _ => Kb3.out w') ?_ | refine ql_ L.out ?_)); refine qd_ ?_; intro w5 hb; (try go_wp2); go_meet; case rel => exact ⟨by have hp := HP.out; unfold carryAtPv at hp; unfold carryAt; (try dsimp only); rw [HE.out.1, HE.out.2.1, HE.out.2.2, hp]; first | rfl | simp, ⟨below_step HB.out hb⟩⟩)
        · obtain ⟨j, rfl⟩ : ∃ j, i = j + 1 := ⟨i - 1, by omega⟩
          obtain ⟨ad', e0, y0, y1, y2⟩ := at_T70 HR.out (j : Int) (by omega) (by omega)
          obtain rfl : ad = ad' := by injection e0
          simp only [Int.toNat_natCast] at y0 y1 y2
          have hj : wrap64 (j : Int) = (j : Int) := w64 (by omega) (by omega)
          have hjl : j < l0.length := by omega
          have L := Aside0.mk (fun w' (h : Up W w') => (⟨ck (blk_below HK.out h) 0 rfl, ck (blk_below HK.out h) 1 rfl, ck (blk_below HK.out h) 2 rfl, bc (below_step HB.out h) y0⟩ : w'.cell? ⟨gx, 0, none⟩ = some (.string (rd_T70 l0 ((j + 1 : Nat) : Int)).f0) ∧ w'.cell? ⟨gx, 1, none⟩ = some (.int .i64 (rd_T70 l0 ((j + 1 : Nat) : Int)).f1) ∧ w'.cell? ⟨gx, 2, none⟩ = some (.int .i64 (rd_T70 l0 ((j + 1 : Nat) : Int)).f2) ∧ w'.cell? (ad.add (j * 3)) = some (.string (rd_T70 l0 (j : Int)).f0)))
          obtain ⟨bP, EP⟩ : ∃ b, Op.bytesLess (rd_T70 l0 (j : Int)).f0.toList (rd_T70 l0 ((j : Int) + 1)).f0.toList = b := ⟨_, rfl⟩
          have HP : Aside0 (carryAtPv l0 ((j + 1 : Nat) : Int) = bP) := ⟨by unfold carryAtPv; rw [decide_eq_false (show ¬ ¬ ((j + 1 : Nat) : Int) > 0 by omega), show ((j + 1 : Nat) : Int) - 1 = (j : Int) by omega, show ((j + 1 : Nat) : Int) = (j : Int) + 1 by omega, EP]; rfl⟩
          clear y0 y1 y2 e0 h0
          rcases or4_ b1 bP b2 b3 with rfl | ⟨rfl, rfl⟩ | ⟨rfl, rfl, rfl⟩ | ⟨rfl, rfl, rfl, rfl⟩ | ⟨rfl, rfl, rfl, rfl⟩
          all_goals
            (refine rg_ (by kernel_rfl) (by kernel_rfl) ?_; (repeat (first | refine qn_ ?_ | refine qc_ uName (fun w' _ => Kb1.out w') ?_ | refine qc_ uIn (fun w' _ => Kb2.out w') ?_ | refine qc_ uIn (fun w' _ => Kb3.out w') ?_ | refine ql_ L.out ?_)); refine qd_ ?_; intro w5 hb; (try go_wp2); go_meet; case rel => exact ⟨by have hp := HP.out; unfold carryAtPv at hp; unfold carryAt; (try dsimp only); rw [HE.out.1, HE.out.2.1, HE.out.2.2, hp]; first | rfl | simp, ⟨below_step HB.out hb⟩⟩)
      case rest =>
        clear HB HZ HE HK
        obtain ⟨rfl, HB⟩ := hcut
        cases hc : carryAt l0 (i : Int) with
        | false =>
          rw [hc] at HS
          go_wp2
          go_ret
          exact ⟨by rw [HS.out]; rfl, HB.out⟩
        | true =>
          rw [hc] at HS
          go_wp2
          go_roundw
          case rel => exact ⟨i + 1, by omega, by go_num, ⟨HS.out⟩, HB⟩
          case measure => simp [intOf]; omega
    · obtain rfl : i = l0.length := by omega
      have HS := Aside0.mk (carry_end HE.out)
      go_wp2
      go_ret
      exact ⟨by rw [HS.out]; rfl, HB.out⟩
-- HAND TO

-- HAND FROM
open Go.Proofs.Ytbgdibbgngpggaa.Base Go.Proofs.Ytbgdibbgngpggaa.Sq
theorem spec_ClockOk_eq (a b c : Int) : spec_ClockOk.f a b c = some (clockB a b c) := by
  simp only [spec_ClockOk.f, spec_in_eq, Option.bind_some, clockB]
  cases inB a 0 1000000 <;> cases inB b 0 1000000 <;> simp
theorem spec_TaskOk_ev (n : ByteArray) (hn : n.size ≤ 140737488355328) (h c d p q r : Int) : Ev (fun k => spec_TaskOk.f k n h c d p q r) (taskB n h c d p q r) := by
  simp only [spec_TaskOk.f, spec_in_eq, spec_ClockOk_eq, Option.bind_some]
  refine (spec_l1Name_ev n hn).bind ?_
  unfold taskB
  cases nameB n with
  | false => simpa using ev_now false
  | true =>
    cases h1 : inB h 0 100000 with
    | false => simpa using ev_now false
    | true =>
      cases h2 : inB c 0 100000 with
      | false => simpa using ev_now false
      | true =>
        cases h3 : inB d 0 100000 with
        | false => simpa using ev_now false
        | true =>
          rw [inB_iff] at h1 h2 h3
          simp only [if_true, Bool.true_and, w64 (show -9223372036854775808 ≤ h + c by omega) (by omega), w64 (show -9223372036854775808 ≤ h + c + d by omega) (by omega)]
          by_cases h4 : h + c + d > 0
          · simp only [if_pos h4, h4, decide_true, Bool.true_and]; exact ev_now _
          · simp only [if_neg h4, h4, decide_false, Bool.false_and]; exact ev_now _
theorem uTaskOk : Ent Try.prog 17 := fun a w => enters_ Try.func17 rfl rfl a w
theorem uBehind : Ent Try.prog 57 := fun a w => enters_ Try.func57 rfl rfl a w
theorem task_u (n : ByteArray) (h c d p q r : Int) (hn : n.size ≤ 140737488355328) (w : World) : Calls Try.prog 17 #[.agg #[.string n, .int .i64 h, .int .i64 c, .int .i64 d, .int .i64 p, .int .i64 q, .int .i64 r]] w fun e w' => e = .returned (.bool (taskB n h c d p q r)) ∧ Below w.heap.size w w' := by
  obtain ⟨k, hk⟩ := (spec_TaskOk_ev n hn h c d p q r).rounds
  exact spec_TaskOk.calls k n h c d p q r _ w hk
theorem clock_u (a b c : Int) (w : World) : Calls Try.prog 13 #[.agg #[.int .i64 a, .int .i64 b, .int .i64 c]] w fun e w' => e = .returned (.bool (clockB a b c)) ∧ Below w.heap.size w w' := spec_ClockOk.calls a b c _ w (spec_ClockOk_eq a b c)
theorem behind_u (p q r p' q' r' : Int) (w : World) : Calls Try.prog 57 #[.agg #[.int .i64 p, .int .i64 q, .int .i64 r], .agg #[.int .i64 p', .int .i64 q', .int .i64 r']] w fun e w' => e = .returned (.bool (behindB p q r p' q' r')) ∧ Below w.heap.size w w' :=
  spec_l19Behind.calls p q r p' q' r' _ w (by unfold spec_l19Behind.f behindB; by_cases x1 : p ≤ p' <;> by_cases x2 : q ≤ q' <;> simp [x1, x2])
set_option maxHeartbeats 8000000 in
set_option maxRecDepth 100000 in
theorem spec_FleetOk.go (A0 : Option Addr) (c0 : Nat) (l0 : List S33) (A1 : Option Addr) (c1 : Nat) (l1 : List S70) (A2 : Option Addr) (c2 : Nat) (l2 : List S72) (p q r : Int) (w : World) (hr0 : Kd.C k33 w A0 l0.length l0) (hc0 : l0.length ≤ c0) (hr1 : Kd.C k70 w A1 l1.length l1) (hc1 : l1.length ≤ c1) (hr2 : Kd.C k72 w A2 l2.length l2) (hc2 : l2.length ≤ c2) (hz : FleetSz l0 l1 l2) :
    Calls Try.prog 29 #[.agg #[.slice A0 l0.length c0, .slice A1 l1.length c1, .slice A2 l2.length c2, .int .i64 p, .int .i64 q, .int .i64 r]] w fun e w' => e = .returned (.bool (fleetB l0 l1 l2 p q r)) ∧ Below w.heap.size w w' := by
  have hu33 := Try.underlying33
  have hu70 := Try.underlying70
  have hu72 := Try.underlying72
  have hu56 := Try.underlying56
  have hu25 := Try.underlying25
  have HR0 := Aside0.mk hr0
  have HR1 := Aside0.mk hr1
  have HR2 := Aside0.mk hr2
  have HX0 := Aside0.mk hz.t
  have HX1 := Aside0.mk hz.c
  have HX2 := Aside0.mk hz.d
  have hn0 := hz.tn
  have hn1 := hz.cn
  have hn2 := hz.dn
  clear hr0 hr1 hr2 hz
  have BK0 := Aside0.mk (blk_new w (.cells #[.slice A0 l0.length c0, .slice A1 l1.length c1, .slice A2 l2.length c2, .int .i64 p, .int .i64 q, .int .i64 r] 56 (0, 0)))
  have HB0 := Aside0.mk (below_alloc (Below.refl w.heap.size w) (.cells #[.slice A0 l0.length c0, .slice A1 l1.length c1, .slice A2 l2.length c2, .int .i64 p, .int .i64 q, .int .i64 r] 56 (0, 0)))
  obtain ⟨b1, E1⟩ : ∃ b, clockB p q r = b := ⟨_, rfl⟩
  obtain ⟨b2, E2⟩ : ∃ b, carryB l1 = b := ⟨_, rfl⟩
  obtain ⟨b3, E3⟩ : ∃ b, decide ((l0.length : Int) ≤ 40) = b := ⟨_, rfl⟩
  obtain ⟨b4, E4⟩ : ∃ b, decide ((l2.length : Int) ≤ 20) = b := ⟨_, rfl⟩
  have F3 : decide (40 < (l0.length : Int)) = !b3 := by rw [← E3]; exact (lt_le_ _ _)
  have F4 : decide (20 < (l2.length : Int)) = !b4 := by rw [← E4]; exact (lt_le_ _ _)
  have K1 := Aside0.mk (fun w' => kb_ (clock_u p q r w') E1)
  have HE := Aside0.mk (And.intro E1 (And.intro E2 (And.intro E3 E4)))
  clear E1 E2 E3 E4
  go_enter Try.func29, Try.ntmps29
  rcases or4_ b1 b2 b3 b4 with rfl | ⟨rfl, rfl⟩ | ⟨rfl, rfl, rfl⟩ | ⟨rfl, rfl, rfl, rfl⟩ | ⟨rfl, rfl, rfl, rfl⟩
  all_goals (go_wp2_with (first | (go_at_call 13; (with_reducible refine (K1.out _).mono ?_); rintro e w5 ⟨rfl, hb⟩; have BK5 := Aside0.mk (blk_below BK0.out hb); have HB5 := Aside0.mk (below_step HB0.out hb); obtain ⟨hf0, hf1, hf2, hf3, hf4, hf5⟩ := ck6 BK5.out; clear hb) | (go_at_call 21; (with_reducible refine (kb_ (spec_CarryOk.go A1 c1 l1 _ (Kd.C_below HR1.out HB5.out) hc1 hn1 HX1.out) HE.out.2.1).mono ?_); rintro e w6 ⟨rfl, hb⟩; have BK6 := Aside0.mk (blk_below BK5.out hb); have HB6 := Aside0.mk (below_step HB5.out hb); clear hf0 hf1 hf2 hf3 hf4 hf5; obtain ⟨hf0, hf1, hf2, hf3, hf4, hf5⟩ := ck6 BK6.out; clear hb)))
  iterate 4 · go_ret; exact ⟨by unfold fleetB; rw [HE.out.1, HE.out.2.1, HE.out.2.2.1, HE.out.2.2.2]; rfl, by first | exact HB6.out | exact HB5.out⟩
  have HS := Aside0.mk (show fleetB l0 l1 l2 p q r = (tasksFrom (fun a b c => behindB a b c p q r) l0 l0.length 0 && defectsFrom r l2 l2.length 0) by unfold fleetB; rw [HE.out.1, HE.out.2.1, HE.out.2.2.1, HE.out.2.2.2]; rfl)
  clear hf0 hf1 hf2 hf3 hf4 hf5 F3 F4 K1 HE BK0 HB0 BK5 HB5
  go_loopw [3] (fun v wr => ∃ i : Nat, i ≤ l0.length ∧ v = .int .i64 i ∧ Aside0 (fleetB l0 l1 l2 p q r = (tasksFrom (fun a b c => behindB a b c p q r) l0 (l0.length - i) i && defectsFrom r l2 l2.length 0)) ∧ Aside0 (wr.heap[w.heap.size]? = some (.cells #[.slice A0 l0.length c0, .slice A1 l1.length c1, .slice A2 l2.length c2, .int .i64 p, .int .i64 q, .int .i64 r] 56 (0, 0))) ∧ Aside0 (Below w.heap.size w wr)) (fun v _ => l0.length - (intOf v).toNat)
  case atStart => exact ⟨0, Nat.zero_le _, rfl, HS, BK6, HB6⟩
  case round =>
    clear BK6 HB6 HS
    obtain ⟨i, hi, rfl, HE, BK, HB⟩ := hrel
    by_cases hlt : i < l0.length
    · have hfs := ck6 BK.out
      obtain ⟨ad, e0, hx0, hx1, hx2, hx3, hx4, hx5, hx6⟩ := at_T33 (Kd.C_below HR0.out HB.out) (i : Int) (by omega) (by omega)
      cases e0
      simp only [Int.toNat_natCast] at hx0 hx1 hx2 hx3 hx4 hx5 hx6
      obtain ⟨hf0, hf1, hf2, hf3, hf4, hf5⟩ := hfs
      have HS := Aside0.mk (tasks_step hlt HE.out)
      have HZ := Aside0.mk (HX0.out _ (List.getElem_mem hlt))
      rw [← rd_at33 hlt] at HZ
      have HK := Aside0.mk (blk_new wr (.cells #[.string (rd_T33 l0 (i : Int)).f0, .int .i64 (rd_T33 l0 (i : Int)).f1, .int .i64 (rd_T33 l0 (i : Int)).f2, .int .i64 (rd_T33 l0 (i : Int)).f3, .int .i64 (rd_T33 l0 (i : Int)).f4.f0, .int .i64 (rd_T33 l0 (i : Int)).f4.f1, .int .i64 (rd_T33 l0 (i : Int)).f4.f2] 33 (0, 0)))
      have HB2 := Aside0.mk (below_alloc HB.out (.cells #[.string (rd_T33 l0 (i : Int)).f0, .int .i64 (rd_T33 l0 (i : Int)).f1, .int .i64 (rd_T33 l0 (i : Int)).f2, .int .i64 (rd_T33 l0 (i : Int)).f3, .int .i64 (rd_T33 l0 (i : Int)).f4.f0, .int .i64 (rd_T33 l0 (i : Int)).f4.f1, .int .i64 (rd_T33 l0 (i : Int)).f4.f2] 33 (0, 0)))
      have BK2 := Aside0.mk (blk_alloc BK.out (.cells #[.string (rd_T33 l0 (i : Int)).f0, .int .i64 (rd_T33 l0 (i : Int)).f1, .int .i64 (rd_T33 l0 (i : Int)).f2, .int .i64 (rd_T33 l0 (i : Int)).f3, .int .i64 (rd_T33 l0 (i : Int)).f4.f0, .int .i64 (rd_T33 l0 (i : Int)).f4.f1, .int .i64 (rd_T33 l0 (i : Int)).f4.f2] 33 (0, 0)))
      go_upto_region 7 with (fail)
      generalize wr.heap.size = gx at HK ⊢
      refine world_ (fun W => W.heap[gx]? = some (.cells #[.string (rd_T33 l0 (i : Int)).f0, .int .i64 (rd_T33 l0 (i : Int)).f1, .int .i64 (rd_T33 l0 (i : Int)).f2, .int .i64 (rd_T33 l0 (i : Int)).f3, .int .i64 (rd_T33 l0 (i : Int)).f4.f0, .int .i64 (rd_T33 l0 (i : Int)).f4.f1, .int .i64 (rd_T33 l0 (i : Int)).f4.f2] 33 (0, 0)) ∧ W.heap[w.heap.size]? = some (.cells #[.slice (some ad) l0.length c0, .slice A1 l1.length c1, .slice A2 l2.length c2, .int .i64 p, .int .i64 q, .int .i64 r] 56 (0, 0)) ∧ Below w.heap.size w W) ⟨HK.out, BK2.out, HB2.out⟩ ?_
      clear HK HB2 HE HB hx0 hx1 hx2 hx3 hx4 hx5 hx6 BK2 BK hf0 hf1 hf2 hf3 hf4 hf5
      rintro W ⟨HK, BK, HB⟩
      replace HK := Aside0.mk HK
      replace HB := Aside0.mk HB
      replace BK := Aside0.mk BK
      obtain ⟨b1, Eb1⟩ : ∃ b, taskB (rd_T33 l0 (i : Int)).f0 (rd_T33 l0 (i : Int)).f1 (rd_T33 l0 (i : Int)).f2 (rd_T33 l0 (i : Int)).f3 (rd_T33 l0 (i : Int)).f4.f0 (rd_T33 l0 (i : Int)).f4.f1 (rd_T33 l0 (i : Int)).f4.f2 = b := ⟨_, rfl⟩
      have Kb1 := Aside0.mk (fun w' => kb_ (task_u (rd_T33 l0 (i : Int)).f0 (rd_T33 l0 (i : Int)).f1 (rd_T33 l0 (i : Int)).f2 (rd_T33 l0 (i : Int)).f3 (rd_T33 l0 (i : Int)).f4.f0 (rd_T33 l0 (i : Int)).f4.f1 (rd_T33 l0 (i : Int)).f4.f2 HZ.out w') Eb1)
      obtain ⟨b2, Eb2⟩ : ∃ b, behindB (rd_T33 l0 (i : Int)).f4.f0 (rd_T33 l0 (i : Int)).f4.f1 (rd_T33 l0 (i : Int)).f4.f2 p q r = b := ⟨_, rfl⟩
      have Kb2 := Aside0.mk (fun w' => kb_ (behind_u (rd_T33 l0 (i : Int)).f4.f0 (rd_T33 l0 (i : Int)).f4.f1 (rd_T33 l0 (i : Int)).f4.f2 p q r w') Eb2)
      have HE := Aside0.mk (And.intro Eb1 Eb2)
      clear Eb1 Eb2
      go_cut [67] (fun v wc => v = .bool (!taskAt (fun a b c => behindB a b c p q r) l0 (i : Int)) ∧ Aside0 (wc.heap[w.heap.size]? = some (.cells #[.slice (some ad) l0.length c0, .slice A1 l1.length c1, .slice A2 l2.length c2, .int .i64 p, .int .i64 q, .int .i64 r] 56 (0, 0))) ∧ Aside0 (Below w.heap.size w wc))
      case first =>
        clear HS
        rcases Nat.eq_zero_or_pos i with h0 | h0
        · subst h0
          have L := Aside0.mk (fun w' (h : Up W w') => (⟨ck (blk_below HK.out h) 0 rfl, ck (blk_below HK.out h) 1 rfl, ck (blk_below HK.out h) 2 rfl, ck (blk_below HK.out h) 3 rfl, ck (blk_below HK.out h) 4 rfl, ck (blk_below HK.out h) 5 rfl, ck (blk_below HK.out h) 6 rfl, ck (blk_below BK.out h) 0 rfl, ck (blk_below BK.out h) 3 rfl, ck (blk_below BK.out h) 4 rfl, ck (blk_below BK.out h) 5 rfl⟩ : w'.cell? ⟨gx, 0, none⟩ = some (.string (rd_T33 l0 ((0 : Nat) : Int)).f0) ∧ w'.cell? ⟨gx, 1, none⟩ = some (.int .i64 (rd_T33 l0 ((0 : Nat) : Int)).f1) ∧ w'.cell? ⟨gx, 2, none⟩ = some (.int .i64 (rd_T33 l0 ((0 : Nat) : Int)).f2) ∧ w'.cell? ⟨gx, 3, none⟩ = some (.int .i64 (rd_T33 l0 ((0 : Nat) : Int)).f3) ∧ w'.cell? ⟨gx, 4, none⟩ = some (.int .i64 (rd_T33 l0 ((0 : Nat) : Int)).f4.f0) ∧ w'.cell? ⟨gx, 5, none⟩ = some (.int .i64 (rd_T33 l0 ((0 : Nat) : Int)).f4.f1) ∧ w'.cell? ⟨gx, 6, none⟩ = some (.int .i64 (rd_T33 l0 ((0 : Nat) : Int)).f4.f2) ∧ w'.cell? ⟨w.heap.size, 0, none⟩ = some (.slice (some ad) l0.length c0) ∧ w'.cell? ⟨w.heap.size, 3, none⟩ = some (.int .i64 p) ∧ w'.cell? ⟨w.heap.size, 4, none⟩ = some (.int .i64 q) ∧ w'.cell? ⟨w.heap.size, 5, none⟩ = some (.int .i64 r)))
          have HP : Aside0 (taskAtPv l0 ((0 : Nat) : Int) = true) := ⟨rfl⟩
          rcases or2_ b1 b2 with rfl | ⟨rfl, rfl⟩ | ⟨rfl, rfl⟩
          all_goals
            (refine rg_ (by kernel_rfl) (by kernel_rfl) ?_; (repeat (first | refine qn_ ?_ | refine qc_ uTaskOk (fun w' _ => Kb1.out w') ?_ | refine qc_ uBehind (fun w' _ => Kb2.out w') ?_ | refine ql_ L.out ?_)); refine qd_ ?_; intro w5 hb; (try go_wp2); go_meet; case rel => exact ⟨by have hp := HP.out; unfold taskAtPv at hp; unfold taskAt; (try dsimp only); rw [HE.out.1, HE.out.2, hp]; first | rfl | simp, ⟨blk_below BK.out hb⟩, ⟨below_step HB.out hb⟩⟩)
        · obtain ⟨j, rfl⟩ : ∃ j, i = j + 1 := ⟨i - 1, by omega⟩
          obtain ⟨ad', e0, y0, y1, y2, y3, y4, y5, y6⟩ := at_T33 HR0.out (j : Int) (by omega) (by omega)
          obtain rfl : ad = ad' := by injection e0
          simp only [Int.toNat_natCast] at y0 y1 y2 y3 y4 y5 y6
          have hj : wrap64 (j : Int) = (j : Int) := w64 (by omega) (by omega)
          have hjl : j < l0.length := by omega
          have L := Aside0.mk (fun w' (h : Up W w') => (⟨ck (blk_below HK.out h) 0 rfl, ck (blk_below HK.out h) 1 rfl, ck (blk_below HK.out h) 2 rfl, ck (blk_below HK.out h) 3 rfl, ck (blk_below HK.out h) 4 rfl, ck (blk_below HK.out h) 5 rfl, ck (blk_below HK.out h) 6 rfl, ck (blk_below BK.out h) 0 rfl, ck (blk_below BK.out h) 3 rfl, ck (blk_below BK.out h) 4 rfl, ck (blk_below BK.out h) 5 rfl, bc (below_step HB.out h) y0⟩ : w'.cell? ⟨gx, 0, none⟩ = some (.string (rd_T33 l0 ((j + 1 : Nat) : Int)).f0) ∧ w'.cell? ⟨gx, 1, none⟩ = some (.int .i64 (rd_T33 l0 ((j + 1 : Nat) : Int)).f1) ∧ w'.cell? ⟨gx, 2, none⟩ = some (.int .i64 (rd_T33 l0 ((j + 1 : Nat) : Int)).f2) ∧ w'.cell? ⟨gx, 3, none⟩ = some (.int .i64 (rd_T33 l0 ((j + 1 : Nat) : Int)).f3) ∧ w'.cell? ⟨gx, 4, none⟩ = some (.int .i64 (rd_T33 l0 ((j + 1 : Nat) : Int)).f4.f0) ∧ w'.cell? ⟨gx, 5, none⟩ = some (.int .i64 (rd_T33 l0 ((j + 1 : Nat) : Int)).f4.f1) ∧ w'.cell? ⟨gx, 6, none⟩ = some (.int .i64 (rd_T33 l0 ((j + 1 : Nat) : Int)).f4.f2) ∧ w'.cell? ⟨w.heap.size, 0, none⟩ = some (.slice (some ad) l0.length c0) ∧ w'.cell? ⟨w.heap.size, 3, none⟩ = some (.int .i64 p) ∧ w'.cell? ⟨w.heap.size, 4, none⟩ = some (.int .i64 q) ∧ w'.cell? ⟨w.heap.size, 5, none⟩ = some (.int .i64 r) ∧ w'.cell? (ad.add (j * 7)) = some (.string (rd_T33 l0 (j : Int)).f0)))
          obtain ⟨bP, EP⟩ : ∃ b, Op.bytesLess (rd_T33 l0 (j : Int)).f0.toList (rd_T33 l0 ((j : Int) + 1)).f0.toList = b := ⟨_, rfl⟩
          have HP : Aside0 (taskAtPv l0 ((j + 1 : Nat) : Int) = bP) := ⟨by unfold taskAtPv; rw [decide_eq_false (show ¬ ¬ ((j + 1 : Nat) : Int) > 0 by omega), show ((j + 1 : Nat) : Int) - 1 = (j : Int) by omega, show ((j + 1 : Nat) : Int) = (j : Int) + 1 by omega, EP]; rfl⟩
          clear y0 y1 y2 y3 y4 y5 y6 e0 h0
          rcases or3_ b1 b2 bP with rfl | ⟨rfl, rfl⟩ | ⟨rfl, rfl, rfl⟩ | ⟨rfl, rfl, rfl⟩
          all_goals
            (refine rg_ (by kernel_rfl) (by kernel_rfl) ?_; (repeat (first | refine qn_ ?_ | refine qc_ uTaskOk (fun w' _ => Kb1.out w') ?_ | refine qc_ uBehind (fun w' _ => Kb2.out w') ?_ | refine ql_ L.out ?_)); refine qd_ ?_; intro w5 hb; (try go_wp2); go_meet; case rel => exact ⟨by have hp := HP.out; unfold taskAtPv at hp; unfold taskAt; (try dsimp only); rw [HE.out.1, HE.out.2, hp]; first | rfl | simp, ⟨blk_below BK.out hb⟩, ⟨below_step HB.out hb⟩⟩)
      case rest =>
        clear HB HZ HE HK BK
        obtain ⟨rfl, BK, HB⟩ := hcut
        cases hc : taskAt (fun a b c => behindB a b c p q r) l0 (i : Int) with
        | false =>
          rw [hc] at HS
          go_wp2
          go_ret
          exact ⟨by rw [HS.out]; rfl, HB.out⟩
        | true =>
          rw [hc] at HS
          go_wp2
          go_roundw
          case rel => exact ⟨i + 1, by omega, by go_num, ⟨HS.out⟩, BK, HB⟩
          case measure => simp [intOf]; omega
    · obtain rfl : i = l0.length := by omega
      have HS := Aside0.mk (tasks_end HE.out)
      have HS0 := Aside0.mk (HS.out.trans (Bool.and_true _).symm)
      obtain ⟨hf0, hf1, hf2, hf3, hf4, hf5⟩ := ck6 BK.out
      clear HS HE
      go_wp2
      clear hf0 hf1 hf2 hf3 hf4 hf5
      have BK0 := BK
      have HB0 := HB
      clear BK HB
      obtain ⟨wo, rfl⟩ : ∃ wo : World, wo = wr := ⟨_, rfl⟩
      go_loopw [5] (fun v wr => ∃ i : Nat, i ≤ l2.length ∧ v = .int .i64 i ∧ Aside0 (fleetB l0 l1 l2 p q r = (defectsFrom r l2 (l2.length - i) i && true)) ∧ Aside0 (wr.heap[w.heap.size]? = some (.cells #[.slice A0 l0.length c0, .slice A1 l1.length c1, .slice A2 l2.length c2, .int .i64 p, .int .i64 q, .int .i64 r] 56 (0, 0))) ∧ Aside0 (Below w.heap.size w wr)) (fun v _ => l2.length - (intOf v).toNat)
      case atStart => exact ⟨0, Nat.zero_le _, rfl, ⟨HS0.out⟩, BK0, HB0⟩
      case round =>
        clear BK0 HB0 HS0
        obtain ⟨i, hi, rfl, HE, BK, HB⟩ := hrel
        by_cases hlt : i < l2.length
        · have hfs := ck6 BK.out
          obtain ⟨ad, e0, hx0, hx1, hx2⟩ := at_T72 (Kd.C_below HR2.out HB.out) (i : Int) (by omega) (by omega)
          cases e0
          simp only [Int.toNat_natCast] at hx0 hx1 hx2
          obtain ⟨hf0, hf1, hf2, hf3, hf4, hf5⟩ := hfs
          have HS := Aside0.mk (defects_step hlt HE.out)
          have HZ := Aside0.mk (HX2.out _ (List.getElem_mem hlt))
          rw [← rd_at72 hlt] at HZ
          have HK := Aside0.mk (blk_new wr (.cells #[.string (rd_T72 l2 (i : Int)).f0, .int .i64 (rd_T72 l2 (i : Int)).f1, .int .i64 (rd_T72 l2 (i : Int)).f2] 72 (0, 0)))
          have HB2 := Aside0.mk (below_alloc HB.out (.cells #[.string (rd_T72 l2 (i : Int)).f0, .int .i64 (rd_T72 l2 (i : Int)).f1, .int .i64 (rd_T72 l2 (i : Int)).f2] 72 (0, 0)))
          have BK2 := Aside0.mk (blk_alloc BK.out (.cells #[.string (rd_T72 l2 (i : Int)).f0, .int .i64 (rd_T72 l2 (i : Int)).f1, .int .i64 (rd_T72 l2 (i : Int)).f2] 72 (0, 0)))
          go_upto_region 13 with (fail)
          generalize wr.heap.size = gx at HK ⊢
          refine world_ (fun W => W.heap[gx]? = some (.cells #[.string (rd_T72 l2 (i : Int)).f0, .int .i64 (rd_T72 l2 (i : Int)).f1, .int .i64 (rd_T72 l2 (i : Int)).f2] 72 (0, 0)) ∧ W.heap[w.heap.size]? = some (.cells #[.slice A0 l0.length c0, .slice A1 l1.length c1, .slice (some ad) l2.length c2, .int .i64 p, .int .i64 q, .int .i64 r] 56 (0, 0)) ∧ Below w.heap.size w W) ⟨HK.out, BK2.out, HB2.out⟩ ?_
          clear HK HB2 HE HB hx0 hx1 hx2 BK2 BK hf0 hf1 hf2 hf3 hf4 hf5
          rintro W ⟨HK, BK, HB⟩
          replace HK := Aside0.mk HK
          replace HB := Aside0.mk HB
          replace BK := Aside0.mk BK
          obtain ⟨b1, Eb1⟩ : ∃ b, nameB (rd_T72 l2 (i : Int)).f0 = b := ⟨_, rfl⟩
          have Kb1 := Aside0.mk (fun w' => kb_ (name_u (rd_T72 l2 (i : Int)).f0 HZ.out w') Eb1)
          obtain ⟨b2, Eb2⟩ : ∃ b, inB (rd_T72 l2 (i : Int)).f1 1 1000000 = b := ⟨_, rfl⟩
          have Kb2 := Aside0.mk (fun w' => kb_ (in_u (rd_T72 l2 (i : Int)).f1 1 1000000 w') Eb2)
          obtain ⟨b3, Eb3⟩ : ∃ b, inB (rd_T72 l2 (i : Int)).f2 0 r = b := ⟨_, rfl⟩
          have Kb3 := Aside0.mk (fun w' => kb_ (in_u (rd_T72 l2 (i : Int)).f2 0 r w') Eb3)
          have HE := Aside0.mk (And.intro Eb1 (And.intro Eb2 Eb3))
          clear Eb1 Eb2 Eb3
          go_cut [114] (fun v wc => v = .bool (!defectAt r l2 (i : Int)) ∧ Aside0 (wc.heap[w.heap.size]? = some (.cells #[.slice A0 l0.length c0, .slice A1 l1.length c1, .slice (some ad) l2.length c2, .int .i64 p, .int .i64 q, .int .i64 r] 56 (0, 0))) ∧ Aside0 (Below w.heap.size w wc))
          case first =>
            clear HS
            rcases Nat.eq_zero_or_pos i with h0 | h0
            · subst h0
              have L := Aside0.mk (fun w' (h : Up W w') => (⟨ck (blk_below HK.out h) 0 rfl, ck (blk_below HK.out h) 1 rfl, ck (blk_below HK.out h) 2 rfl, ck (blk_below BK.out h) 2 rfl, ck (blk_below BK.out h) 5 rfl⟩ : w'.cell? ⟨gx, 0, none⟩ = some (.string (rd_T72 l2 ((0 : Nat) : Int)).f0) ∧ w'.cell? ⟨gx, 1, none⟩ = some (.int .i64 (rd_T72 l2 ((0 : Nat) : Int)).f1) ∧ w'.cell? ⟨gx, 2, none⟩ = some (.int .i64 (rd_T72 l2 ((0 : Nat) : Int)).f2) ∧ w'.cell? ⟨w.heap.size, 2, none⟩ = some (.slice (some ad) l2.length c2) ∧ w'.cell? ⟨w.heap.size, 5, none⟩ = some (.int .i64 r)))
              have HP : Aside0 (defectAtPv l2 ((0 : Nat) : Int) = true) := ⟨rfl⟩
              rcases or3_ b1 b2 b3 with rfl | ⟨rfl, rfl⟩ | ⟨rfl, rfl, rfl⟩ | ⟨rfl, rfl, rfl⟩
              all_goals
                (refine rg_ (by kernel_rfl) (by kernel_rfl) ?_; (repeat (first | refine qn_ ?_ | refine qc_ uName (fun w' _ => Kb1.out w') ?_ | refine qc_ uIn (fun w' _ => Kb2.out w') ?_ | refine qc_ uIn (fun w' _ => Kb3.out w') ?_ | refine ql_ L.out ?_)); refine qd_ ?_; intro w5 hb; (try go_wp2); go_meet; case rel => exact ⟨by have hp := HP.out; unfold defectAtPv at hp; unfold defectAt; (try dsimp only); rw [HE.out.1, HE.out.2.1, HE.out.2.2, hp]; first | rfl | simp, ⟨blk_below BK.out hb⟩, ⟨below_step HB.out hb⟩⟩)
            · obtain ⟨j, rfl⟩ : ∃ j, i = j + 1 := ⟨i - 1, by omega⟩
              obtain ⟨ad', e0, y0, y1, y2⟩ := at_T72 HR2.out (j : Int) (by omega) (by omega)
              obtain rfl : ad = ad' := by injection e0
              simp only [Int.toNat_natCast] at y0 y1 y2
              have hj : wrap64 (j : Int) = (j : Int) := w64 (by omega) (by omega)
              have hjl : j < l2.length := by omega
              have L := Aside0.mk (fun w' (h : Up W w') => (⟨ck (blk_below HK.out h) 0 rfl, ck (blk_below HK.out h) 1 rfl, ck (blk_below HK.out h) 2 rfl, ck (blk_below BK.out h) 2 rfl, ck (blk_below BK.out h) 5 rfl, bc (below_step HB.out h) y1⟩ : w'.cell? ⟨gx, 0, none⟩ = some (.string (rd_T72 l2 ((j + 1 : Nat) : Int)).f0) ∧ w'.cell? ⟨gx, 1, none⟩ = some (.int .i64 (rd_T72 l2 ((j + 1 : Nat) : Int)).f1) ∧ w'.cell? ⟨gx, 2, none⟩ = some (.int .i64 (rd_T72 l2 ((j + 1 : Nat) : Int)).f2) ∧ w'.cell? ⟨w.heap.size, 2, none⟩ = some (.slice (some ad) l2.length c2) ∧ w'.cell? ⟨w.heap.size, 5, none⟩ = some (.int .i64 r) ∧ w'.cell? ⟨(ad.add (j * 3)).block, (ad.add (j * 3)).off + 1, none⟩ = some (.int .i64 (rd_T72 l2 (j : Int)).f1)))
              obtain ⟨bP, EP⟩ : ∃ b, decide ((rd_T72 l2 (j : Int)).f1 < (rd_T72 l2 ((j : Int) + 1)).f1) = b := ⟨_, rfl⟩
              have HP : Aside0 (defectAtPv l2 ((j + 1 : Nat) : Int) = bP) := ⟨by unfold defectAtPv; rw [decide_eq_false (show ¬ ¬ ((j + 1 : Nat) : Int) > 0 by omega), show ((j + 1 : Nat) : Int) - 1 = (j : Int) by omega, show ((j + 1 : Nat) : Int) = (j : Int) + 1 by omega, EP]; rfl⟩
              have EQ : decide ((rd_T72 l2 ((j : Int) + 1)).f1 ≤ (rd_T72 l2 (j : Int)).f1) = !bP := by rw [← EP]; exact le_lt_ _ _
              clear EP
              clear y0 y1 y2 e0 h0
              rcases or4_ b1 b2 bP b3 with rfl | ⟨rfl, rfl⟩ | ⟨rfl, rfl, rfl⟩ | ⟨rfl, rfl, rfl, rfl⟩ | ⟨rfl, rfl, rfl, rfl⟩
              all_goals
                (refine rg_ (by kernel_rfl) (by kernel_rfl) ?_; (repeat (first | refine qn_ ?_ | refine qc_ uName (fun w' _ => Kb1.out w') ?_ | refine qc_ uIn (fun w' _ => Kb2.out w') ?_ | refine qc_ uIn (fun w' _ => Kb3.out w') ?_ | refine ql_ L.out ?_)); refine qd_ ?_; intro w5 hb; (try go_wp2); go_meet; case rel => exact ⟨by have hp := HP.out; unfold defectAtPv at hp; unfold defectAt; (try dsimp only); rw [HE.out.1, HE.out.2.1, HE.out.2.2, hp]; first | rfl | simp, ⟨blk_below BK.out hb⟩, ⟨below_step HB.out hb⟩⟩)
          case rest =>
            clear HB HZ HE HK BK
            obtain ⟨rfl, BK, HB⟩ := hcut
            cases hc : defectAt r l2 (i : Int) with
            | false =>
              rw [hc] at HS
              go_wp2
              go_ret
              exact ⟨by rw [HS.out]; rfl, HB.out⟩
            | true =>
              rw [hc] at HS
              go_wp2
              go_roundw
              case rel => exact ⟨i + 1, by omega, by go_num, ⟨HS.out⟩, BK, HB⟩
              case measure => simp [intOf]; omega
        · obtain rfl : i = l2.length := by omega
          have HS := Aside0.mk (defects_end HE.out)
          clear HE
          obtain ⟨hf0, hf1, hf2, hf3, hf4, hf5⟩ := ck6 BK.out
          go_wp2
          go_ret
          exact ⟨by rw [HS.out]; rfl, HB.out⟩
def spec_FleetOk.f (l0_0 : List S33) (l0_1 : List S70) (l0_2 : List S72) (a0_3 : Int) (a0_4 : Int) (a0_5 : Int) : Option (Bool) := if fleetSzB l0_0 l0_1 l0_2 = true then some (fleetB l0_0 l0_1 l0_2 a0_3 a0_4 a0_5) else none
theorem spec_FleetOk.calls (A0_0 : Option Addr) (c0_0 : Nat) (l0_0 : List (S33)) (A0_1 : Option Addr) (c0_1 : Nat) (l0_1 : List (S70)) (A0_2 : Option Addr) (c0_2 : Nat) (l0_2 : List (S72)) (a0_3 : Int) (a0_4 : Int) (a0_5 : Int) (r : Bool) (w : World) (hr0_0 : Kd.C k33 w A0_0 l0_0.length l0_0) (hc0_0 : l0_0.length ≤ c0_0) (hr0_1 : Kd.C k70 w A0_1 l0_1.length l0_1) (hc0_1 : l0_1.length ≤ c0_1) (hr0_2 : Kd.C k72 w A0_2 l0_2.length l0_2) (hc0_2 : l0_2.length ≤ c0_2) (h : spec_FleetOk.f l0_0 l0_1 l0_2 a0_3 a0_4 a0_5 = some r) :
    Calls Try.prog 29 #[.agg #[.slice A0_0 l0_0.length c0_0, .slice A0_1 l0_1.length c0_1, .slice A0_2 l0_2.length c0_2, .int .i64 a0_3, .int .i64 a0_4, .int .i64 a0_5]] w fun e w' => e = .returned (.bool r) ∧ Below w.heap.size w w' := by
  unfold spec_FleetOk.f at h
  by_cases hz : fleetSzB l0_0 l0_1 l0_2 = true
  · rw [if_pos hz] at h
    have e := Option.some.inj h
    have c := spec_FleetOk.go A0_0 c0_0 l0_0 A0_1 c0_1 l0_1 A0_2 c0_2 l0_2 a0_3 a0_4 a0_5 w hr0_0 hc0_0 hr0_1 hc0_1 hr0_2 hc0_2 (fleetSz_of.1 hz)
    rw [e] at c
    exact c
  · rw [if_neg hz] at h
    exact absurd h (by simp)
-- HAND TO

/- spec_l19Carry: told with spec.Release -/

/- spec_l19Many: told with spec.Release -/

end Go.Proofs.Ytbgdibbgngpggaa.PFnCarried
