import Derived.Test.YtdimdlifjdbgnaaGreatPFnExactRunWorkx2
namespace Go.Proofs.YtdimdlifjdbgnaaGreat.PFnExactRunWork
open Go.RowKit Go.Proofs.YtdimdlifjdbgnaaGreatW.PrintWords Go.Proofs.YtdimdlifjdbgnaaGreatW.PrintLast Go.Proofs.YtdimdlifjdbgnaaGreatW.PrintMore Go.Proofs.YtdimdlifjdbgnaaGreat.Sq
attribute [local go_sem] max2_int min2_int max_two min_two max_three min_three max_four min_four
set_option linter.unusedVariables false
set_option linter.unusedSimpArgs false

-- HAND FROM
open Go.Proofs.YtdimdlifjdbgnaaGreat.Base Go.Proofs.YtdimdlifjdbgnaaGreat.Sq
def clockB (a b c : Int) : Bool := inB a 0 1000000 && (inB b 0 1000000 && inB c 0 1000000)
theorem clockB_in {a b c : Int} (h : clockB a b c = true) : (0 ≤ a ∧ a ≤ 1000000) ∧ (0 ≤ b ∧ b ≤ 1000000) ∧ 0 ≤ c ∧ c ≤ 1000000 := by
  simp [clockB, inB] at h
  omega
def taskB (n : ByteArray) (h c d p q r : Int) : Bool := nameB n && (inB h 0 100000 && (inB c 0 100000 && (inB d 0 100000 && (decide (h + c + d > 0) && clockB p q r))))
theorem taskB_in {n : ByteArray} {h c d p q r : Int} (k : taskB n h c d p q r = true) : nameB n = true ∧ ((0 ≤ h ∧ h ≤ 100000) ∧ (0 ≤ c ∧ c ≤ 100000) ∧ 0 ≤ d ∧ d ≤ 100000) ∧ (h + c + d > 0) ∧ clockB p q r = true := by
  simp only [taskB, Bool.and_eq_true, inB_iff, decide_eq_true_eq] at k
  exact ⟨k.1, ⟨k.2.1, k.2.2.1, k.2.2.2.1⟩, k.2.2.2.2.1, k.2.2.2.2.2⟩
def behindB (p q r p' q' r' : Int) : Bool := decide (p ≤ p') && (decide (q ≤ q') && decide (r ≤ r'))
abbrev Tk := S86
abbrev Df := S90
def passB (p q r p' q' r' : Int) : Bool := decide (mn (mn (wrap64 (p' - p)) (wrap64 (q' - q))) (wrap64 (r' - r)) ≥ 0)
theorem passB_is {p q r p' q' r' : Int} (h : clockB p q r = true) (h' : clockB p' q' r' = true) : passB p q r p' q' r' = behindB p q r p' q' r' := by
  have a := clockB_in h
  have b := clockB_in h'
  unfold passB behindB
  rw [w64 (n := p' - p) (by omega) (by omega), w64 (n := q' - q) (by omega) (by omega), w64 (n := r' - r) (by omega) (by omega), Bool.eq_iff_iff]
  simp only [Bool.and_eq_true, decide_eq_true_eq]
  unfold mn
  repeat' split
  all_goals omega
def taskAt (β : Int → Int → Int → Bool) (xs : List Tk) (i : Int) : Bool := taskB (rd_T86 xs i).f0 (rd_T86 xs i).f1 (rd_T86 xs i).f2 (rd_T86 xs i).f3 (rd_T86 xs i).f4.f0 (rd_T86 xs i).f4.f1 (rd_T86 xs i).f4.f2 && (β (rd_T86 xs i).f4.f0 (rd_T86 xs i).f4.f1 (rd_T86 xs i).f4.f2 && (decide (¬ i > 0) || Op.bytesLess (rd_T86 xs (i - 1)).f0.toList (rd_T86 xs i).f0.toList))
def tasksFrom (β : Int → Int → Int → Bool) (xs : List Tk) : Nat → Nat → Bool
  | 0, _ => true
  | d + 1, i => taskAt β xs (i : Int) && tasksFrom β xs d (i + 1)
def defectAt (r : Int) (xs : List Df) (i : Int) : Bool := nameB (rd_T90 xs i).f0 && (inB (rd_T90 xs i).f1 1 1000000 && ((decide (¬ i > 0) || decide ((rd_T90 xs (i - 1)).f1 < (rd_T90 xs i).f1)) && inB (rd_T90 xs i).f2 0 r))
def defectsFrom (r : Int) (xs : List Df) : Nat → Nat → Bool
  | 0, _ => true
  | d + 1, i => defectAt r xs (i : Int) && defectsFrom r xs d (i + 1)
def fleetB (ts : List Tk) (cs : List Cr) (ds : List Df) (p q r : Int) : Bool := clockB p q r && (carryB cs && (decide ((ts.length : Int) ≤ 40) && (decide ((ds.length : Int) ≤ 20) && (tasksFrom (fun a b c => behindB a b c p q r) ts ts.length 0 && defectsFrom r ds ds.length 0))))
theorem tasks_same {p q r : Int} (h : clockB p q r = true) (xs : List Tk) (d : Nat) : ∀ i, tasksFrom (fun a b c => passB a b c p q r) xs d i = tasksFrom (fun a b c => behindB a b c p q r) xs d i := by
  induction d with
  | zero => intro i; rfl
  | succ d ih =>
    intro i
    simp only [tasksFrom, ih]
    congr 1
    unfold taskAt
    dsimp only
    cases ht : taskB (rd_T86 xs (i : Int)).f0 (rd_T86 xs (i : Int)).f1 (rd_T86 xs (i : Int)).f2 (rd_T86 xs (i : Int)).f3 (rd_T86 xs (i : Int)).f4.f0 (rd_T86 xs (i : Int)).f4.f1 (rd_T86 xs (i : Int)).f4.f2 with
    | false => rfl
    | true => rw [passB_is (taskB_in ht).2.2.2 h]
structure FleetSz (ts : List S86) (cs : List S88) (ds : List S90) : Prop where
  t : ∀ x ∈ ts, x.f0.size ≤ 140737488355328
  c : ∀ x ∈ cs, x.f0.size ≤ 140737488355328
  d : ∀ x ∈ ds, x.f0.size ≤ 140737488355328
  tn : ts.length ≤ 140737488355328
  cn : cs.length ≤ 140737488355328
  dn : ds.length ≤ 140737488355328
def fleetSzB (ts : List S86) (cs : List S88) (ds : List S90) : Bool := (ts.all (fun x => decide (x.f0.size ≤ 140737488355328)) && (cs.all (fun x => decide (x.f0.size ≤ 140737488355328)) && ds.all (fun x => decide (x.f0.size ≤ 140737488355328)))) && (decide (ts.length ≤ 140737488355328) && (decide (cs.length ≤ 140737488355328) && decide (ds.length ≤ 140737488355328)))
theorem fleetSz_of {ts : List S86} {cs : List S88} {ds : List S90} : fleetSzB ts cs ds = true ↔ FleetSz ts cs ds := by
  unfold fleetSzB
  simp only [Bool.and_eq_true, List.all_eq_true, decide_eq_true_eq]
  exact ⟨fun h => ⟨h.1.1, h.1.2.1, h.1.2.2, h.2.1, h.2.2.1, h.2.2.2⟩, fun h => ⟨⟨h.t, h.c, h.d⟩, h.tn, h.cn, h.dn⟩⟩
theorem tasks_step {β : Int → Int → Int → Bool} {l : List S86} {i : Nat} (h : i < l.length) {b R : Bool} (e : b = (tasksFrom β l (l.length - i) i && R)) : b = (taskAt β l (i : Int) && (tasksFrom β l (l.length - (i + 1)) (i + 1) && R)) := by
  rw [e, show l.length - i = (l.length - (i + 1)) + 1 by omega, ← Bool.and_assoc]; rfl
theorem tasks_end {β : Int → Int → Int → Bool} {l : List S86} {b R : Bool} (e : b = (tasksFrom β l (l.length - l.length) l.length && R)) : b = R := by
  rw [e, Nat.sub_self]; rfl
theorem defects_step {z : Int} {l : List S90} {i : Nat} (h : i < l.length) {b R : Bool} (e : b = (defectsFrom z l (l.length - i) i && R)) : b = (defectAt z l (i : Int) && (defectsFrom z l (l.length - (i + 1)) (i + 1) && R)) := by
  rw [e, show l.length - i = (l.length - (i + 1)) + 1 by omega, ← Bool.and_assoc]; rfl
theorem defects_end {z : Int} {l : List S90} {b R : Bool} (e : b = (defectsFrom z l (l.length - l.length) l.length && R)) : b = R := by
  rw [e, Nat.sub_self]; rfl
def taskAtPv (xs : List S86) (i : Int) : Bool := decide (¬ i > 0) || Op.bytesLess (rd_T86 xs (i - 1)).f0.toList (rd_T86 xs i).f0.toList
def defectAtPv (xs : List S90) (i : Int) : Bool := decide (¬ i > 0) || decide ((rd_T90 xs (i - 1)).f1 < (rd_T90 xs i).f1)
theorem spec_ClockOk_eq (a b c : Int) : spec_ClockOk.f a b c = some (clockB a b c) := by
  simp only [spec_ClockOk.f, spec_in_eq, Option.bind_some, clockB]
  cases inB a 0 1000000 <;> cases inB b 0 1000000 <;> simp
theorem spec_TaskOk_ev (n : ByteArray) (hn : n.size ≤ 140737488355328) (h c d p q r : Int) : Ev (fun k => spec_TaskOk.f k n h c d p q r) (taskB n h c d p q r) := by
  simp only [spec_TaskOk.f, spec_in_eq, spec_ClockOk_eq, Option.bind_some]
  refine (spec_l1Name_ev n hn).bind ?_
  unfold taskB
  cases nameB n with
  | false => simpa using ev_now false
  | true =>
    cases h1 : inB h 0 100000 with
    | false => simpa using ev_now false
    | true =>
      cases h2 : inB c 0 100000 with
      | false => simpa using ev_now false
      | true =>
        cases h3 : inB d 0 100000 with
        | false => simpa using ev_now false
        | true =>
          rw [inB_iff] at h1 h2 h3
          simp only [if_true, Bool.true_and, w64 (show -9223372036854775808 ≤ h + c by omega) (by omega), w64 (show -9223372036854775808 ≤ h + c + d by omega) (by omega)]
          by_cases h4 : h + c + d > 0
          · simp only [if_pos h4, h4, decide_true, Bool.true_and]; exact ev_now _
          · simp only [if_neg h4, h4, decide_false, Bool.false_and]; exact ev_now _
theorem uTaskOk : Ent Tryz.prog 62 := fun a w => enters_ Tryz.func62 rfl rfl a w
theorem uBehind : Ent Tryz.prog 63 := fun a w => enters_ Tryz.func63 rfl rfl a w
theorem task_u (n : ByteArray) (h c d p q r : Int) (hn : n.size ≤ 140737488355328) (w : World) : Calls Tryz.prog 62 #[.agg #[.string n, .int .i64 h, .int .i64 c, .int .i64 d, .int .i64 p, .int .i64 q, .int .i64 r]] w fun e w' => e = .returned (.bool (taskB n h c d p q r)) ∧ Below w.heap.size w w' := by
  obtain ⟨k, hk⟩ := (spec_TaskOk_ev n hn h c d p q r).rounds
  exact spec_TaskOk.calls k n h c d p q r _ w hk
theorem clock_u (a b c : Int) (w : World) : Calls Tryz.prog 60 #[.agg #[.int .i64 a, .int .i64 b, .int .i64 c]] w fun e w' => e = .returned (.bool (clockB a b c)) ∧ Below w.heap.size w w' := spec_ClockOk.calls a b c _ w (spec_ClockOk_eq a b c)
theorem behind_u (p q r p' q' r' : Int) (w : World) : Calls Tryz.prog 63 #[.agg #[.int .i64 p, .int .i64 q, .int .i64 r], .agg #[.int .i64 p', .int .i64 q', .int .i64 r']] w fun e w' => e = .returned (.bool (behindB p q r p' q' r')) ∧ Below w.heap.size w w' :=
  spec_l19Behind.calls p q r p' q' r' _ w (by unfold spec_l19Behind.f behindB; by_cases x1 : p ≤ p' <;> by_cases x2 : q ≤ q' <;> simp [x1, x2])
set_option maxHeartbeats 8000000 in
set_option maxRecDepth 100000 in
theorem spec_FleetOk.go (A0 : Option Addr) (c0 : Nat) (l0 : List S86) (A1 : Option Addr) (c1 : Nat) (l1 : List S88) (A2 : Option Addr) (c2 : Nat) (l2 : List S90) (p q r : Int) (w : World) (hr0 : Kd.C k86 w A0 l0.length l0) (hc0 : l0.length ≤ c0) (hr1 : Kd.C k88 w A1 l1.length l1) (hc1 : l1.length ≤ c1) (hr2 : Kd.C k90 w A2 l2.length l2) (hc2 : l2.length ≤ c2) (hz : FleetSz l0 l1 l2) :
    Calls Tryz.prog 46 #[.agg #[.slice A0 l0.length c0, .slice A1 l1.length c1, .slice A2 l2.length c2, .int .i64 p, .int .i64 q, .int .i64 r]] w fun e w' => e = .returned (.bool (fleetB l0 l1 l2 p q r)) ∧ Below w.heap.size w w' := by
  have hu86 := Tryz.underlying86
  have hu88 := Tryz.underlying88
  have hu90 := Tryz.underlying90
  have hu37 := Tryz.underlying37
  have hu35 := Tryz.underlying35
  have HR0 := Aside0.mk hr0
  have HR1 := Aside0.mk hr1
  have HR2 := Aside0.mk hr2
  have HX0 := Aside0.mk hz.t
  have HX1 := Aside0.mk hz.c
  have HX2 := Aside0.mk hz.d
  have hn0 := hz.tn
  have hn1 := hz.cn
  have hn2 := hz.dn
  clear hr0 hr1 hr2 hz
  have BK0 := Aside0.mk (blk_new w (.cells #[.slice A0 l0.length c0, .slice A1 l1.length c1, .slice A2 l2.length c2, .int .i64 p, .int .i64 q, .int .i64 r] 37 (0, 0)))
  have HB0 := Aside0.mk (below_alloc (Below.refl w.heap.size w) (.cells #[.slice A0 l0.length c0, .slice A1 l1.length c1, .slice A2 l2.length c2, .int .i64 p, .int .i64 q, .int .i64 r] 37 (0, 0)))
  obtain ⟨b1, E1⟩ : ∃ b, clockB p q r = b := ⟨_, rfl⟩
  obtain ⟨b2, E2⟩ : ∃ b, carryB l1 = b := ⟨_, rfl⟩
  obtain ⟨b3, E3⟩ : ∃ b, decide ((l0.length : Int) ≤ 40) = b := ⟨_, rfl⟩
  obtain ⟨b4, E4⟩ : ∃ b, decide ((l2.length : Int) ≤ 20) = b := ⟨_, rfl⟩
  have F3 : decide (40 < (l0.length : Int)) = !b3 := by rw [← E3]; exact (lt_le_ _ _)
  have F4 : decide (20 < (l2.length : Int)) = !b4 := by rw [← E4]; exact (lt_le_ _ _)
  have K1 := Aside0.mk (fun w' => kb_ (clock_u p q r w') E1)
  have HE := Aside0.mk (And.intro E1 (And.intro E2 (And.intro E3 E4)))
  clear E1 E2 E3 E4
  go_enter Tryz.func46, Tryz.ntmps46
  rcases or4_ b1 b2 b3 b4 with rfl | ⟨rfl, rfl⟩ | ⟨rfl, rfl, rfl⟩ | ⟨rfl, rfl, rfl, rfl⟩ | ⟨rfl, rfl, rfl, rfl⟩
  all_goals (go_wp2_with (first | (go_at_call 60; (with_reducible refine (K1.out _).mono ?_); rintro e w5 ⟨rfl, hb⟩; have BK5 := Aside0.mk (blk_below BK0.out hb); have HB5 := Aside0.mk (below_step HB0.out hb); obtain ⟨hf0, hf1, hf2, hf3, hf4, hf5⟩ := ck6 BK5.out; clear hb) | (go_at_call 61; (with_reducible refine (kb_ (spec_CarryOk.go A1 c1 l1 _ (Kd.C_below HR1.out HB5.out) hc1 hn1 HX1.out) HE.out.2.1).mono ?_); rintro e w6 ⟨rfl, hb⟩; have BK6 := Aside0.mk (blk_below BK5.out hb); have HB6 := Aside0.mk (below_step HB5.out hb); clear hf0 hf1 hf2 hf3 hf4 hf5; obtain ⟨hf0, hf1, hf2, hf3, hf4, hf5⟩ := ck6 BK6.out; clear hb)))
  iterate 4 · go_ret; exact ⟨by unfold fleetB; rw [HE.out.1, HE.out.2.1, HE.out.2.2.1, HE.out.2.2.2]; rfl, by first | exact HB6.out | exact HB5.out⟩
  have HS := Aside0.mk (show fleetB l0 l1 l2 p q r = (tasksFrom (fun a b c => behindB a b c p q r) l0 l0.length 0 && defectsFrom r l2 l2.length 0) by unfold fleetB; rw [HE.out.1, HE.out.2.1, HE.out.2.2.1, HE.out.2.2.2]; rfl)
  clear hf0 hf1 hf2 hf3 hf4 hf5 F3 F4 K1 HE BK0 HB0 BK5 HB5
  go_loopw [3] (fun v wr => ∃ i : Nat, i ≤ l0.length ∧ v = .int .i64 i ∧ Aside0 (fleetB l0 l1 l2 p q r = (tasksFrom (fun a b c => behindB a b c p q r) l0 (l0.length - i) i && defectsFrom r l2 l2.length 0)) ∧ Aside0 (wr.heap[w.heap.size]? = some (.cells #[.slice A0 l0.length c0, .slice A1 l1.length c1, .slice A2 l2.length c2, .int .i64 p, .int .i64 q, .int .i64 r] 37 (0, 0))) ∧ Aside0 (Below w.heap.size w wr)) (fun v _ => l0.length - (intOf v).toNat)
  case atStart => exact ⟨0, Nat.zero_le _, rfl, HS, BK6, HB6⟩
  case round =>
    clear BK6 HB6 HS
    obtain ⟨i, hi, rfl, HE, BK, HB⟩ := hrel
    by_cases hlt : i < l0.length
    · have hfs := ck6 BK.out
      obtain ⟨ad, e0, hx0, hx1, hx2, hx3, hx4, hx5, hx6⟩ := at_T86 (Kd.C_below HR0.out HB.out) (i : Int) (by omega) (by omega)
      cases e0
      simp only [Int.toNat_natCast] at hx0 hx1 hx2 hx3 hx4 hx5 hx6
      obtain ⟨hf0, hf1, hf2, hf3, hf4, hf5⟩ := hfs
      have HS := Aside0.mk (tasks_step hlt HE.out)
      have HZ := Aside0.mk (HX0.out _ (List.getElem_mem hlt))
      rw [← rd_at86 hlt] at HZ
      have HK := Aside0.mk (blk_new wr (.cells #[.string (rd_T86 l0 (i : Int)).f0, .int .i64 (rd_T86 l0 (i : Int)).f1, .int .i64 (rd_T86 l0 (i : Int)).f2, .int .i64 (rd_T86 l0 (i : Int)).f3, .int .i64 (rd_T86 l0 (i : Int)).f4.f0, .int .i64 (rd_T86 l0 (i : Int)).f4.f1, .int .i64 (rd_T86 l0 (i : Int)).f4.f2] 86 (0, 0)))
      have HB2 := Aside0.mk (below_alloc HB.out (.cells #[.string (rd_T86 l0 (i : Int)).f0, .int .i64 (rd_T86 l0 (i : Int)).f1, .int .i64 (rd_T86 l0 (i : Int)).f2, .int .i64 (rd_T86 l0 (i : Int)).f3, .int .i64 (rd_T86 l0 (i : Int)).f4.f0, .int .i64 (rd_T86 l0 (i : Int)).f4.f1, .int .i64 (rd_T86 l0 (i : Int)).f4.f2] 86 (0, 0)))
      have BK2 := Aside0.mk (blk_alloc BK.out (.cells #[.string (rd_T86 l0 (i : Int)).f0, .int .i64 (rd_T86 l0 (i : Int)).f1, .int .i64 (rd_T86 l0 (i : Int)).f2, .int .i64 (rd_T86 l0 (i : Int)).f3, .int .i64 (rd_T86 l0 (i : Int)).f4.f0, .int .i64 (rd_T86 l0 (i : Int)).f4.f1, .int .i64 (rd_T86 l0 (i : Int)).f4.f2] 86 (0, 0)))
      go_upto_region 7 with (fail)
      generalize wr.heap.size = gx at HK ⊢
      refine world_ (fun W => W.heap[gx]? = some (.cells #[.string (rd_T86 l0 (i : Int)).f0, .int .i64 (rd_T86 l0 (i : Int)).f1, .int .i64 (rd_T86 l0 (i : Int)).f2, .int .i64 (rd_T86 l0 (i : Int)).f3, .int .i64 (rd_T86 l0 (i : Int)).f4.f0, .int .i64 (rd_T86 l0 (i : Int)).f4.f1, .int .i64 (rd_T86 l0 (i : Int)).f4.f2] 86 (0, 0)) ∧ W.heap[w.heap.size]? = some (.cells #[.slice (some ad) l0.length c0, .slice A1 l1.length c1, .slice A2 l2.length c2, .int .i64 p, .int .i64 q, .int .i64 r] 37 (0, 0)) ∧ Below w.heap.size w W) ⟨HK.out, BK2.out, HB2.out⟩ ?_
      clear HK HB2 HE HB hx0 hx1 hx2 hx3 hx4 hx5 hx6 BK2 BK hf0 hf1 hf2 hf3 hf4 hf5
      rintro W ⟨HK, BK, HB⟩
      replace HK := Aside0.mk HK
      replace HB := Aside0.mk HB
      replace BK := Aside0.mk BK
      obtain ⟨b1, Eb1⟩ : ∃ b, taskB (rd_T86 l0 (i : Int)).f0 (rd_T86 l0 (i : Int)).f1 (rd_T86 l0 (i : Int)).f2 (rd_T86 l0 (i : Int)).f3 (rd_T86 l0 (i : Int)).f4.f0 (rd_T86 l0 (i : Int)).f4.f1 (rd_T86 l0 (i : Int)).f4.f2 = b := ⟨_, rfl⟩
      have Kb1 := Aside0.mk (fun w' => kb_ (task_u (rd_T86 l0 (i : Int)).f0 (rd_T86 l0 (i : Int)).f1 (rd_T86 l0 (i : Int)).f2 (rd_T86 l0 (i : Int)).f3 (rd_T86 l0 (i : Int)).f4.f0 (rd_T86 l0 (i : Int)).f4.f1 (rd_T86 l0 (i : Int)).f4.f2 HZ.out w') Eb1)
      obtain ⟨b2, Eb2⟩ : ∃ b, behindB (rd_T86 l0 (i : Int)).f4.f0 (rd_T86 l0 (i : Int)).f4.f1 (rd_T86 l0 (i : Int)).f4.f2 p q r = b := ⟨_, rfl⟩
      have Kb2 := Aside0.mk (fun w' => kb_ (behind_u (rd_T86 l0 (i : Int)).f4.f0 (rd_T86 l0 (i : Int)).f4.f1 (rd_T86 l0 (i : Int)).f4.f2 p q r w') Eb2)
      have HE := Aside0.mk (And.intro Eb1 Eb2)
      clear Eb1 Eb2
      go_cut [67] (fun v wc => v = .bool (!taskAt (fun a b c => behindB a b c p q r) l0 (i : Int)) ∧ Aside0 (wc.heap[w.heap.size]? = some (.cells #[.slice (some ad) l0.length c0, .slice A1 l1.length c1, .slice A2 l2.length c2, .int .i64 p, .int .i64 q, .int .i64 r] 37 (0, 0))) ∧ Aside0 (Below w.heap.size w wc))
      case first =>
        clear HS
        rcases Nat.eq_zero_or_pos i with h0 | h0
        · subst h0
          have L := Aside0.mk (fun w' (h : Up W w') => (⟨ck (blk_below HK.out h) 0 rfl, ck (blk_below HK.out h) 1 rfl, ck (blk_below HK.out h) 2 rfl, ck (blk_below HK.out h) 3 rfl, ck (blk_below HK.out h) 4 rfl, ck (blk_below HK.out h) 5 rfl, ck (blk_below HK.out h) 6 rfl, ck (blk_below BK.out h) 0 rfl, ck (blk_below BK.out h) 3 rfl, ck (blk_below BK.out h) 4 rfl, ck (blk_below BK.out h) 5 rfl⟩ : w'.cell? ⟨gx, 0, none⟩ = some (.string (rd_T86 l0 ((0 : Nat) : Int)).f0) ∧ w'.cell? ⟨gx, 1, none⟩ = some (.int .i64 (rd_T86 l0 ((0 : Nat) : Int)).f1) ∧ w'.cell? ⟨gx, 2, none⟩ = some (.int .i64 (rd_T86 l0 ((0 : Nat) : Int)).f2) ∧ w'.cell? ⟨gx, 3, none⟩ = some (.int .i64 (rd_T86 l0 ((0 : Nat) : Int)).f3) ∧ w'.cell? ⟨gx, 4, none⟩ = some (.int .i64 (rd_T86 l0 ((0 : Nat) : Int)).f4.f0) ∧ w'.cell? ⟨gx, 5, none⟩ = some (.int .i64 (rd_T86 l0 ((0 : Nat) : Int)).f4.f1) ∧ w'.cell? ⟨gx, 6, none⟩ = some (.int .i64 (rd_T86 l0 ((0 : Nat) : Int)).f4.f2) ∧ w'.cell? ⟨w.heap.size, 0, none⟩ = some (.slice (some ad) l0.length c0) ∧ w'.cell? ⟨w.heap.size, 3, none⟩ = some (.int .i64 p) ∧ w'.cell? ⟨w.heap.size, 4, none⟩ = some (.int .i64 q) ∧ w'.cell? ⟨w.heap.size, 5, none⟩ = some (.int .i64 r)))
          have HP : Aside0 (taskAtPv l0 ((0 : Nat) : Int) = true) := ⟨rfl⟩
          rcases or2_ b1 b2 with rfl | ⟨rfl, rfl⟩ | ⟨rfl, rfl⟩
          all_goals
            (refine rg_ (by kernel_rfl) (by kernel_rfl) ?_; (repeat (first | refine qn_ ?_ | refine qc_ uTaskOk (fun w' _ => Kb1.out w') ?_ | refine qc_ uBehind (fun w' _ => Kb2.out w') ?_ | refine ql_ L.out ?_)); refine qd_ ?_; intro w5 hb; (try go_wp2); go_meet; case rel => exact ⟨by have hp := HP.out; unfold taskAtPv at hp; unfold taskAt; (try dsimp only); rw [HE.out.1, HE.out.2, hp]; first | rfl | simp, ⟨blk_below BK.out hb⟩, ⟨below_step HB.out hb⟩⟩)
        · obtain ⟨j, rfl⟩ : ∃ j, i = j + 1 := ⟨i - 1, by omega⟩
          obtain ⟨ad', e0, y0, y1, y2, y3, y4, y5, y6⟩ := at_T86 HR0.out (j : Int) (by omega) (by omega)
          obtain rfl : ad = ad' := by injection e0
          simp only [Int.toNat_natCast] at y0 y1 y2 y3 y4 y5 y6
          have hj : wrap64 (j : Int) = (j : Int) := w64 (by omega) (by omega)
          have hjl : j < l0.length := by omega
          have L := Aside0.mk (fun w' (h : Up W w') => (⟨ck (blk_below HK.out h) 0 rfl, ck (blk_below HK.out h) 1 rfl, ck (blk_below HK.out h) 2 rfl, ck (blk_below HK.out h) 3 rfl, ck (blk_below HK.out h) 4 rfl, ck (blk_below HK.out h) 5 rfl, ck (blk_below HK.out h) 6 rfl, ck (blk_below BK.out h) 0 rfl, ck (blk_below BK.out h) 3 rfl, ck (blk_below BK.out h) 4 rfl, ck (blk_below BK.out h) 5 rfl, bc (below_step HB.out h) y0⟩ : w'.cell? ⟨gx, 0, none⟩ = some (.string (rd_T86 l0 ((j + 1 : Nat) : Int)).f0) ∧ w'.cell? ⟨gx, 1, none⟩ = some (.int .i64 (rd_T86 l0 ((j + 1 : Nat) : Int)).f1) ∧ w'.cell? ⟨gx, 2, none⟩ = some (.int .i64 (rd_T86 l0 ((j + 1 : Nat) : Int)).f2) ∧ w'.cell? ⟨gx, 3, none⟩ = some (.int .i64 (rd_T86 l0 ((j + 1 : Nat) : Int)).f3) ∧ w'.cell? ⟨gx, 4, none⟩ = some (.int .i64 (rd_T86 l0 ((j + 1 : Nat) : Int)).f4.f0) ∧ w'.cell? ⟨gx, 5, none⟩ = some (.int .i64 (rd_T86 l0 ((j + 1 : Nat) : Int)).f4.f1) ∧ w'.cell? ⟨gx, 6, none⟩ = some (.int .i64 (rd_T86 l0 ((j + 1 : Nat) : Int)).f4.f2) ∧ w'.cell? ⟨w.heap.size, 0, none⟩ = some (.slice (some ad) l0.length c0) ∧ w'.cell? ⟨w.heap.size, 3, none⟩ = some (.int .i64 p) ∧ w'.cell? ⟨w.heap.size, 4, none⟩ = some (.int .i64 q) ∧ w'.cell? ⟨w.heap.size, 5, none⟩ = some (.int .i64 r) ∧ w'.cell? (ad.add (j * 7)) = some (.string (rd_T86 l0 (j : Int)).f0)))
          obtain ⟨bP, EP⟩ : ∃ b, Op.bytesLess (rd_T86 l0 (j : Int)).f0.toList (rd_T86 l0 ((j : Int) + 1)).f0.toList = b := ⟨_, rfl⟩
          have HP : Aside0 (taskAtPv l0 ((j + 1 : Nat) : Int) = bP) := ⟨by unfold taskAtPv; rw [decide_eq_false (show ¬ ¬ ((j + 1 : Nat) : Int) > 0 by omega), show ((j + 1 : Nat) : Int) - 1 = (j : Int) by omega, show ((j + 1 : Nat) : Int) = (j : Int) + 1 by omega, EP]; rfl⟩
          clear y0 y1 y2 y3 y4 y5 y6 e0 h0
          rcases or3_ b1 b2 bP with rfl | ⟨rfl, rfl⟩ | ⟨rfl, rfl, rfl⟩ | ⟨rfl, rfl, rfl⟩
          all_goals
            (refine rg_ (by kernel_rfl) (by kernel_rfl) ?_; (repeat (first | refine qn_ ?_ | refine qc_ uTaskOk (fun w' _ => Kb1.out w') ?_ | refine qc_ uBehind (fun w' _ => Kb2.out w') ?_ | refine ql_ L.out ?_)); refine qd_ ?_; intro w5 hb; (try go_wp2); go_meet; case rel => exact ⟨by have hp := HP.out; unfold taskAtPv at hp; unfold taskAt; (try dsimp only); rw [HE.out.1, HE.out.2, hp]; first | rfl | simp, ⟨blk_below BK.out hb⟩, ⟨below_step HB.out hb⟩⟩)
      case rest =>
        clear HB HZ HE HK BK
        obtain ⟨rfl, BK, HB⟩ := hcut
        cases hc : taskAt (fun a b c => behindB a b c p q r) l0 (i : Int) with
        | false =>
          rw [hc] at HS
          go_wp2
          go_ret
          exact ⟨by rw [HS.out]; rfl, HB.out⟩
        | true =>
          rw [hc] at HS
          go_wp2
          go_roundw
          case rel => exact ⟨i + 1, by omega, by go_num, ⟨HS.out⟩, BK, HB⟩
          case measure => simp [intOf]; omega
    · obtain rfl : i = l0.length := by omega
      have HS := Aside0.mk (tasks_end HE.out)
      have HS0 := Aside0.mk (HS.out.trans (Bool.and_true _).symm)
      obtain ⟨hf0, hf1, hf2, hf3, hf4, hf5⟩ := ck6 BK.out
      clear HS HE
      go_wp2
      clear hf0 hf1 hf2 hf3 hf4 hf5
      have BK0 := BK
      have HB0 := HB
      clear BK HB
      obtain ⟨wo, rfl⟩ : ∃ wo : World, wo = wr := ⟨_, rfl⟩
      go_loopw [5] (fun v wr => ∃ i : Nat, i ≤ l2.length ∧ v = .int .i64 i ∧ Aside0 (fleetB l0 l1 l2 p q r = (defectsFrom r l2 (l2.length - i) i && true)) ∧ Aside0 (wr.heap[w.heap.size]? = some (.cells #[.slice A0 l0.length c0, .slice A1 l1.length c1, .slice A2 l2.length c2, .int .i64 p, .int .i64 q, .int .i64 r] 37 (0, 0))) ∧ Aside0 (Below w.heap.size w wr)) (fun v _ => l2.length - (intOf v).toNat)
      case atStart => exact ⟨0, Nat.zero_le _, rfl, ⟨HS0.out⟩, BK0, HB0⟩
      case round =>
        clear BK0 HB0 HS0
        obtain ⟨i, hi, rfl, HE, BK, HB⟩ := hrel
        by_cases hlt : i < l2.length
        · have hfs := ck6 BK.out
          obtain ⟨ad, e0, hx0, hx1, hx2⟩ := at_T90 (Kd.C_below HR2.out HB.out) (i : Int) (by omega) (by omega)
          cases e0
          simp only [Int.toNat_natCast] at hx0 hx1 hx2
          obtain ⟨hf0, hf1, hf2, hf3, hf4, hf5⟩ := hfs
          have HS := Aside0.mk (defects_step hlt HE.out)
          have HZ := Aside0.mk (HX2.out _ (List.getElem_mem hlt))
          rw [← rd_at90 hlt] at HZ
          have HK := Aside0.mk (blk_new wr (.cells #[.string (rd_T90 l2 (i : Int)).f0, .int .i64 (rd_T90 l2 (i : Int)).f1, .int .i64 (rd_T90 l2 (i : Int)).f2] 90 (0, 0)))
          have HB2 := Aside0.mk (below_alloc HB.out (.cells #[.string (rd_T90 l2 (i : Int)).f0, .int .i64 (rd_T90 l2 (i : Int)).f1, .int .i64 (rd_T90 l2 (i : Int)).f2] 90 (0, 0)))
          have BK2 := Aside0.mk (blk_alloc BK.out (.cells #[.string (rd_T90 l2 (i : Int)).f0, .int .i64 (rd_T90 l2 (i : Int)).f1, .int .i64 (rd_T90 l2 (i : Int)).f2] 90 (0, 0)))
          go_upto_region 13 with (fail)
          generalize wr.heap.size = gx at HK ⊢
          refine world_ (fun W => W.heap[gx]? = some (.cells #[.string (rd_T90 l2 (i : Int)).f0, .int .i64 (rd_T90 l2 (i : Int)).f1, .int .i64 (rd_T90 l2 (i : Int)).f2] 90 (0, 0)) ∧ W.heap[w.heap.size]? = some (.cells #[.slice A0 l0.length c0, .slice A1 l1.length c1, .slice (some ad) l2.length c2, .int .i64 p, .int .i64 q, .int .i64 r] 37 (0, 0)) ∧ Below w.heap.size w W) ⟨HK.out, BK2.out, HB2.out⟩ ?_
          clear HK HB2 HE HB hx0 hx1 hx2 BK2 BK hf0 hf1 hf2 hf3 hf4 hf5
          rintro W ⟨HK, BK, HB⟩
          replace HK := Aside0.mk HK
          replace HB := Aside0.mk HB
          replace BK := Aside0.mk BK
          obtain ⟨b1, Eb1⟩ : ∃ b, nameB (rd_T90 l2 (i : Int)).f0 = b := ⟨_, rfl⟩
          have Kb1 := Aside0.mk (fun w' => kb_ (name_u (rd_T90 l2 (i : Int)).f0 HZ.out w') Eb1)
          obtain ⟨b2, Eb2⟩ : ∃ b, inB (rd_T90 l2 (i : Int)).f1 1 1000000 = b := ⟨_, rfl⟩
          have Kb2 := Aside0.mk (fun w' => kb_ (in_u (rd_T90 l2 (i : Int)).f1 1 1000000 w') Eb2)
          obtain ⟨b3, Eb3⟩ : ∃ b, inB (rd_T90 l2 (i : Int)).f2 0 r = b := ⟨_, rfl⟩
          have Kb3 := Aside0.mk (fun w' => kb_ (in_u (rd_T90 l2 (i : Int)).f2 0 r w') Eb3)
          have HE := Aside0.mk (And.intro Eb1 (And.intro Eb2 Eb3))
          clear Eb1 Eb2 Eb3
          go_cut [114] (fun v wc => v = .bool (!defectAt r l2 (i : Int)) ∧ Aside0 (wc.heap[w.heap.size]? = some (.cells #[.slice A0 l0.length c0, .slice A1 l1.length c1, .slice (some ad) l2.length c2, .int .i64 p, .int .i64 q, .int .i64 r] 37 (0, 0))) ∧ Aside0 (Below w.heap.size w wc))
          case first =>
            clear HS
            rcases Nat.eq_zero_or_pos i with h0 | h0
            · subst h0
              have L := Aside0.mk (fun w' (h : Up W w') => (⟨ck (blk_below HK.out h) 0 rfl, ck (blk_below HK.out h) 1 rfl, ck (blk_below HK.out h) 2 rfl, ck (blk_below BK.out h) 2 rfl, ck (blk_below BK.out h) 5 rfl⟩ : w'.cell? ⟨gx, 0, none⟩ = some (.string (rd_T90 l2 ((0 : Nat) : Int)).f0) ∧ w'.cell? ⟨gx, 1, none⟩ = some (.int .i64 (rd_T90 l2 ((0 : Nat) : Int)).f1) ∧ w'.cell? ⟨gx, 2, none⟩ = some (.int .i64 (rd_T90 l2 ((0 : Nat) : Int)).f2) ∧ w'.cell? ⟨w.heap.size, 2, none⟩ = some (.slice (some ad) l2.length c2) ∧ w'.cell? ⟨w.heap.size, 5, none⟩ = some (.int .i64 r)))
              have HP : Aside0 (defectAtPv l2 ((0 : Nat) : Int) = true) := ⟨rfl⟩
              rcases or3_ b1 b2 b3 with rfl | ⟨rfl, rfl⟩ | ⟨rfl, rfl, rfl⟩ | ⟨rfl, rfl, rfl⟩
              all_goals
                (refine rg_ (by kernel_rfl) (by kernel_rfl) ?_; (repeat (first | refine qn_ ?_ | refine qc_ uName (fun w' _ => Kb1.out w') ?_ | refine qc_ uIn (fun w' _ => Kb2.out w') ?_ | refine qc_ uIn (fun w' _ => Kb3.out w') ?_ | refine ql_ L.out ?_)); refine qd_ ?_; intro w5 hb; (try go_wp2); go_meet; case rel => exact ⟨by have hp := HP.out; unfold defectAtPv at hp; unfold defectAt; (try dsimp only); rw [HE.out.1, HE.out.2.1, HE.out.2.2, hp]; first | rfl | simp, ⟨blk_below BK.out hb⟩, ⟨below_step HB.out hb⟩⟩)
            · obtain ⟨j, rfl⟩ : ∃ j, i = j + 1 := ⟨i - 1, by omega⟩
              obtain ⟨ad', e0, y0, y1, y2⟩ := at_T90 HR2.out (j : Int) (by omega) (by omega)
              obtain rfl : ad = ad' := by injection e0
              simp only [Int.toNat_natCast] at y0 y1 y2
              have hj : wrap64 (j : Int) = (j : Int) := w64 (by omega) (by omega)
              have hjl : j < l2.length := by omega
              have L := Aside0.mk (fun w' (h : Up W w') => (⟨ck (blk_below HK.out h) 0 rfl, ck (blk_below HK.out h) 1 rfl, ck (blk_below HK.out h) 2 rfl, ck (blk_below BK.out h) 2 rfl, ck (blk_below BK.out h) 5 rfl, bc (below_step HB.out h) y1⟩ : w'.cell? ⟨gx, 0, none⟩ = some (.string (rd_T90 l2 ((j + 1 : Nat) : Int)).f0) ∧ w'.cell? ⟨gx, 1, none⟩ = some (.int .i64 (rd_T90 l2 ((j + 1 : Nat) : Int)).f1) ∧ w'.cell? ⟨gx, 2, none⟩ = some (.int .i64 (rd_T90 l2 ((j + 1 : Nat) : Int)).f2) ∧ w'.cell? ⟨w.heap.size, 2, none⟩ = some (.slice (some ad) l2.length c2) ∧ w'.cell? ⟨w.heap.size, 5, none⟩ = some (.int .i64 r) ∧ w'.cell? ⟨(ad.add (j * 3)).block, (ad.add (j * 3)).off + 1, none⟩ = some (.int .i64 (rd_T90 l2 (j : Int)).f1)))
              obtain ⟨bP, EP⟩ : ∃ b, decide ((rd_T90 l2 (j : Int)).f1 < (rd_T90 l2 ((j : Int) + 1)).f1) = b := ⟨_, rfl⟩
              have HP : Aside0 (defectAtPv l2 ((j + 1 : Nat) : Int) = bP) := ⟨by unfold defectAtPv; rw [decide_eq_false (show ¬ ¬ ((j + 1 : Nat) : Int) > 0 by omega), show ((j + 1 : Nat) : Int) - 1 = (j : Int) by omega, show ((j + 1 : Nat) : Int) = (j : Int) + 1 by omega, EP]; rfl⟩
              have EQ : decide ((rd_T90 l2 ((j : Int) + 1)).f1 ≤ (rd_T90 l2 (j : Int)).f1) = !bP := by rw [← EP]; exact le_lt_ _ _
              clear EP
              clear y0 y1 y2 e0 h0
              rcases or4_ b1 b2 bP b3 with rfl | ⟨rfl, rfl⟩ | ⟨rfl, rfl, rfl⟩ | ⟨rfl, rfl, rfl, rfl⟩ | ⟨rfl, rfl, rfl, rfl⟩
              all_goals
                (refine rg_ (by kernel_rfl) (by kernel_rfl) ?_; (repeat (first | refine qn_ ?_ | refine qc_ uName (fun w' _ => Kb1.out w') ?_ | refine qc_ uIn (fun w' _ => Kb2.out w') ?_ | refine qc_ uIn (fun w' _ => Kb3.out w') ?_ | refine ql_ L.out ?_)); refine qd_ ?_; intro w5 hb; (try go_wp2); go_meet; case rel => exact ⟨by have hp := HP.out; unfold defectAtPv at hp; unfold defectAt; (try dsimp only); rw [HE.out.1, HE.out.2.1, HE.out.2.2, hp]; first | rfl | simp, ⟨blk_below BK.out hb⟩, ⟨below_step HB.out hb⟩⟩)
          case rest =>
            clear HB HZ HE HK BK
            obtain ⟨rfl, BK, HB⟩ := hcut
            cases hc : defectAt r l2 (i : Int) with
            | false =>
              rw [hc] at HS
              go_wp2
              go_ret
              exact ⟨by rw [HS.out]; rfl, HB.out⟩
            | true =>
              rw [hc] at HS
              go_wp2
              go_roundw
              case rel => exact ⟨i + 1, by omega, by go_num, ⟨HS.out⟩, BK, HB⟩
              case measure => simp [intOf]; omega
        · obtain rfl : i = l2.length := by omega
          have HS := Aside0.mk (defects_end HE.out)
          clear HE
          obtain ⟨hf0, hf1, hf2, hf3, hf4, hf5⟩ := ck6 BK.out
          go_wp2
          go_ret
          exact ⟨by rw [HS.out]; rfl, HB.out⟩
-- HAND TO

/-! ### spec_l1Max: function 107 -/
def spec_l1Max.f (a0 : Int) (a1 : Int) : Option (Int) := if a0 > a1 then (some a0) else (some a1)
set_option maxHeartbeats 8000000 in
set_option maxRecDepth 100000 in
theorem spec_l1Max.calls (a0 : Int) (a1 : Int) (r : Int) (w : World) (h : spec_l1Max.f a0 a1 = some r) :
  Calls Tryz.prog 107 #[.int .i64 a0, .int .i64 a1] w fun e w' => e = .returned (.int .i64 r) ∧ Drawn0 w w' := by
 have H : (if a0 > a1 then (some a0) else (some a1)) = some r := h
 clear h
 by_cases c3 : a0 > a1
 ·
  rw [if_pos c3] at H
  have c3b0 : decide (a1 < a0) = true := decide_eq_true c3
  clear c3
  obtain rfl := Option.some.inj H
  go_enter Tryz.func107, Tryz.ntmps107
  go_wp2
  go_ret
  exact ⟨by first | rfl | (simp; done) | (simp [*]; done), by repeat (first | exact Drawn0.refl _ | apply Drawn0.step)⟩
 ·
  rw [if_neg c3] at H
  have c3b0 : decide (a1 < a0) = false := decide_eq_false c3
  clear c3
  obtain rfl := Option.some.inj H
  go_enter Tryz.func107, Tryz.ntmps107
  go_wp2
  go_ret
  exact ⟨by first | rfl | (simp; done) | (simp [*]; done), by repeat (first | exact Drawn0.refl _ | apply Drawn0.step)⟩

/-! ### spec_l19Left: function 99 -/
def spec_l19Left.f (a0 : Int) (a1 : Int) : Option (Int) := if a0 = 0 then (some 0) else ((spec_l1Max.f 0 (wrap64 (a0 - a1))).bind fun t153 => (some t153))
set_option maxHeartbeats 8000000 in
set_option maxRecDepth 100000 in
theorem spec_l19Left.calls (a0 : Int) (a1 : Int) (r : Int) (w : World) (h : spec_l19Left.f a0 a1 = some r) :
  Calls Tryz.prog 99 #[.int .i64 a0, .int .i64 a1] w fun e w' => e = .returned (.int .i64 r) ∧ Drawn0 w w' := by
 have H : (if a0 = 0 then (some 0) else ((spec_l1Max.f 0 (wrap64 (a0 - a1))).bind fun t153 => (some t153))) = some r := h
 clear h
 by_cases c3 : a0 = 0
 ·
  rw [if_pos c3] at H
  have c3b0 : (a0 == 0) = true := beq_iff_eq.mpr c3
  have c3b1 : (a0 != 0) = false := bne_eq_false_iff_eq.mpr c3
  clear c3
  obtain rfl := Option.some.inj H
  go_enter Tryz.func99, Tryz.ntmps99
  go_wp2
  go_ret
  exact ⟨by first | rfl | (simp; done) | (simp [*]; done), by repeat (first | exact Drawn0.refl _ | apply Drawn0.step)⟩
 ·
  rw [if_neg c3] at H
  have c3b0 : (a0 == 0) = false := beq_eq_false_iff_ne.mpr c3
  have c3b1 : (a0 != 0) = true := bne_iff_ne.mpr c3
  replace H := Option.bind_eq_some_iff.mp H
  obtain ⟨t153, A40, H⟩ := H
  replace H : (some t153) = some r := H
  have A4 := Aside0.mk A40
  clear A40
  obtain rfl := Option.some.inj H
  go_enter Tryz.func99, Tryz.ntmps99
  go_wp2_with (first | ((with_reducible refine gate_callee (f := 107) rfl ?_); refine goesL_ (some 10) rfl rfl Tryz.func107 (by kernel_rfl) rfl #[.int .i64 0, .int .i64 (wrap64 (a0 - a1))] rfl (by (try simp only [am_]); first | done | rfl) ?_; (with_reducible refine (spec_l1Max.calls 0 (wrap64 (a0 - a1)) t153 _ A4.out).mono ?_); rintro e w' ⟨rfl, ⟨nd, rfl⟩⟩; refine ⟨_, rfl, ?_⟩))
  go_ret
  exact ⟨by first | rfl | (simp; done) | (simp [*]; done), by repeat (first | exact Drawn0.refl _ | apply Drawn0.step)⟩

end Go.Proofs.YtdimdlifjdbgnaaGreat.PFnExactRunWork
