/- The program's ClockOk answers as the reference's at every argument. No condition. -/
import Derived.Test.YtbgdibbgngpggaaPFnExactClockOkx1
import Derived.Test.YtbgdibbgngpggaaBase
set_option linter.unusedVariables false
set_option linter.unusedSimpArgs false
namespace Go.Proofs.Ytbgdibbgngpggaa.Pure
open Go.RowKit Go.Proofs.Ytbgdibbgngpggaa.PFnExactClockOk Go.Proofs.Ytbgdibbgngpggaa.Base Go.Proofs.YtbgdibbgngpggaaW.PrintWords Go.Proofs.YtbgdibbgngpggaaW.PrintLast
theorem impl_in_eq (a b c : Int) : impl_in.f a b c = some (inB a b c) := in_form a b c
theorem spec_in_eq (a b c : Int) : spec_l1In.f a b c = some (inB a b c) := in_form a b c
theorem impl_allIn_l (b c : Int) (xs : List Int) (hn : xs.length < 4611686018427387904) (d : Nat) : ∀ i : Nat, i + d = xs.length →
    Ev (fun k => impl_allIn.l0 k b c xs (xs.length : Int) (i : Int)) (allB (xs.drop i) b c) := by
  induction d with
  | zero =>
    intro i h
    refine ev_succ ?_
    simp only [impl_allIn.l0, if_neg (show ¬ ((i : Int) < (xs.length : Int)) by omega)]
    rw [List.drop_of_length_le (by omega)]
    exact ev_now _
  | succ d ih =>
    intro i h
    refine ev_succ ?_
    simp only [impl_allIn.l0, if_pos (show ((i : Int) < (xs.length : Int)) by omega), if_pos (show (0 : Int) ≤ (i : Int) by omega), impl_in_eq, Option.bind_some, w64s i (by omega)]
    rw [drop_rd (show i < xs.length by omega)]
    cases hb : inB (rd xs (i : Int)) b c with
    | true => simpa [allB, hb] using ih (i + 1) (by omega)
    | false => simpa [allB, hb] using ev_now false
theorem impl_allIn_ev (b c : Int) (xs : List Int) (hn : xs.length < 4611686018427387904) : Ev (fun k => impl_allIn.f k xs b c) (allB xs b c) := by
  simpa [impl_allIn.f] using impl_allIn_l b c xs hn xs.length 0 (by omega)
def clockB (a b c : Int) : Bool := inB a 0 1000000 && (inB b 0 1000000 && inB c 0 1000000)
theorem clockB_in {a b c : Int} (h : clockB a b c = true) : (0 ≤ a ∧ a ≤ 1000000) ∧ (0 ≤ b ∧ b ≤ 1000000) ∧ 0 ≤ c ∧ c ≤ 1000000 := by
  simp [clockB, inB] at h
  omega
theorem impl_ClockOk_ev (a b c : Int) : Ev (fun k => impl_ClockOk.f k a b c) (clockB a b c) := by
  simp only [impl_ClockOk.f, impl_Clock_numbers.f, Option.bind_some]
  refine (impl_allIn_ev 0 1000000 [a, b, c] (by simp)).bind (f := fun _ t => some t) (ev_some ?_)
  simp [allB, clockB]
theorem spec_ClockOk_eq (a b c : Int) : spec_ClockOk.f a b c = some (clockB a b c) := by
  simp only [spec_ClockOk.f, spec_in_eq, Option.bind_some, clockB]
  cases inB a 0 1000000 <;> cases inB b 0 1000000 <;> simp
theorem FnExactClockOk (a0_0 : Int) (a0_1 : Int) (a0_2 : Int) (g0 : ((Lit.int .i64 a0_0).wf = true ∧ (Lit.int .i64 a0_1).wf = true ∧ (Lit.int .i64 a0_2).wf = true)) : ∃ k, laws_FnExactClockOk.f k a0_0 a0_1 a0_2 = some true := by
  refine Ev.rounds ?_
  simp only [laws_FnExactClockOk.f, laws_toClock.f, spec_ClockOk_eq, Option.bind_some]
  refine (impl_ClockOk_ev a0_0 a0_1 a0_2).bind ?_
  simp only [bne_self_eq_false, Bool.false_eq_true, if_false]
  exact ev_now _
end Go.Proofs.Ytbgdibbgngpggaa.Pure
