/- The program's ReceiverOk answers as the reference's at every argument. No condition. -/
import Derived.Test.YtcdniegjefejcaaPFnExactReceiverOkx1
import Derived.Test.YtcdniegjefejcaaBase
set_option linter.unusedVariables false
set_option linter.unusedSimpArgs false
namespace Go.Proofs.Ytcdniegjefejcaa.Pure
open Go.RowKit Go.Proofs.Ytcdniegjefejcaa.PFnExactReceiverOk Go.Proofs.Ytcdniegjefejcaa.Base Go.Proofs.YtcdniegjefejcaaW.PrintWords Go.Proofs.YtcdniegjefejcaaW.PrintLast
theorem impl_in_eq (a b c : Int) : impl_in.f a b c = some (inB a b c) := in_form a b c
theorem spec_in_eq (a b c : Int) : spec_l1In.f a b c = some (inB a b c) := in_form a b c
theorem FnExactReceiverOk (a0_0 a0_1 a0_2 : Int) (h : (Lit.int .i64 a0_0).wf = true ∧ (Lit.int .i64 a0_1).wf = true ∧ (Lit.int .i64 a0_2).wf = true) : laws_FnExactReceiverOk.f a0_0 a0_1 a0_2 = some true := by
  simp only [laws_FnExactReceiverOk.f, laws_toReceiver.f, spec_ReceiverOk.f, impl_ReceiverOk.f, spec_in_eq, impl_in_eq, Option.bind_some]
  cases inB a0_0 1 255 <;> cases inB a0_1 (-1) 255 <;> cases inB a0_2 1 100 <;> simp
end Go.Proofs.Ytcdniegjefejcaa.Pure
