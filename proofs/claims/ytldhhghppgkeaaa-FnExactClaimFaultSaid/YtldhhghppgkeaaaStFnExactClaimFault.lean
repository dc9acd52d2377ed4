/- How the arguments of the law FnExactClaimFault open, and what is left to be proved of numbers and lists alone. -/
import Derived.Test.YtldhhghppgkeaaaPFnExactClaimFaultx1
import Derived.Test.YtldhhghppgkeaaaOpen
import Derived.KernelRfl
namespace Go.Proofs.Ytldhhghppgkeaaa.Pure
open Go.RowKit Go.Proofs.Ytldhhghppgkeaaa.Open Go.Proofs.Ytldhhghppgkeaaa.PFnExactClaimFault Go.Proofs.YtldhhghppgkeaaaW.PrintWords Go.Proofs.YtldhhghppgkeaaaW.PrintLast
set_option linter.unusedVariables false
/-- The one pure statement. -/
def FnExactClaimFault_stated : Prop := ∀ (y0_0 : Int) (y0_1 : Int) (y0_2 : Int) (y0_3 : Int), (Lit.int .i64 y0_0).wf = true → (Lit.int .i64 y0_1).wf = true → (Lit.int .i64 y0_2).wf = true → (Lit.int .i64 y0_3).wf = true → laws_FnExactClaimFault.f y0_0 y0_1 y0_2 y0_3 = some true
end Go.Proofs.Ytldhhghppgkeaaa.Pure
