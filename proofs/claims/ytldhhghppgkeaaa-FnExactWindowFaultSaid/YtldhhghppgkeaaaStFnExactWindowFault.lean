/- How the arguments of the law FnExactWindowFault open, and what is left to be proved of numbers and lists alone. -/
import Derived.Test.YtldhhghppgkeaaaMFnExactWindowFaultx3
import Derived.Test.YtldhhghppgkeaaaOpen
import Derived.KernelRfl
namespace Go.Proofs.Ytldhhghppgkeaaa.Pure
open Go.RowKit Go.Proofs.Ytldhhghppgkeaaa.Open Go.Proofs.Ytldhhghppgkeaaa.MFnExactWindowFault Go.Proofs.YtldhhghppgkeaaaW.PrintWords Go.Proofs.YtldhhghppgkeaaaW.PrintLast
set_option linter.unusedVariables false
/-- The one pure statement. -/
def FnExactWindowFault_stated : Prop := ∀ (y0_0 : Int) (y0_1 : List (Int)), (Lit.int .i64 y0_0).wf = true → (y0_1.length ≤ maxLen ∧ ∀ y ∈ y0_1, (Lit.int .i64 y).wf = true) → ∃ k, laws_FnExactWindowFault.f k y0_0 y0_1 = some true
end Go.Proofs.Ytldhhghppgkeaaa.Pure
