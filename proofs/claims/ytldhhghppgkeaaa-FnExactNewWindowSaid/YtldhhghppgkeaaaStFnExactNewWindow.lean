/- How the arguments of the law FnExactNewWindow open, and what is left to be proved of numbers and lists alone. -/
import Derived.Test.YtldhhghppgkeaaaPFnExactNewWindowx1
import Derived.Test.YtldhhghppgkeaaaOpen
import Derived.KernelRfl
namespace Go.Proofs.Ytldhhghppgkeaaa.Pure
open Go.RowKit Go.Proofs.Ytldhhghppgkeaaa.Open Go.Proofs.Ytldhhghppgkeaaa.PFnExactNewWindow Go.Proofs.YtldhhghppgkeaaaW.PrintWords Go.Proofs.YtldhhghppgkeaaaW.PrintLast
set_option linter.unusedVariables false
/-- The one pure statement. -/
def FnExactNewWindow_stated : Prop := ∃ k, laws_FnExactNewWindow.f k = some true
end Go.Proofs.Ytldhhghppgkeaaa.Pure
