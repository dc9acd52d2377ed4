/- How the arguments of the law FnExactSameWindows open, and what is left to be proved of numbers and lists alone. -/
import Derived.Test.YtldhhghppgkeaaaPFnExactSameWindowsx2
import Derived.Test.YtldhhghppgkeaaaOpen
import Derived.KernelRfl
namespace Go.Proofs.Ytldhhghppgkeaaa.Pure
open Go.RowKit Go.Proofs.Ytldhhghppgkeaaa.Open Go.Proofs.Ytldhhghppgkeaaa.PFnExactSameWindows Go.Proofs.YtldhhghppgkeaaaW.PrintWords Go.Proofs.YtldhhghppgkeaaaW.PrintLast
set_option linter.unusedVariables false
/-- The one pure statement. -/
def FnExactSameWindows_stated : Prop := ∀ (y0_0 : Int) (y0_1 : List (Int)) (y1_0 : Int) (y1_1 : List (Int)), (Lit.int .i64 y0_0).wf = true → (y0_1.length ≤ maxLen ∧ ∀ y ∈ y0_1, (Lit.int .i64 y).wf = true) → (Lit.int .i64 y1_0).wf = true → (y1_1.length ≤ maxLen ∧ ∀ y ∈ y1_1, (Lit.int .i64 y).wf = true) → ∃ k, laws_FnExactSameWindows.f k y0_0 y0_1 y1_0 y1_1 = some true
end Go.Proofs.Ytldhhghppgkeaaa.Pure
