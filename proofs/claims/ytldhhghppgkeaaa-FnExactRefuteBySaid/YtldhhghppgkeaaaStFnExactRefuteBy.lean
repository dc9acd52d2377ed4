/- How the arguments of the law FnExactRefuteBy open, and what is left to be proved of numbers and lists alone. -/
import Derived.Test.YtldhhghppgkeaaaMFnExactRefuteByx4
import Derived.Test.YtldhhghppgkeaaaOpen
import Derived.KernelRfl
namespace Go.Proofs.Ytldhhghppgkeaaa.Pure
open Go.RowKit Go.Proofs.Ytldhhghppgkeaaa.Open Go.Proofs.Ytldhhghppgkeaaa.MFnExactRefuteBy Go.Proofs.YtldhhghppgkeaaaW.PrintWords Go.Proofs.YtldhhghppgkeaaaW.PrintLast
set_option linter.unusedVariables false
/-- The one pure statement. -/
def FnExactRefuteBy_stated : Prop := ∀ (y0_0 : Int) (y0_1 : Int) (y0_2 : Int) (y0_3 : Int) (y1_0 : Int) (y1_1 : Int) (y1_2 : Int) (y1_3 : Int), (Lit.int .i64 y0_0).wf = true → (Lit.int .i64 y0_1).wf = true → (Lit.int .i64 y0_2).wf = true → (Lit.int .i64 y0_3).wf = true → (Lit.int .i64 y1_0).wf = true → (Lit.int .i64 y1_1).wf = true → (Lit.int .i64 y1_2).wf = true → (Lit.int .i64 y1_3).wf = true → ∃ k, laws_FnExactRefuteBy.f k y0_0 y0_1 y0_2 y0_3 y1_0 y1_1 y1_2 y1_3 = some true
end Go.Proofs.Ytldhhghppgkeaaa.Pure
