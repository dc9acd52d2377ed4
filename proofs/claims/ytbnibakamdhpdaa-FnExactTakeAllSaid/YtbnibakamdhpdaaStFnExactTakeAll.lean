/- How the arguments of the law FnExactTakeAll open, and what is left to be proved of numbers and lists alone. -/
import Derived.Test.YtbnibakamdhpdaaMFnExactTakeAllx6
import Derived.Test.YtbnibakamdhpdaaOpFnExactTakeAll
import Derived.KernelRfl
namespace Go.Proofs.Ytbnibakamdhpdaa.Pure
open Go.RowKit Go.Proofs.Ytbnibakamdhpdaa.Open Go.Proofs.Ytbnibakamdhpdaa.MFnExactTakeAll Go.Proofs.YtbnibakamdhpdaaW.PrintWords Go.Proofs.YtbnibakamdhpdaaW.PrintLast
set_option linter.unusedVariables false
/-- The one pure statement. -/
def FnExactTakeAll_stated : Prop := ∀ (y0_0 : Int) (y0_1 : List (Int)) (l1 : List (Int)), (Lit.int .i64 y0_0).wf = true → (y0_1.length ≤ maxLen ∧ ∀ y ∈ y0_1, (Lit.int .i64 y).wf = true) → l1.length ≤ maxLen → (∀ y ∈ l1, (Lit.int .i64 y).wf = true) → ∃ k, laws_FnExactTakeAll.f k y0_0 y0_1 l1 = some true
end Go.Proofs.Ytbnibakamdhpdaa.Pure
