/- How the arguments of the law FnExactTakeCounter open, and what is left to be proved of numbers and lists alone. -/
import Derived.Test.YtbnibakamdhpdaaMFnExactTakeCounterx5
import Derived.Test.YtbnibakamdhpdaaOpFnExactTakeCounter
import Derived.KernelRfl
namespace Go.Proofs.Ytbnibakamdhpdaa.Pure
open Go.RowKit Go.Proofs.Ytbnibakamdhpdaa.Open Go.Proofs.Ytbnibakamdhpdaa.MFnExactTakeCounter Go.Proofs.YtbnibakamdhpdaaW.PrintWords Go.Proofs.YtbnibakamdhpdaaW.PrintLast
set_option linter.unusedVariables false
/-- The one pure statement. -/
def FnExactTakeCounter_stated : Prop := ∀ (y0_0 : Int) (y0_1 : List (Int)) (a1 : Int), (Lit.int .i64 y0_0).wf = true → (y0_1.length ≤ maxLen ∧ ∀ y ∈ y0_1, (Lit.int .i64 y).wf = true) → (Lit.int .i64 a1).wf = true → ∃ k, laws_FnExactTakeCounter.f k y0_0 y0_1 a1 = some true
end Go.Proofs.Ytbnibakamdhpdaa.Pure
