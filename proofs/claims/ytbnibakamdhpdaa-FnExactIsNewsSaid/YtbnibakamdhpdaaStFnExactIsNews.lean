/- How the arguments of the law FnExactIsNews open, and what is left to be proved of numbers and lists alone. -/
import Derived.Test.YtbnibakamdhpdaaMFnExactIsNewsx4
import Derived.Test.YtbnibakamdhpdaaOpFnExactIsNews
import Derived.KernelRfl
namespace Go.Proofs.Ytbnibakamdhpdaa.Pure
open Go.RowKit Go.Proofs.Ytbnibakamdhpdaa.Open Go.Proofs.Ytbnibakamdhpdaa.MFnExactIsNews Go.Proofs.YtbnibakamdhpdaaW.PrintWords Go.Proofs.YtbnibakamdhpdaaW.PrintLast
set_option linter.unusedVariables false
/-- The one pure statement. -/
def FnExactIsNews_stated : Prop := ∀ (y0_0 : Int) (y0_1 : List (Int)) (a1 : Int), (Lit.int .i64 y0_0).wf = true → (y0_1.length ≤ maxLen ∧ ∀ y ∈ y0_1, (Lit.int .i64 y).wf = true) → (Lit.int .i64 a1).wf = true → ∃ k, laws_FnExactIsNews.f k y0_0 y0_1 a1 = some true
end Go.Proofs.Ytbnibakamdhpdaa.Pure
