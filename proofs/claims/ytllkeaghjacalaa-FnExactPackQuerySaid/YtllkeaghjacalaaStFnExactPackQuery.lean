/- How the arguments of the law FnExactPackQuery open, and what is left to be proved of numbers and lists alone. -/
import Derived.Test.YtllkeaghjacalaaMFnExactPackQueryx4
import Derived.Test.YtllkeaghjacalaaOpFnExactPackQuery
import Derived.KernelRfl
namespace Go.Proofs.Ytllkeaghjacalaa.Pure
open Go.RowKit Go.Proofs.Ytllkeaghjacalaa.Open Go.Proofs.Ytllkeaghjacalaa.MFnExactPackQuery Go.Proofs.YtllkeaghjacalaaW.PrintWords Go.Proofs.YtllkeaghjacalaaW.PrintLast
set_option linter.unusedVariables false
/-- The one pure statement. -/
def FnExactPackQuery_stated : Prop := ∀ (y0_0 : Int) (y0_1 : List (ByteArray)) (y0_2 : Int), (Lit.int .i64 y0_0).wf = true → (y0_1.length ≤ maxLen ∧ ∀ y ∈ y0_1, y.size ≤ maxLen) → (Lit.int .i64 y0_2).wf = true → ∃ k, laws_FnExactPackQuery.f k y0_0 y0_1 y0_2 = some true
end Go.Proofs.Ytllkeaghjacalaa.Pure
