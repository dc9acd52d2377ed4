/- How the arguments of the law FnExactReadQuery open, and what is left to be proved of numbers and lists alone. -/
import Derived.Test.YtllkeaghjacalaaMFnExactReadQueryx8
import Derived.Test.YtllkeaghjacalaaOpFnExactReadQuery
import Derived.KernelRfl
namespace Go.Proofs.Ytllkeaghjacalaa.Pure
open Go.RowKit Go.Proofs.Ytllkeaghjacalaa.Open Go.Proofs.Ytllkeaghjacalaa.MFnExactReadQuery Go.Proofs.YtllkeaghjacalaaW.PrintWords Go.Proofs.YtllkeaghjacalaaW.PrintLast
set_option linter.unusedVariables false
/-- The one pure statement. -/
def FnExactReadQuery_stated : Prop := ∀ (l0 : List (Int)), l0.length ≤ maxLen → (∀ y ∈ l0, (Lit.int .u8 y).wf = true) → ∃ k, laws_FnExactReadQuery.f k l0 = some true
end Go.Proofs.Ytllkeaghjacalaa.Pure
