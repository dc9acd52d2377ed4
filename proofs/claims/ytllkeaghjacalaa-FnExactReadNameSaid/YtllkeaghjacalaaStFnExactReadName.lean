/- How the arguments of the law FnExactReadName open, and what is left to be proved of numbers and lists alone. -/
import Derived.Test.YtllkeaghjacalaaMFnExactReadNamex6
import Derived.Test.YtllkeaghjacalaaOpFnExactReadName
import Derived.KernelRfl
namespace Go.Proofs.Ytllkeaghjacalaa.Pure
open Go.RowKit Go.Proofs.Ytllkeaghjacalaa.Open Go.Proofs.Ytllkeaghjacalaa.MFnExactReadName Go.Proofs.YtllkeaghjacalaaW.PrintWords Go.Proofs.YtllkeaghjacalaaW.PrintLast
set_option linter.unusedVariables false
/-- The one pure statement. -/
def FnExactReadName_stated : Prop := ∀ (l0 : List (Int)) (a1 : Int), l0.length ≤ maxLen → (∀ y ∈ l0, (Lit.int .u8 y).wf = true) → (Lit.int .i64 a1).wf = true → ∃ k, laws_FnExactReadName.f k l0 a1 = some true
end Go.Proofs.Ytllkeaghjacalaa.Pure
