/- How the arguments of the law FnExactEncodeName open, and what is left to be proved of numbers and lists alone. -/
import Derived.Test.YtllkeaghjacalaaMFnExactEncodeNamex5
import Derived.Test.YtllkeaghjacalaaOpFnExactEncodeName
import Derived.KernelRfl
namespace Go.Proofs.Ytllkeaghjacalaa.Pure
open Go.RowKit Go.Proofs.Ytllkeaghjacalaa.Open Go.Proofs.Ytllkeaghjacalaa.MFnExactEncodeName Go.Proofs.YtllkeaghjacalaaW.PrintWords Go.Proofs.YtllkeaghjacalaaW.PrintLast
set_option linter.unusedVariables false
/-- The one pure statement. -/
def FnExactEncodeName_stated : Prop := ∀ (l0 : List (ByteArray)), l0.length ≤ maxLen → (∀ y ∈ l0, y.size ≤ maxLen) → ∃ k, laws_FnExactEncodeName.f k l0 = some true
end Go.Proofs.Ytllkeaghjacalaa.Pure
