/- How the arguments of the law FnNames open, and what is left to be proved of numbers and lists alone. -/
import Derived.Test.YtllkeaghjacalaaMFnNamesx5
import Derived.Test.YtllkeaghjacalaaOpFnNames
import Derived.KernelRfl
namespace Go.Proofs.Ytllkeaghjacalaa.Pure
open Go.RowKit Go.Proofs.Ytllkeaghjacalaa.Open Go.Proofs.Ytllkeaghjacalaa.MFnNames Go.Proofs.YtllkeaghjacalaaW.PrintWords Go.Proofs.YtllkeaghjacalaaW.PrintLast
set_option linter.unusedVariables false
/-- The one pure statement. -/
def FnNames_stated : Prop := ∀ (l0 : List (Int)), l0.length ≤ maxLen → (∀ y ∈ l0, (Lit.int .u8 y).wf = true) → ∃ k, laws_FnNames.f k l0 = some true
end Go.Proofs.Ytllkeaghjacalaa.Pure
