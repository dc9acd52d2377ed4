/- How the arguments of the law FnLetters open, and what is left to be proved of numbers and lists alone. -/
import Derived.Test.YtiioiohdifkbgaaMFnLettersx13
import Derived.Test.YtiioiohdifkbgaaOpFnLetters
import Derived.KernelRfl
namespace Go.Proofs.Ytiioiohdifkbgaa.Pure
open Go.RowKit Go.Proofs.Ytiioiohdifkbgaa.Open Go.Proofs.Ytiioiohdifkbgaa.MFnLetters Go.Proofs.YtiioiohdifkbgaaW.PrintWords Go.Proofs.YtiioiohdifkbgaaW.PrintLast
set_option linter.unusedVariables false
/-- The one pure statement. -/
def FnLetters_stated : Prop := ∀ (l0 : List (Int)), l0.length ≤ maxLen → (∀ y ∈ l0, (Lit.int .u8 y).wf = true) → ∃ k, laws_FnLetters.f k l0 = some true
end Go.Proofs.Ytiioiohdifkbgaa.Pure
