/- How the arguments of the law FnClaims open, and what is left to be proved of numbers and lists alone. -/
import Derived.Test.YtldhhghppgkeaaaPFnClaimsx3
import Derived.Test.YtldhhghppgkeaaaOpen
import Derived.KernelRfl
namespace Go.Proofs.Ytldhhghppgkeaaa.Pure
open Go.RowKit Go.Proofs.Ytldhhghppgkeaaa.Open Go.Proofs.Ytldhhghppgkeaaa.PFnClaims Go.Proofs.YtldhhghppgkeaaaW.PrintWords Go.Proofs.YtldhhghppgkeaaaW.PrintLast
set_option linter.unusedVariables false
/-- The one pure statement. -/
def FnClaims_stated : Prop := ∀ (l0 : List (Int)), l0.length ≤ maxLen → (∀ y ∈ l0, (Lit.int .u8 y).wf = true) → ∃ k, laws_FnClaims.f k l0 = some true
end Go.Proofs.Ytldhhghppgkeaaa.Pure
