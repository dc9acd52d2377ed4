/- How the arguments of the law FnDecides open, and what is left to be proved of numbers and lists alone. -/
import Derived.Test.YtpinapnhohjipaaMFnDecidesx9
import Derived.Test.YtpinapnhohjipaaOpFnDecides
import Derived.KernelRfl
namespace Go.Proofs.Ytpinapnhohjipaa.Pure
open Go.RowKit Go.Proofs.Ytpinapnhohjipaa.Open Go.Proofs.Ytpinapnhohjipaa.MFnDecides Go.Proofs.YtpinapnhohjipaaW.PrintWords Go.Proofs.YtpinapnhohjipaaW.PrintLast
set_option linter.unusedVariables false
/-- The one pure statement. -/
def FnDecides_stated : Prop := ∀ (l0 : List (Int)), l0.length ≤ maxLen → (∀ y ∈ l0, (Lit.int .u8 y).wf = true) → ∃ k, laws_FnDecides.f k l0 = some true
end Go.Proofs.Ytpinapnhohjipaa.Pure
