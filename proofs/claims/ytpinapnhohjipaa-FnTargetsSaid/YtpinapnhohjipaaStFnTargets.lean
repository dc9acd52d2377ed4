/- How the arguments of the law FnTargets open, and what is left to be proved of numbers and lists alone. -/
import Derived.Test.YtpinapnhohjipaaMFnTargetsx7
import Derived.Test.YtpinapnhohjipaaOpFnTargets
import Derived.KernelRfl
namespace Go.Proofs.Ytpinapnhohjipaa.Pure
open Go.RowKit Go.Proofs.Ytpinapnhohjipaa.Open Go.Proofs.Ytpinapnhohjipaa.MFnTargets Go.Proofs.YtpinapnhohjipaaW.PrintWords Go.Proofs.YtpinapnhohjipaaW.PrintLast
set_option linter.unusedVariables false
/-- The one pure statement. -/
def FnTargets_stated : Prop := ∀ (l0 : List (Int)), l0.length ≤ maxLen → (∀ y ∈ l0, (Lit.int .u8 y).wf = true) → ∃ k, laws_FnTargets.f k l0 = some true
end Go.Proofs.Ytpinapnhohjipaa.Pure
