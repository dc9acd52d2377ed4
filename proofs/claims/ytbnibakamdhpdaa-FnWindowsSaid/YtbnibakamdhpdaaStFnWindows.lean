/- How the arguments of the law FnWindows open, and what is left to be proved of numbers and lists alone. -/
import Derived.Test.YtbnibakamdhpdaaMFnWindowsx8
import Derived.Test.YtbnibakamdhpdaaOpFnWindows
import Derived.KernelRfl
namespace Go.Proofs.Ytbnibakamdhpdaa.Pure
open Go.RowKit Go.Proofs.Ytbnibakamdhpdaa.Open Go.Proofs.Ytbnibakamdhpdaa.MFnWindows Go.Proofs.YtbnibakamdhpdaaW.PrintWords Go.Proofs.YtbnibakamdhpdaaW.PrintLast
set_option linter.unusedVariables false
/-- The one pure statement. -/
def FnWindows_stated : Prop := ∀ (l0 : List (Int)), l0.length ≤ maxLen → (∀ y ∈ l0, (Lit.int .u8 y).wf = true) → ∃ k, laws_FnWindows.f k l0 = some true
end Go.Proofs.Ytbnibakamdhpdaa.Pure
