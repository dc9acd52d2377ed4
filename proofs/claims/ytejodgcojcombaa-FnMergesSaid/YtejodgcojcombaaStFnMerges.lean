/- How the arguments of the law FnMerges open, and what is left to be proved of numbers and lists alone. -/
import Derived.Test.YtejodgcojcombaaMFnMergesx10
import Derived.Test.YtejodgcojcombaaOpFnMerges
import Derived.KernelRfl
namespace Go.Proofs.Ytejodgcojcombaa.Pure
open Go.RowKit Go.Proofs.Ytejodgcojcombaa.Open Go.Proofs.Ytejodgcojcombaa.MFnMerges Go.Proofs.YtejodgcojcombaaW.PrintWords Go.Proofs.YtejodgcojcombaaW.PrintLast
set_option linter.unusedVariables false
/-- The one pure statement. -/
def FnMerges_stated : Prop := ∀ (l0 : List (Int)), l0.length ≤ maxLen → (∀ y ∈ l0, (Lit.int .u8 y).wf = true) → ∃ k, laws_FnMerges.f k l0 = some true
end Go.Proofs.Ytejodgcojcombaa.Pure
