/- How the arguments of the law FnExactDecodeMessage open, and what is left to be proved of numbers and lists alone. -/
import Derived.Test.YtpjelfgeohklkaaMFnExactDecodeMessagex9
import Derived.Test.YtpjelfgeohklkaaOpFnExactDecodeMessage
import Derived.KernelRfl
namespace Go.Proofs.Ytpjelfgeohklkaa.Pure
open Go.RowKit Go.Proofs.Ytpjelfgeohklkaa.Open Go.Proofs.Ytpjelfgeohklkaa.MFnExactDecodeMessage Go.Proofs.YtpjelfgeohklkaaW.PrintWords Go.Proofs.YtpjelfgeohklkaaW.PrintLast
set_option linter.unusedVariables false
/-- The one pure statement. -/
def FnExactDecodeMessage_stated : Prop := ∀ (l0 : List (Int)), l0.length ≤ maxLen → (∀ y ∈ l0, (Lit.int .u8 y).wf = true) → ∃ k, laws_FnExactDecodeMessage.f k l0 = some true
end Go.Proofs.Ytpjelfgeohklkaa.Pure
