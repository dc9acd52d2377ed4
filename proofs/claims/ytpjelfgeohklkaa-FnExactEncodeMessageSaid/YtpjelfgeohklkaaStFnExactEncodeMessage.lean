/- How the arguments of the law FnExactEncodeMessage open, and what is left to be proved of numbers and lists alone. -/
import Derived.Test.YtpjelfgeohklkaaMFnExactEncodeMessagex8
import Derived.Test.YtpjelfgeohklkaaOpFnExactEncodeMessage
import Derived.KernelRfl
namespace Go.Proofs.Ytpjelfgeohklkaa.Pure
open Go.RowKit Go.Proofs.Ytpjelfgeohklkaa.Open Go.Proofs.Ytpjelfgeohklkaa.MFnExactEncodeMessage Go.Proofs.YtpjelfgeohklkaaW.PrintWords Go.Proofs.YtpjelfgeohklkaaW.PrintLast
set_option linter.unusedVariables false
/-- The one pure statement. -/
def FnExactEncodeMessage_stated : Prop := ∀ (y0_0 : Int) (y0_1 : Int) (y0_2 : Int) (y0_3 : Int) (y0_4 : Int) (y0_5 : Int) (y0_6 : Int) (y0_7 : Int) (y0_8 : Int) (y0_9 : List (Int)), (Lit.int .i64 y0_0).wf = true → (Lit.int .i64 y0_1).wf = true → (Lit.int .i64 y0_2).wf = true → (Lit.int .i64 y0_3).wf = true → (Lit.int .i64 y0_4).wf = true → (Lit.int .i64 y0_5).wf = true → (Lit.int .i64 y0_6).wf = true → (Lit.int .i64 y0_7).wf = true → (Lit.int .i64 y0_8).wf = true → (y0_9.length ≤ maxLen ∧ ∀ y ∈ y0_9, (Lit.int .u8 y).wf = true) → ∃ k, laws_FnExactEncodeMessage.f k y0_0 y0_1 y0_2 y0_3 y0_4 y0_5 y0_6 y0_7 y0_8 y0_9 = some true
end Go.Proofs.Ytpjelfgeohklkaa.Pure
