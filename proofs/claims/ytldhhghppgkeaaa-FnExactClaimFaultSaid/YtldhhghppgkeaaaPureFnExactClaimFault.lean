/- The pure statement of the law FnExactClaimFault: proved. -/
import Derived.Test.YtldhhghppgkeaaaLibFnExactClaimFault
namespace Go.Proofs.Ytldhhghppgkeaaa.Pure
open Go.RowKit Go.Proofs.Ytldhhghppgkeaaa.Open Go.Proofs.Ytldhhghppgkeaaa.Base Go.Proofs.Ytldhhghppgkeaaa.PFnExactClaimFault Go.Proofs.YtldhhghppgkeaaaW.PrintWords Go.Proofs.YtldhhghppgkeaaaW.PrintLast
set_option linter.unusedVariables false
set_option linter.unusedSimpArgs false
theorem FnExactClaimFault : FnExactClaimFault_stated := by
  intro a b c d _ _ _ _
  simp only [laws_FnExactClaimFault.f, laws_toClaim.f, Option.bind_some, spec_ClaimFault_at, impl_ClaimFault_at]
  simp
end Go.Proofs.Ytldhhghppgkeaaa.Pure
