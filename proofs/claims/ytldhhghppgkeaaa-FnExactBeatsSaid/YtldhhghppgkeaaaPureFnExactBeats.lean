/- The pure statement of the law FnExactBeats: proved. -/
import Derived.Test.YtldhhghppgkeaaaLibFnExactBeats
namespace Go.Proofs.Ytldhhghppgkeaaa.Pure
open Go.RowKit Go.Proofs.Ytldhhghppgkeaaa.Open Go.Proofs.Ytldhhghppgkeaaa.Base Go.Proofs.Ytldhhghppgkeaaa.PFnExactBeats Go.Proofs.YtldhhghppgkeaaaW.PrintWords Go.Proofs.YtldhhghppgkeaaaW.PrintLast
set_option linter.unusedVariables false
set_option linter.unusedSimpArgs false
theorem FnExactBeats : FnExactBeats_stated := by
  intro a b c d a' b' c' d' _ _ _ _ _ _ _ _
  simp only [laws_FnExactBeats.f, laws_toClaim.f, Option.bind_some, spec_Beats_at, impl_Beats_at]
  simp
end Go.Proofs.Ytldhhghppgkeaaa.Pure
