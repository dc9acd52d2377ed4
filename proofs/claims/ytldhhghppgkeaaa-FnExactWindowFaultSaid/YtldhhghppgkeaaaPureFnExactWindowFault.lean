/- The pure statement of the law FnExactWindowFault: proved. -/
import Derived.Test.YtldhhghppgkeaaaLibFnExactWindowFault
namespace Go.Proofs.Ytldhhghppgkeaaa.Pure
open Go.RowKit Go.Proofs.Ytldhhghppgkeaaa.Open Go.Proofs.Ytldhhghppgkeaaa.Base Go.Proofs.Ytldhhghppgkeaaa.MFnExactWindowFault Go.Proofs.YtldhhghppgkeaaaW.PrintWords Go.Proofs.YtldhhghppgkeaaaW.PrintLast
set_option linter.unusedVariables false
set_option linter.unusedSimpArgs false
theorem FnExactWindowFault : FnExactWindowFault_stated := by
  intro t0 l0 _ ⟨hl0, _⟩
  refine ⟨4000000, ?_⟩
  unfold laws_FnExactWindowFault.f laws_szWindow.f
  rw [szInt64S_at l0 1048576 (by omega) (by omega) hl0]
  simp only [Option.bind_some]
  by_cases h0 : (1048576 : Int) < l0.length
  · simp [h0]
  rw [if_neg h0, if_neg (by omega)]
  simp only [Option.bind_some, laws_toWindow.f]
  rw [if_neg (by omega), toInt64S_at l0 (by omega) _ (by omega)]
  simp only [Option.bind_some, laws_eqWindow.f]
  rw [spec_WindowFault_at _ _ (by omega) _ (by omega), impl_WindowFault_at _ _ (by omega) _ (by omega), eqInt64S_self _ (by omega) _ (by omega)]
  simp
end Go.Proofs.Ytldhhghppgkeaaa.Pure
