/- The pure statement of the law FnExactWaitsFault: proved. -/
import Derived.Test.YtldhhghppgkeaaaLibFnExactWaitsFault
namespace Go.Proofs.Ytldhhghppgkeaaa.Pure
open Go.RowKit Go.Proofs.Ytldhhghppgkeaaa.Open Go.Proofs.Ytldhhghppgkeaaa.Base Go.Proofs.Ytldhhghppgkeaaa.MFnExactWaitsFault Go.Proofs.YtldhhghppgkeaaaW.PrintWords Go.Proofs.YtldhhghppgkeaaaW.PrintLast
set_option linter.unusedVariables false
set_option linter.unusedSimpArgs false
theorem FnExactWaitsFault : FnExactWaitsFault_stated := by
  intro l0 hl0 _
  refine ⟨2000000, ?_⟩
  unfold laws_FnExactWaitsFault.f
  rw [szWaitS_at l0 1048576 (by omega) (by omega) hl0]
  simp only [Option.bind_some]
  by_cases h0 : (1048576 : Int) < l0.length
  · rw [if_pos h0, if_pos (by omega)]
  rw [if_neg h0, if_neg (by omega), toWaitS_at l0 (by omega) _ (by omega)]
  simp only [Option.bind_some]
  rw [spec_WaitsFault_at _ _ (by omega), impl_WaitsFault_at _ _ (by omega)]
  simp only [Option.bind_some]
  rw [eqWaitS_self _ (by simp; omega) _ (by simp; omega)]
  simp
end Go.Proofs.Ytldhhghppgkeaaa.Pure
