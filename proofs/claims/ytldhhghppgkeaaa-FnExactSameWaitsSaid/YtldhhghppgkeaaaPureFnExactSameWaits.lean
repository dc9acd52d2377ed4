/- The pure statement of the law FnExactSameWaits: proved. -/
import Derived.Test.YtldhhghppgkeaaaLibFnExactSameWaits
namespace Go.Proofs.Ytldhhghppgkeaaa.Pure
open Go.RowKit Go.Proofs.Ytldhhghppgkeaaa.Open Go.Proofs.Ytldhhghppgkeaaa.Base Go.Proofs.Ytldhhghppgkeaaa.PFnExactSameWaits Go.Proofs.YtldhhghppgkeaaaW.PrintWords Go.Proofs.YtldhhghppgkeaaaW.PrintLast
set_option linter.unusedVariables false
set_option linter.unusedSimpArgs false
theorem FnExactSameWaits : FnExactSameWaits_stated := by
  intro l0 l1 hl0 _ hl1 _
  refine ⟨2000000, ?_⟩
  unfold laws_FnExactSameWaits.f
  rw [szWaitS_at l0 1048576 (by omega) (by omega) hl0]
  simp only [Option.bind_some]
  by_cases h0 : (1048576 : Int) < l0.length
  · rw [if_pos h0, if_pos (by omega)]
  rw [if_neg h0, if_neg (by omega), szWaitS_at l1 _ (by omega) (by omega) hl1]
  simp only [Option.bind_some]
  by_cases h1 : (1048576 : Int) - l0.length < l1.length
  · rw [if_pos h1, if_pos (by omega)]
  rw [if_neg h1, if_neg (by omega), toWaitS_at l0 (by omega) _ (by omega), toWaitS_at l1 (by omega) _ (by omega)]
  simp only [Option.bind_some]
  rw [spec_SameWaits_at _ _ (by simp; omega) _ (by simp; omega), impl_SameWaits_at _ _ (by simp; omega) _ (by simp; omega)]
  simp only [Option.bind_some]
  rw [eqWaitS_self _ (by simp; omega) _ (by simp; omega), eqWaitS_self _ (by simp; omega) _ (by simp; omega)]
  simp
end Go.Proofs.Ytldhhghppgkeaaa.Pure
