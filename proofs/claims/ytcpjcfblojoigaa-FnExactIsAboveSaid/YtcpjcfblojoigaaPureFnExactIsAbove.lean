/- The pure statement of the law FnExactIsAbove: proved. -/
import Derived.Test.YtcpjcfblojoigaaLibFnExactIsAbove
namespace Go.Proofs.Ytcpjcfblojoigaa.Pure
open Go.RowKit Go.Proofs.Ytcpjcfblojoigaa.Open Go.Proofs.Ytcpjcfblojoigaa.Base Go.Proofs.Ytcpjcfblojoigaa.PFnExactIsAbove Go.Proofs.YtcpjcfblojoigaaW.PrintWords Go.Proofs.YtcpjcfblojoigaaW.PrintLast
set_option linter.unusedVariables false
set_option linter.unusedSimpArgs false
theorem FnExactIsAbove : FnExactIsAbove_stated := by
  intro l0 l1 hl0 _ hl1 _
  refine ⟨2000000, ?_⟩
  unfold laws_FnExactIsAbove.f
  rw [szClaimS_at l0 1048576 (by omega) (by omega) hl0]
  simp only [Option.bind_some]
  by_cases h0 : (1048576 : Int) < l0.length
  · rw [if_pos h0, if_pos (by omega)]
  rw [if_neg h0, if_neg (by omega), szClaimS_at l1 _ (by omega) (by omega) hl1]
  simp only [Option.bind_some]
  by_cases h1 : (1048576 : Int) - l0.length < l1.length
  · rw [if_pos h1, if_pos (by omega)]
  rw [if_neg h1, if_neg (by omega), toClaimS_at l0 (by omega) _ (by omega), toClaimS_at l1 (by omega) _ (by omega)]
  simp only [Option.bind_some]
  rw [spec_IsAbove_at _ _ _ (by omega), impl_IsAbove_at _ _ _ (by omega)]
  simp only [Option.bind_some]
  rw [eqClaimS_self _ (by simp; omega) _ (by simp; omega), eqClaimS_self _ (by simp; omega) _ (by simp; omega)]
  simp
end Go.Proofs.Ytcpjcfblojoigaa.Pure
