/- The pure statement of the law FnExactSuspectBy: proved. -/
import Derived.Test.YtcpjcfblojoigaaLibFnExactSuspectBy
namespace Go.Proofs.Ytcpjcfblojoigaa.Pure
open Go.RowKit Go.Proofs.Ytcpjcfblojoigaa.Open Go.Proofs.Ytcpjcfblojoigaa.Base Go.Proofs.Ytcpjcfblojoigaa.MFnExactSuspectBy Go.Proofs.YtcpjcfblojoigaaW.PrintWords Go.Proofs.YtcpjcfblojoigaaW.PrintLast
set_option linter.unusedVariables false
set_option linter.unusedSimpArgs false
theorem FnExactSuspectBy : FnExactSuspectBy_stated := by
  intro l0 a hl0 _ _
  refine ⟨2000000, ?_⟩
  unfold laws_FnExactSuspectBy.f
  rw [szClaimS_at l0 1048576 (by omega) (by omega) hl0]
  simp only [Option.bind_some]
  by_cases h0 : (1048576 : Int) < l0.length
  · rw [if_pos h0, if_pos (by omega)]
  rw [if_neg h0, if_neg (by omega), toClaimS_at l0 (by omega) _ (by omega)]
  simp only [Option.bind_some]
  rw [spec_SuspectBy_at _ _ _ (by omega), impl_SuspectBy_at _ _ _ (by omega)]
  simp only [Option.bind_some]
  rw [eqClaimResult_self, eqClaimS_self _ (by simp; omega) _ (by simp; omega)]
  simp
end Go.Proofs.Ytcpjcfblojoigaa.Pure
