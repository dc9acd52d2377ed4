/- The pure statement of the law FnExactBuryBy: proved. -/
import Derived.Test.YtijeopohnhlpoaaLibFnExactBuryBy
namespace Go.Proofs.Ytijeopohnhlpoaa.Pure
open Go.RowKit Go.Proofs.Ytijeopohnhlpoaa.Open Go.Proofs.Ytijeopohnhlpoaa.Base Go.Proofs.Ytijeopohnhlpoaa.MFnExactBuryBy Go.Proofs.YtijeopohnhlpoaaW.PrintWords Go.Proofs.YtijeopohnhlpoaaW.PrintLast
set_option linter.unusedVariables false
set_option linter.unusedSimpArgs false
theorem FnExactBuryBy : FnExactBuryBy_stated := by
  intro l0 a b c d e f g hl0 _ _ _ _ _ _ _ _
  refine ⟨2000000, ?_⟩
  unfold laws_FnExactBuryBy.f
  rw [szClaimS_at l0 1048576 (by omega) (by omega) hl0]
  simp only [Option.bind_some]
  by_cases h0 : (1048576 : Int) < l0.length
  · rw [if_pos h0, if_pos (by omega)]
  rw [if_neg h0, if_neg (by omega), toClaimS_at l0 (by omega) _ (by omega)]
  simp only [Option.bind_some, laws_toWait.f]
  rw [spec_BuryBy_at _ _ _ _ _ _ _ _ _ (by omega), impl_BuryBy_at _ _ _ _ _ _ _ _ _ (by omega)]
  simp only [Option.bind_some]
  rw [eqClaimResult_self, eqClaimS_self _ (by simp; omega) _ (by simp; omega)]
  simp
end Go.Proofs.Ytijeopohnhlpoaa.Pure
