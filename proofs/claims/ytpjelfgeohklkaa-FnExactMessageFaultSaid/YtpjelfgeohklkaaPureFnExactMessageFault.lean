/- The pure statement of the law FnExactMessageFault: proved. -/
import Derived.Test.YtpjelfgeohklkaaLibFnExactMessageFault
namespace Go.Proofs.Ytpjelfgeohklkaa.Pure
open Go.RowKit Go.Proofs.Ytpjelfgeohklkaa.Open Go.Proofs.Ytpjelfgeohklkaa.Base Go.Proofs.Ytpjelfgeohklkaa.MFnExactMessageFault Go.Proofs.YtpjelfgeohklkaaW.PrintWords Go.Proofs.YtpjelfgeohklkaaW.PrintLast
set_option linter.unusedVariables false
set_option linter.unusedSimpArgs false
theorem FnExactMessageFault : FnExactMessageFault_stated := by
  intro a0 a1 a2 a3 a4 a5 a6 a7 a8 l _ _ _ _ _ _ _ _ _ hl
  obtain ⟨k, hk⟩ : ∃ k : Nat, k = 2000000 := ⟨_, rfl⟩
  refine ⟨k + 10, ?_⟩
  unfold laws_FnExactMessageFault.f
  rw [szMessage_at _ _ _ _ _ _ _ _ _ l 1048576 (by omega) (by omega) hl.1]
  simp only [Option.bind_some]
  by_cases h0 : (1048576 : Int) < l.length
  · rw [if_pos h0, if_pos (by omega)]
  rw [if_neg h0, if_neg (by omega), toMessage_at _ _ _ _ _ _ _ _ _ l (by omega) _ (by omega)]
  simp only [Option.bind_some]
  rw [spec_MessageFault_at _ _ _ _ _ _ _ _ _ _ _ (by omega), impl_MessageFault_at _ _ _ _ _ _ _ _ _ _ _ (by omega)]
  simp only [Option.bind_some, ↓reduceIte]
  rw [eqMessage_self _ _ _ _ _ _ _ _ _ _ (by omega) _ (by omega)]
  rfl
end Go.Proofs.Ytpjelfgeohklkaa.Pure
