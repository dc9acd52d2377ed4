/- The pure statement of the law FnExactEncodeMessage: proved. -/
import Derived.Test.YtpjelfgeohklkaaLibFnExactEncodeMessage
namespace Go.Proofs.Ytpjelfgeohklkaa.Pure
open Go.RowKit Go.Proofs.Ytpjelfgeohklkaa.Open Go.Proofs.Ytpjelfgeohklkaa.Base Go.Proofs.Ytpjelfgeohklkaa.MFnExactEncodeMessage Go.Proofs.YtpjelfgeohklkaaW.PrintWords Go.Proofs.YtpjelfgeohklkaaW.PrintLast
set_option linter.unusedVariables false
set_option linter.unusedSimpArgs false
theorem FnExactEncodeMessage : FnExactEncodeMessage_stated := by
  intro a0 a1 a2 a3 a4 a5 a6 a7 a8 l _ _ _ _ _ _ _ _ _ hl
  obtain ⟨k, hk⟩ : ∃ k : Nat, k = 2000000 := ⟨_, rfl⟩
  refine ⟨k + 10, ?_⟩
  have et := fun j hj => toMessage_at a0 a1 a2 a3 a4 a5 a6 a7 a8 l hj j
  have ei := fun j hj => impl_EncodeMessage_at a0 a1 a2 a3 a4 a5 a6 a7 a8 l j hj
  unfold laws_FnExactEncodeMessage.f
  rw [szMessage_at _ _ _ _ _ _ _ _ _ l 1048576 (by omega) (by omega) hl.1]
  simp only [Option.bind_some]
  by_cases h0 : (1048576 : Int) < l.length
  · rw [if_pos h0, if_pos (by omega)]
  rw [if_neg h0, if_neg (by omega), et _ (by omega) (by omega)]
  simp only [Option.bind_some]
  rw [spec_EncodeMessage_at _ _ _ _ _ _ _ _ _ _ _ (by omega), ei _ (by omega)]
  simp only [Option.bind_some]
  have hr := emr_len a0 a1 a2 a3 a4 a5 a6 a7 a8 l
  generalize emr a0 a1 a2 a3 a4 a5 a6 a7 a8 l = r at *
  obtain ⟨c, v⟩ := r
  simp only at hr ⊢
  rw [eqBytesResult_self _ _ (by omega) _ (by omega)]
  simp only [Option.bind_some, ↓reduceIte]
  rw [eqMessage_self _ _ _ _ _ _ _ _ _ _ (by omega) _ (by omega)]
  simp only [Option.bind_some, ↓reduceIte]
  rw [markMessage_at _ _ _ _ _ _ _ _ _ _ (by omega) _ (by omega)]
  simp only [Option.bind_some]
  rw [if_neg (by omega)]
  simp only [Bool.not_true, laws_FnExactEncodeMessage.j0, Bool.false_eq_true, ↓reduceIte]
  rw [markBytesResult_at _ _ (by omega) _ (by omega)]
  simp only [Option.bind_some]
  rw [heldBytesResult_at _ _ (by omega) _ (by omega)]
  have hn : ¬ (1 + 1 * (v.length : Int)) < 0 := by omega
  simp only [Option.bind_some, hn, ↓reduceIte]
  rw [et _ (by omega) (by omega)]
  simp only [Option.bind_some]
  rw [ei _ (by omega)]
  simp only [Option.bind_some]
  rw [eqBytesResult_self _ _ (by omega) _ (by omega)]
  simp only [↓reduceIte, Option.bind_some]
end Go.Proofs.Ytpjelfgeohklkaa.Pure
