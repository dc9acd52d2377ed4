/- The pure statement of the law FnExactDecodeMessage: proved. -/
import Derived.Test.YtpjelfgeohklkaaLibFnExactDecodeMessage
namespace Go.Proofs.Ytpjelfgeohklkaa.Pure
open Go.RowKit Go.Proofs.Ytpjelfgeohklkaa.Open Go.Proofs.Ytpjelfgeohklkaa.Base Go.Proofs.Ytpjelfgeohklkaa.MFnExactDecodeMessage Go.Proofs.YtpjelfgeohklkaaW.PrintWords Go.Proofs.YtpjelfgeohklkaaW.PrintLast Go.Proofs.YtpjelfgeohklkaaW.PrintMore
set_option linter.unusedVariables false
set_option linter.unusedSimpArgs false
theorem FnExactDecodeMessage : FnExactDecodeMessage_stated := by
  intro l0 hl0 hw
  obtain ⟨k, hk⟩ : ∃ k : Nat, k = 4000000 := ⟨_, rfl⟩
  refine ⟨k + 10, ?_⟩
  unfold laws_FnExactDecodeMessage.f
  by_cases h0 : (l0.length : Int) > 1048576
  · rw [if_pos h0]
  rw [if_neg h0, toByteS_at l0 (by omega) _ (by omega)]
  simp only [Option.bind_some]
  have hb : ∀ x ∈ l0, 0 ≤ x ∧ x ≤ 255 := by
    intro x hx
    have h2 : (decide ((IntKind.u8).min ≤ x) && decide (x ≤ (IntKind.u8).max)) = true := hw x hx
    rw [Bool.and_eq_true, decide_eq_true_eq, decide_eq_true_eq] at h2
    have e1 : (IntKind.u8).min = 0 := by decide
    have e2 : (IntKind.u8).max = 255 := by decide
    rw [e1, e2] at h2
    exact h2
  rw [spec_DecodeMessage_at l0 hb _ (by omega), impl_DecodeMessage_at l0 hb (by omega) _ (by omega)]
  simp only [Option.bind_some]
  have ei := fun j hj => impl_DecodeMessage_at l0 hb (by omega) j hj
  have h2 := dmr_two l0 (by omega)
  generalize dmr l0 = r at *
  obtain ⟨c, v⟩ := r
  simp only at h2 ⊢
  have hv : v = [] ∨ ∃ m : S40, v = [m] ∧ m.f5.f1.length ≤ 1048576 := by
    rcases h2 with h2 | ⟨m, h2, hm⟩
    · injection h2 with _ h2
      exact .inl h2
    · injection h2 with _ h2
      exact .inr ⟨m, h2, hm⟩
  have hlen : v.length ≤ 1048576 := by
    rcases hv with rfl | ⟨m, rfl, _⟩
    · simp
    · simp
  have hs : ∀ m ∈ v, m.f5.f1.length ≤ 1048576 := by
    rcases hv with rfl | ⟨m, rfl, hm⟩
    · intro m hm
      cases hm
    · intro q hq
      rw [List.mem_singleton.1 hq]
      exact hm
  rw [eqMessagesResult_self _ _ hlen hs _ (by omega)]
  simp only [Option.bind_some, ↓reduceIte]
  rw [eqByteS_self _ (by omega) _ (by omega)]
  simp only [Option.bind_some, ↓reduceIte]
  rw [markByteS_at _ 1 (by omega) (by omega) (by omega) _ (by omega)]
  simp only [Option.bind_some]
  rw [if_neg (by omega)]
  simp only [Bool.not_true, laws_FnExactDecodeMessage.j0, Bool.false_eq_true, ↓reduceIte]
  obtain ⟨q, u, e1, hq, e2⟩ := marked_two c v hv (k + 9) (by omega)
  rw [e1]
  simp only [Option.bind_some]
  rw [e2 _ (by omega)]
  have hn : ¬ q < 0 := by omega
  simp only [Option.bind_some, hn, ↓reduceIte]
  rw [toByteS_at l0 (by omega) _ (by omega)]
  simp only [Option.bind_some]
  rw [ei _ (by omega)]
  simp only [Option.bind_some]
  rw [eqMessagesResult_self _ _ hlen hs _ (by omega)]
  simp only [↓reduceIte, Option.bind_some]
end Go.Proofs.Ytpjelfgeohklkaa.Pure
