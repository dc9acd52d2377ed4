/- The pure statement of the law FnExactClearWaits: proved. -/
import Derived.Test.YtijeopohnhlpoaaLibFnExactClearWaits
namespace Go.Proofs.Ytijeopohnhlpoaa.Pure
open Go.RowKit Go.Proofs.Ytijeopohnhlpoaa.Open Go.Proofs.Ytijeopohnhlpoaa.Base Go.Proofs.Ytijeopohnhlpoaa.MFnExactClearWaits Go.Proofs.YtijeopohnhlpoaaW.PrintWords Go.Proofs.YtijeopohnhlpoaaW.PrintLast
set_option linter.unusedVariables false
set_option linter.unusedSimpArgs false
theorem FnExactClearWaits : FnExactClearWaits_stated := by
  intro l0 a hl0 _ _
  obtain ⟨k, hk⟩ : ∃ k : Nat, k = 2000000 := ⟨_, rfl⟩
  refine ⟨k + 10, ?_⟩
  unfold laws_FnExactClearWaits.f
  rw [szWaitS_at l0 1048576 (by omega) (by omega) hl0]
  simp only [Option.bind_some]
  by_cases h0 : (1048576 : Int) < l0.length
  · rw [if_pos h0, if_pos (by omega)]
  rw [if_neg h0, if_neg (by omega), toWaitS_at l0 (by omega) _ (by omega)]
  simp only [Option.bind_some]
  rw [spec_ClearWaits_at _ _ _ (by omega), impl_ClearWaits_at _ _ _ (by omega)]
  simp only [Option.bind_some]
  have hr := cvv_len (l0.map cvWait) a
  have hl : (l0.map cvWait).length ≤ 1048576 := by simp; omega
  have hfc : ∀ j, 300 ≤ j → impl_ClearWaits.f j (l0.map cvWait) a = some (cvv (l0.map cvWait) a) := fun j hj => impl_ClearWaits_at _ _ j (by omega)
  generalize cvv (l0.map cvWait) a = r at *
  obtain ⟨c, v, u⟩ := r
  simp only at hr ⊢
  obtain ⟨hv, hu⟩ := hr
  rw [eqWaitsResult_self c v u (by omega) (by omega) _ (by omega) (by omega)]
  simp only [Option.bind_some, ↓reduceIte]
  rw [eqWaitS_self _ (by omega) _ (by omega)]
  simp only [Option.bind_some, ↓reduceIte]
  rw [markWaitS_at _ 1 (by omega) (by omega) (by omega) _ (by omega)]
  simp only [Option.bind_some]
  rw [if_neg (by omega)]
  simp only [Bool.not_true, laws_FnExactClearWaits.j0, Bool.false_eq_true, ↓reduceIte]
  rw [markWaitsResult_at c v u (by omega) (by omega) _ (by omega) (by omega)]
  simp only [Option.bind_some]
  rw [heldWaitsResult_at c v.length u.length (by omega) (by omega) _ (by omega) (by omega)]
  simp only [Option.bind_some]
  rw [if_neg (show ¬ (1 + 7 * (v.length : Int) + 7 * (u.length : Int)) < 0 by omega)]
  simp only [↓reduceIte]
  rw [toWaitS_at l0 (by omega) _ (by omega)]
  simp only [Option.bind_some]
  rw [hfc _ (by omega)]
  simp only [Option.bind_some]
  rw [eqWaitsResult_self c v u (by omega) (by omega) _ (by omega) (by omega)]
  simp only [↓reduceIte, Option.bind_some]
  simp <;> omega
end Go.Proofs.Ytijeopohnhlpoaa.Pure
