/- The pure statement of the law FnExactRecordsFor: proved. -/
import Derived.Test.YtcpjcfblojoigaaLibFnExactRecordsFor
namespace Go.Proofs.Ytcpjcfblojoigaa.Pure
open Go.RowKit Go.Proofs.Ytcpjcfblojoigaa.Open Go.Proofs.Ytcpjcfblojoigaa.Base Go.Proofs.Ytcpjcfblojoigaa.MFnExactRecordsFor Go.Proofs.YtcpjcfblojoigaaW.PrintWords Go.Proofs.YtcpjcfblojoigaaW.PrintLast
set_option linter.unusedVariables false
set_option linter.unusedSimpArgs false
theorem FnExactRecordsFor : FnExactRecordsFor_stated := by
  intro l0 a b hl0 _ _ _
  obtain ⟨k, hk⟩ : ∃ k : Nat, k = 2000000 := ⟨_, rfl⟩
  refine ⟨k + 10, ?_⟩
  unfold laws_FnExactRecordsFor.f
  rw [szClaimS_at l0 1048576 (by omega) (by omega) hl0]
  simp only [Option.bind_some]
  by_cases h0 : (1048576 : Int) < l0.length
  · rw [if_pos h0, if_pos (by omega)]
  rw [if_neg h0, if_neg (by omega), toClaimS_at l0 (by omega) _ (by omega)]
  simp only [Option.bind_some]
  rw [spec_RecordsFor_at _ _ _ _ (by omega), impl_RecordsFor_at _ _ _ _ (by omega)]
  simp only [Option.bind_some]
  have hr := rfv_len (l0.map cvClaim) a b
  have hl : (l0.map cvClaim).length ≤ 1048576 := by simp; omega
  have hfc : ∀ j, 100 ≤ j → impl_RecordsFor.f j (l0.map cvClaim) a b = some (rfv (l0.map cvClaim) a b) := fun j hj => impl_RecordsFor_at _ _ _ j (by omega)
  generalize rfv (l0.map cvClaim) a b = r at *
  obtain ⟨c, v⟩ := r
  simp only at hr ⊢
  rw [eqRecordsResult_self _ _ (by omega) _ (by omega)]
  simp only [Option.bind_some, ↓reduceIte]
  rw [eqClaimS_self _ (by omega) _ (by omega)]
  simp only [Option.bind_some, ↓reduceIte]
  rw [markClaimS_at _ 1 (by omega) (by omega) (by omega) _ (by omega)]
  simp only [Option.bind_some]
  rw [if_neg (by omega)]
  simp only [Bool.not_true, laws_FnExactRecordsFor.j0, Bool.false_eq_true, ↓reduceIte, laws_markRecordsResult.f]
  rw [markRecordS_at v 1 (by omega) (by omega) (by omega) _ (by omega)]
  simp only [Option.bind_some, laws_heldRecordsResult.f]
  rw [heldRecordS_at v.length 1 (by omega) (by omega) (by omega) _ (by omega)]
  simp only [Option.bind_some]
  rw [if_neg (show ¬ (1 + 3 * (v.length : Int)) < 0 by omega)]
  simp only [Option.bind_some, ↓reduceIte]
  rw [if_neg (show ¬ (1 + 3 * (v.length : Int)) < 0 by omega), toClaimS_at l0 (by omega) _ (by omega)]
  simp only [Option.bind_some]
  rw [hfc _ (by omega)]
  simp only [Option.bind_some]
  rw [eqRecordsResult_self _ _ (by omega) _ (by omega)]
  simp <;> omega
end Go.Proofs.Ytcpjcfblojoigaa.Pure
