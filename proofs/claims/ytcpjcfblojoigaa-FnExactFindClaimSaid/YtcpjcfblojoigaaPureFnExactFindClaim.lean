/- The pure statement of the law FnExactFindClaim: proved. -/
import Derived.Test.YtcpjcfblojoigaaLibFnExactFindClaim
namespace Go.Proofs.Ytcpjcfblojoigaa.Pure
open Go.RowKit Go.Proofs.Ytcpjcfblojoigaa.Open Go.Proofs.Ytcpjcfblojoigaa.Base Go.Proofs.Ytcpjcfblojoigaa.PFnExactFindClaim Go.Proofs.YtcpjcfblojoigaaW.PrintWords Go.Proofs.YtcpjcfblojoigaaW.PrintLast
set_option linter.unusedVariables false
set_option linter.unusedSimpArgs false
theorem FnExactFindClaim : FnExactFindClaim_stated := by
  intro l0 a hl0 _ _
  obtain ⟨k, hk⟩ : ∃ k : Nat, k = 2000000 := ⟨_, rfl⟩
  refine ⟨k + 10, ?_⟩
  unfold laws_FnExactFindClaim.f
  rw [szClaimS_at l0 1048576 (by omega) (by omega) hl0]
  simp only [Option.bind_some]
  by_cases h0 : (1048576 : Int) < l0.length
  · rw [if_pos h0, if_pos (by omega)]
  rw [if_neg h0, if_neg (by omega), toClaimS_at l0 (by omega) _ (by omega)]
  simp only [Option.bind_some]
  rw [spec_FindClaim_at _ _ _ (by omega), impl_FindClaim_at _ _ _ (by omega)]
  simp only [Option.bind_some]
  have hr := fcv_len (l0.map cvClaim) a
  have hl : (l0.map cvClaim).length ≤ 1048576 := by simp; omega
  have hfc : ∀ j, 20 ≤ j → impl_FindClaim.f j (l0.map cvClaim) a = some (fcv (l0.map cvClaim) a) := fun j hj => impl_FindClaim_at _ _ j hj
  generalize fcv (l0.map cvClaim) a = r at *
  obtain ⟨c, v, b⟩ := r
  simp only at hr ⊢
  rw [eqViewResult_self _ _ _ (by omega) _ (by omega)]
  simp only [Option.bind_some, ↓reduceIte]
  rw [eqClaimS_self _ (by omega) _ (by omega)]
  simp only [Option.bind_some, ↓reduceIte]
  rw [markClaimS_at _ 1 (by omega) (by omega) (by omega) _ (by omega)]
  simp only [Option.bind_some]
  rw [if_neg (by omega)]
  simp only [Bool.not_true, laws_FnExactFindClaim.j0, Bool.false_eq_true, ↓reduceIte, laws_markViewResult.f]
  rw [markClaimS_at v 1 (by omega) (by omega) (by omega) _ (by omega)]
  simp only [Option.bind_some, laws_heldViewResult.f]
  rw [heldClaimS_at v.length 1 (by omega) (by omega) (by omega) _ (by omega)]
  simp only [Option.bind_some]
  rw [if_neg (show ¬ (1 + 4 * (v.length : Int)) < 0 by omega)]
  simp only [Option.bind_some, ↓reduceIte]
  rw [if_neg (show ¬ (1 + 4 * (v.length : Int)) < 0 by omega), toClaimS_at l0 (by omega) _ (by omega)]
  simp only [Option.bind_some]
  rw [hfc _ (by omega)]
  simp only [Option.bind_some]
  rw [eqViewResult_self _ _ _ (by omega) _ (by omega)]
  simp <;> omega
end Go.Proofs.Ytcpjcfblojoigaa.Pure
