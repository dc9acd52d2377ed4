/- The pure statement of the law FnExactMergeClaim: proved. -/
import Derived.Test.YtejodgcojcombaaLibFnExactMergeClaim
namespace Go.Proofs.Ytejodgcojcombaa.Pure
open Go.RowKit Go.Proofs.Ytejodgcojcombaa.Open Go.Proofs.Ytejodgcojcombaa.Base Go.Proofs.Ytejodgcojcombaa.MFnExactMergeClaim Go.Proofs.YtejodgcojcombaaW.PrintWords Go.Proofs.YtejodgcojcombaaW.PrintLast
set_option linter.unusedVariables false
set_option linter.unusedSimpArgs false
theorem FnExactMergeClaim : FnExactMergeClaim_stated := by
  intro l0 a0 a1 a2 a3 hl0 _ _ _ _ _
  obtain ⟨k, hk⟩ : ∃ k : Nat, k = 2000000 := ⟨_, rfl⟩
  refine ⟨k + 10, ?_⟩
  unfold laws_FnExactMergeClaim.f
  rw [szClaimS_at l0 1048576 (by omega) (by omega) hl0]
  simp only [Option.bind_some]
  by_cases h0 : (1048576 : Int) < l0.length
  · rw [if_pos h0, if_pos (by omega)]
  rw [if_neg h0, if_neg (by omega), toClaimS_at l0 (by omega) _ (by omega)]
  have hc : laws_toClaim.f a0 a1 a2 a3 = some (a0, a1, a2, a3) := rfl
  simp only [Option.bind_some, hc]
  have es := fun j hj => spec_MergeClaim_at (l0.map cvClaim) ⟨a0, a1, a2, a3⟩ j hj
  have ei := fun j hj => impl_MergeClaim_at (l0.map cvClaim) ⟨a0, a1, a2, a3⟩ j hj
  simp only at es ei
  rw [es _ (by omega), ei _ (by omega)]
  simp only [Option.bind_some]
  have hr := mcv_len (l0.map cvClaim) ⟨a0, a1, a2, a3⟩
  have hl : (l0.map cvClaim).length ≤ 1048576 := by simp; omega
  generalize mcv (l0.map cvClaim) ⟨a0, a1, a2, a3⟩ = r at *
  obtain ⟨c, v, b⟩ := r
  simp only at hr ⊢
  rw [eqViewResult_self _ _ _ (by omega) _ (by omega)]
  simp only [Option.bind_some, ↓reduceIte]
  rw [eqClaimS_self _ (by omega) _ (by omega)]
  simp only [Option.bind_some, ↓reduceIte]
  rw [markClaimS_at _ 1 (by omega) (by omega) (by omega) _ (by omega)]
  simp only [Option.bind_some]
  rw [if_neg (by omega)]
  simp only [Bool.not_true, laws_FnExactMergeClaim.j0, Bool.false_eq_true, ↓reduceIte, laws_markViewResult.f]
  rw [markClaimS_at v 1 (by omega) (by omega) (by omega) _ (by omega)]
  simp only [Option.bind_some, laws_heldViewResult.f]
  rw [heldClaimS_at v.length 1 (by omega) (by omega) (by omega) _ (by omega)]
  simp only [Option.bind_some]
  rw [if_neg (show ¬ (1 + 4 * (v.length : Int)) < 0 by omega)]
  simp only [Option.bind_some, ↓reduceIte]
  rw [if_neg (show ¬ (1 + 4 * (v.length : Int)) < 0 by omega), toClaimS_at l0 (by omega) _ (by omega)]
  simp only [Option.bind_some, hc]
  rw [ei _ (by omega)]
  simp only [Option.bind_some]
  rw [eqViewResult_self _ _ _ (by omega) _ (by omega)]
  simp <;> omega
end Go.Proofs.Ytejodgcojcombaa.Pure
