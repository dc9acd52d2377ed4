/- The pure statement of the law FnExactMergeViews: proved. -/
import Derived.Test.YtejodgcojcombaaLibFnExactMergeViews
namespace Go.Proofs.Ytejodgcojcombaa.Pure
open Go.RowKit Go.Proofs.Ytejodgcojcombaa.Open Go.Proofs.Ytejodgcojcombaa.Base Go.Proofs.Ytejodgcojcombaa.MFnExactMergeViews Go.Proofs.YtejodgcojcombaaW.PrintWords Go.Proofs.YtejodgcojcombaaW.PrintLast
set_option linter.unusedVariables false
set_option linter.unusedSimpArgs false
theorem FnExactMergeViews : FnExactMergeViews_stated := by
  intro l0 l1 hl0 _ hl1 _
  obtain ⟨k, hk⟩ : ∃ k : Nat, k = 2000000 := ⟨_, rfl⟩
  refine ⟨k + 10, ?_⟩
  unfold laws_FnExactMergeViews.f
  rw [szClaimS_at l0 1048576 (by omega) (by omega) hl0]
  simp only [Option.bind_some]
  by_cases h0 : (1048576 : Int) < l0.length
  · rw [if_pos h0, if_pos (by omega)]
  rw [if_neg h0, if_neg (by omega), szClaimS_at l1 _ (by omega) (by omega) hl1]
  simp only [Option.bind_some]
  by_cases h1 : (1048576 : Int) - l0.length < l1.length
  · rw [if_pos h1, if_pos (by omega)]
  rw [if_neg h1, if_neg (by omega)]
  have e0 := fun j hj => toClaimS_at l0 (by omega) j hj
  have e1 := fun j hj => toClaimS_at l1 (by omega) j hj
  have hl : (l0.map cvClaim).length ≤ 1048576 := by simp; omega
  have hm : (l1.map cvClaim).length ≤ 1048576 := by simp; omega
  have hlm : (l0.map cvClaim).length + (l1.map cvClaim).length ≤ 1048576 := by simp; omega
  rw [e0 _ (by omega), e1 _ (by omega)]
  generalize l0.map cvClaim = a at *
  generalize l1.map cvClaim = b at *
  simp only [Option.bind_some]
  rw [spec_MergeViews_at a b _ (by omega), impl_MergeViews_at a b _ (by omega)]
  simp only [Option.bind_some]
  have hr := mvv_len a b
  have ei := fun j hj => impl_MergeViews_at a b j hj
  generalize mvv a b = r at *
  obtain ⟨c, v, b'⟩ := r
  simp only at hr ⊢
  rw [eqViewResult_self _ _ _ (by omega) _ (by omega), eqClaimS_self a (by omega) _ (by omega), eqClaimS_self b (by omega) _ (by omega)]
  simp only [Option.bind_some, ↓reduceIte]
  rw [markClaimS_at _ 1 (by omega) (by omega) (by omega) _ (by omega)]
  simp only [Option.bind_some]
  rw [markClaimS_at _ _ (by omega) (by omega) (by omega) _ (by omega)]
  simp only [Option.bind_some]
  rw [if_neg (by omega)]
  simp only [Bool.not_true, laws_FnExactMergeViews.j0, Bool.false_eq_true, ↓reduceIte, laws_markViewResult.f]
  rw [markClaimS_at v 1 (by omega) (by omega) (by omega) _ (by omega)]
  simp only [Option.bind_some, laws_heldViewResult.f]
  rw [heldClaimS_at v.length 1 (by omega) (by omega) (by omega) _ (by omega)]
  simp only [Option.bind_some]
  rw [if_neg (show ¬ (1 + 4 * (v.length : Int)) < 0 by omega)]
  simp only [Option.bind_some, ↓reduceIte]
  rw [e0 _ (by omega), e1 _ (by omega)]
  simp only [Option.bind_some]
  rw [ei _ (by omega)]
  simp only [Option.bind_some]
  rw [eqViewResult_self _ _ _ (by omega) _ (by omega)]
  simp <;> omega
end Go.Proofs.Ytejodgcojcombaa.Pure
