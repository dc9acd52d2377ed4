/- The pure statement of the law FnMerges: proved. -/
import Derived.Test.YtejodgcojcombaaLibFnMerges
namespace Go.Proofs.Ytejodgcojcombaa.Pure
open Go.RowKit Go.Proofs.Ytejodgcojcombaa.Open Go.Proofs.Ytejodgcojcombaa.Base Go.Proofs.Ytejodgcojcombaa.MFnMerges Go.Proofs.YtejodgcojcombaaW.PrintWords Go.Proofs.YtejodgcojcombaaW.PrintLast Go.Proofs.YtejodgcojcombaaW.PrintMore
set_option linter.unusedVariables false
set_option linter.unusedSimpArgs false
theorem FnMerges : FnMerges_stated := by
  intro code hl hc
  obtain ⟨k, hk⟩ : ∃ k : Nat, k = 20000 := ⟨_, rfl⟩
  refine ⟨k + 10, ?_⟩
  unfold laws_FnMerges.f
  rw [lwBig_at]
  simp only [Option.bind_some]
  by_cases h0 : (code.length : Int) > 1048576
  · simp [h0]
  rw [decide_eq_false h0, if_neg (by decide)]
  have hb := bytes_of (by omega) hc
  obtain ⟨a, c0, c1, c2, c3, e1, ha8⟩ := drawMergeClaim_at hb (k + 10) (by omega)
  obtain ⟨v, w, e2, hv8, hw8⟩ := drawMergeViews_at hb (k + 10) (by omega)
  obtain ⟨p, q, e3⟩ := drawIsAbove2_at hb (k + 10) (by omega)
  have es := fun j hj => spec_MergeClaim_at a ⟨c0, c1, c2, c3⟩ j hj
  have ei := fun j hj => impl_MergeClaim_at a ⟨c0, c1, c2, c3⟩ j hj
  simp only at es ei
  rw [e1]
  simp only [Option.bind_some]
  rw [ei _ (by omega), e2]
  simp only [Option.bind_some]
  rw [impl_MergeViews_at v w _ (by omega), e3]
  simp only [Option.bind_some]
  rw [es _ (by omega)]
  simp only [Option.bind_some, ↓reduceIte, bne_self_eq_false, Bool.false_eq_true]
  rw [spec_MergeViews_at v w _ (by omega)]
  simp only [Option.bind_some, ↓reduceIte, bne_self_eq_false, Bool.false_eq_true]
  rw [impl_IsAbove_at _ _ _ (by omega), spec_IsAbove_at _ _ _ (by omega)]
  simp only [Option.bind_some, bne_self_eq_false, Bool.false_eq_true, ↓reduceIte]
  rw [impl_ViewFault_at _ _ (by omega), spec_ViewFault_at _ _ (by omega)]
  simp only [Option.bind_some, bne_self_eq_false]
  exact merges_j0 a v w ⟨c0, c1, c2, c3⟩ _ (by omega)
end Go.Proofs.Ytejodgcojcombaa.Pure
