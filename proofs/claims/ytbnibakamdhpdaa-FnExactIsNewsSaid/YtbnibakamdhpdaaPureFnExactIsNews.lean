/- The pure statement of the law FnExactIsNews: proved. -/
import Derived.Test.YtbnibakamdhpdaaLibFnExactIsNews
namespace Go.Proofs.Ytbnibakamdhpdaa.Pure
open Go.RowKit Go.Proofs.Ytbnibakamdhpdaa.Open Go.Proofs.Ytbnibakamdhpdaa.Base Go.Proofs.Ytbnibakamdhpdaa.MFnExactIsNews Go.Proofs.YtbnibakamdhpdaaW.PrintWords Go.Proofs.YtbnibakamdhpdaaW.PrintLast Go.Proofs.YtbnibakamdhpdaaW.PrintMore
set_option linter.unusedVariables false
set_option linter.unusedSimpArgs false
theorem FnExactIsNews : FnExactIsNews_stated := by
  intro t l n _ hl _
  obtain ⟨hl, _⟩ := hl
  obtain ⟨k, hk⟩ : ∃ k : Nat, k = 5000000 := ⟨_, rfl⟩
  refine ⟨k + 10, ?_⟩
  unfold laws_FnExactIsNews.f
  rw [szWindow_at t l 1048576 (by omega) (by omega) hl]
  simp only [Option.bind_some]
  by_cases h0 : (1048576 : Int) < l.length
  · rw [if_pos h0, if_pos (by omega)]
  rw [if_neg h0, if_neg (by omega)]
  rw [toWindow_at t l (by omega) _ (by omega)]
  simp only [Option.bind_some]
  unfold spec_IsNews.f impl_IsNews.f
  rw [spec_TakeCounter_at t l n (by omega) _ (by omega), impl_TakeCounter_at t l n (by omega) _ (by omega)]
  simp only [Option.bind_some, bne_self_eq_false, Bool.false_eq_true, ↓reduceIte]
  rw [eqWindow_self _ _ (by omega) _ (by omega)]
  rfl
end Go.Proofs.Ytbnibakamdhpdaa.Pure
