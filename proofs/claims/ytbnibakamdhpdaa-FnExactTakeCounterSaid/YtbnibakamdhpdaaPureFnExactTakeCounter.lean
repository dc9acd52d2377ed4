/- The pure statement of the law FnExactTakeCounter: proved. -/
import Derived.Test.YtbnibakamdhpdaaLibFnExactTakeCounter
namespace Go.Proofs.Ytbnibakamdhpdaa.Pure
open Go.RowKit Go.Proofs.Ytbnibakamdhpdaa.Open Go.Proofs.Ytbnibakamdhpdaa.Base Go.Proofs.Ytbnibakamdhpdaa.MFnExactTakeCounter Go.Proofs.YtbnibakamdhpdaaW.PrintWords Go.Proofs.YtbnibakamdhpdaaW.PrintLast Go.Proofs.YtbnibakamdhpdaaW.PrintMore
set_option linter.unusedVariables false
set_option linter.unusedSimpArgs false
theorem FnExactTakeCounter : FnExactTakeCounter_stated := by
  intro t l n _ hl _
  obtain ⟨hl, _⟩ := hl
  obtain ⟨k, hk⟩ : ∃ k : Nat, k = 5000000 := ⟨_, rfl⟩
  refine ⟨k + 10, ?_⟩
  unfold laws_FnExactTakeCounter.f
  rw [szWindow_at t l 1048576 (by omega) (by omega) hl]
  simp only [Option.bind_some]
  by_cases h0 : (1048576 : Int) < l.length
  · rw [if_pos h0, if_pos (by omega)]
  rw [if_neg h0, if_neg (by omega)]
  have et := fun j hj => toWindow_at t l hj j
  have ei := fun j hj => impl_TakeCounter_at t l n (show l.length ≤ 2000000 by omega) j hj
  rw [et _ (by omega) (by omega)]
  simp only [Option.bind_some]
  rw [spec_TakeCounter_at t l n (by omega) _ (by omega), ei _ (by omega)]
  simp only [Option.bind_some]
  have hr := twv_len t l n
  generalize twv t l n = r at *
  obtain ⟨c, t', v⟩ := r
  simp only at hr ⊢
  rw [eqWindowResult_self _ _ _ (by omega) _ (by omega)]
  simp only [Option.bind_some, ↓reduceIte]
  rw [eqWindow_self _ _ (by omega) _ (by omega)]
  simp only [Option.bind_some, ↓reduceIte, laws_markWindow.f]
  rw [markInt64S_at _ 1 (by omega) (by omega) (by omega) _ (by omega)]
  simp only [Option.bind_some]
  rw [if_neg (by omega)]
  simp only [Bool.not_true, laws_FnExactTakeCounter.j0, Bool.false_eq_true, ↓reduceIte, laws_markWindowResult.f, laws_markWindow.f]
  rw [markInt64S_at _ 1 (by omega) (by omega) (by omega) _ (by omega)]
  simp only [Option.bind_some, laws_heldWindowResult.f, laws_heldWindow.f]
  rw [heldInt64S_at _ 1 (by omega) (by omega) (by omega) _ (by omega)]
  have hn : ¬ (1 + 1 * (v.length : Int)) < 0 := by omega
  simp only [Option.bind_some, hn, ↓reduceIte]
  rw [et _ (by omega) (by omega)]
  simp only [Option.bind_some]
  rw [ei _ (by omega)]
  simp only [Option.bind_some]
  rw [eqWindowResult_self _ _ _ (by omega) _ (by omega)]
  simp only [↓reduceIte, Option.bind_some]
end Go.Proofs.Ytbnibakamdhpdaa.Pure
