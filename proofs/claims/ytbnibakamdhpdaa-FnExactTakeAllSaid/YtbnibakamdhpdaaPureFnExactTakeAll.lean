/- The pure statement of the law FnExactTakeAll: proved. -/
import Derived.Test.YtbnibakamdhpdaaLibFnExactTakeAll
namespace Go.Proofs.Ytbnibakamdhpdaa.Pure
open Go.RowKit Go.Proofs.Ytbnibakamdhpdaa.Open Go.Proofs.Ytbnibakamdhpdaa.Base Go.Proofs.Ytbnibakamdhpdaa.MFnExactTakeAll Go.Proofs.YtbnibakamdhpdaaW.PrintWords Go.Proofs.YtbnibakamdhpdaaW.PrintLast Go.Proofs.YtbnibakamdhpdaaW.PrintMore
set_option linter.unusedVariables false
set_option linter.unusedSimpArgs false
theorem FnExactTakeAll : FnExactTakeAll_stated := by
  intro t l ns _ hl hns _
  obtain ⟨hl, _⟩ := hl
  obtain ⟨k, hk⟩ : ∃ k : Nat, k = 5000000 := ⟨_, rfl⟩
  refine ⟨k + 10, ?_⟩
  unfold laws_FnExactTakeAll.f
  by_cases h00 : (ns.length : Int) > 1048576
  · rw [if_pos h00]
  rw [if_neg h00, szWindow_at t l 1048576 (by omega) (by omega) hl]
  simp only [Option.bind_some]
  by_cases h0 : (1048576 : Int) < l.length
  · rw [if_pos h0, if_pos (by omega)]
  rw [if_neg h0, if_neg (by omega)]
  have et := fun j hj => toWindow_at t l hj j
  have en := fun j hj => toInt64S_at ns hj j
  have ei := fun j hj => impl_TakeAll_at t l ns (show l.length ≤ 1400000 by omega) j hj
  rw [et _ (by omega) (by omega)]
  simp only [Option.bind_some]
  rw [en _ (by omega) (by omega)]
  simp only [Option.bind_some]
  rw [spec_TakeAll_at t l ns (by omega) _ (by omega), ei _ (by omega)]
  simp only [Option.bind_some]
  have hr := tav_len t l ns
  generalize tav t l ns = r at *
  obtain ⟨c, v⟩ := r
  simp only at hr ⊢
  rw [eqIntsResult_self _ _ (by omega) _ (by omega)]
  simp only [Option.bind_some, ↓reduceIte]
  rw [eqWindow_self _ _ (by omega) _ (by omega)]
  simp only [Option.bind_some, ↓reduceIte]
  rw [eqInt64S_self _ (by omega) _ (by omega)]
  simp only [Option.bind_some, ↓reduceIte, laws_markWindow.f]
  rw [markInt64S_at _ 1 (by omega) (by omega) (by omega) _ (by omega)]
  simp only [Option.bind_some]
  rw [markInt64S_at _ _ (by omega) (by omega) (by omega) _ (by omega)]
  simp only [Option.bind_some]
  rw [if_neg (by omega)]
  simp only [Bool.not_true, laws_FnExactTakeAll.j0, Bool.false_eq_true, ↓reduceIte, laws_markIntsResult.f]
  rw [markInt64S_at _ 1 (by omega) (by omega) (by omega) _ (by omega)]
  simp only [Option.bind_some, laws_heldIntsResult.f]
  rw [heldInt64S_at _ 1 (by omega) (by omega) (by omega) _ (by omega)]
  have hn : ¬ (1 + 1 * (v.length : Int)) < 0 := by omega
  simp only [Option.bind_some, hn, ↓reduceIte]
  rw [et _ (by omega) (by omega)]
  simp only [Option.bind_some]
  rw [en _ (by omega) (by omega)]
  simp only [Option.bind_some]
  rw [ei _ (by omega)]
  simp only [Option.bind_some]
  rw [eqIntsResult_self _ _ (by omega) _ (by omega)]
  simp only [↓reduceIte, Option.bind_some]
end Go.Proofs.Ytbnibakamdhpdaa.Pure
