/- The pure statement of the law FnExactReadQuery: proved. -/
import Derived.Test.YtllkeaghjacalaaLibFnExactReadQuery
namespace Go.Proofs.Ytllkeaghjacalaa.Pure
open Go.RowKit Go.Proofs.Ytllkeaghjacalaa.Open Go.Proofs.Ytllkeaghjacalaa.Base Go.Proofs.Ytllkeaghjacalaa.MFnExactReadQuery Go.Proofs.YtllkeaghjacalaaW.PrintWords Go.Proofs.YtllkeaghjacalaaW.PrintLast
set_option linter.unusedVariables false
set_option linter.unusedSimpArgs false
theorem FnExactReadQuery : FnExactReadQuery_stated := by
  intro l0 hl0 hw
  obtain ⟨k, hk⟩ : ∃ k : Nat, k = 2000000 := ⟨_, rfl⟩
  refine ⟨k + 10, ?_⟩
  unfold laws_FnExactReadQuery.f
  by_cases h0 : (l0.length : Int) > 1048576
  · rw [if_pos h0]
  rw [if_neg h0, toByteS_at l0 (by omega) _ (by omega)]
  simp only [Option.bind_some]
  have hb : ∀ x ∈ l0, 0 ≤ x ∧ x ≤ 255 := by
    intro x hx
    have h2 : (decide ((IntKind.u8).min ≤ x) && decide (x ≤ (IntKind.u8).max)) = true := hw x hx
    rw [Bool.and_eq_true, decide_eq_true_eq, decide_eq_true_eq] at h2
    have e1 : (IntKind.u8).min = 0 := by decide
    have e2 : (IntKind.u8).max = 255 := by decide
    rw [e1, e2] at h2
    exact h2
  obtain ⟨c, a, ls, n, e1, e2, e3⟩ := readQuery_both l0 hb (by omega) (k + 10) (by omega)
  obtain ⟨c', a', ls', n', e1', e2', e3'⟩ := readQuery_both l0 hb (by omega) (k + 9) (by omega)
  have hs : (c', a', ls', n') = (c, a, ls, n) := by
    have := at_rounds (g := fun k => impl_ReadQuery.f k l0) (fun k => impl_ReadQuery.mono l0 k) (show k + 9 ≤ k + 10 by omega) e2'
    rw [e2] at this
    exact (Option.some.inj this).symm
  injection hs with q1 q2
  injection q2 with q2 q3
  injection q3 with q3 q4
  subst q1 q2 q3 q4
  rw [e1]
  simp only [Option.bind_some]
  rw [e2]
  simp only [Option.bind_some]
  rw [eqQueryResult_self _ _ _ _ (by omega) _ (by omega)]
  simp only [Option.bind_some, ↓reduceIte]
  rw [eqByteS_self _ (by omega) _ (by omega)]
  simp only [Option.bind_some, ↓reduceIte]
  rw [markByteS_at _ 1 (by omega) (by omega) (by omega) _ (by omega)]
  simp only [Option.bind_some]
  rw [if_neg (by omega)]
  simp only [Bool.not_true, laws_FnExactReadQuery.j0, Bool.false_eq_true, ↓reduceIte]
  rw [markQueryResult_at _ _ _ _ (by omega) _ (by omega)]
  simp only [Option.bind_some]
  rw [heldQueryResult_at _ _ _ _ (by omega) _ (by omega)]
  have hn : ¬ (1 + 1 * (ls'.length : Int)) < 0 := by omega
  simp only [Option.bind_some, hn, ↓reduceIte]
  rw [toByteS_at l0 (by omega) _ (by omega)]
  simp only [Option.bind_some]
  rw [e2']
  simp only [Option.bind_some]
  rw [eqQueryResult_self _ _ _ _ (by omega) _ (by omega)]
  simp only [↓reduceIte, Option.bind_some]
end Go.Proofs.Ytllkeaghjacalaa.Pure
