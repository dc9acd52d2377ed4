/- The pure statement of the law FnExactSameWindows: proved. -/
import Derived.Test.YtldhhghppgkeaaaLibFnExactSameWindows
namespace Go.Proofs.Ytldhhghppgkeaaa.Pure
open Go.RowKit Go.Proofs.Ytldhhghppgkeaaa.Open Go.Proofs.Ytldhhghppgkeaaa.Base Go.Proofs.Ytldhhghppgkeaaa.PFnExactSameWindows Go.Proofs.YtldhhghppgkeaaaW.PrintWords Go.Proofs.YtldhhghppgkeaaaW.PrintLast
set_option linter.unusedVariables false
set_option linter.unusedSimpArgs false
theorem FnExactSameWindows : FnExactSameWindows_stated := by
  intro t0 l0 t1 l1 _ ⟨hl0, _⟩ _ ⟨hl1, _⟩
  refine ⟨2000000, ?_⟩
  unfold laws_FnExactSameWindows.f laws_szWindow.f
  rw [szInt64S_at l0 1048576 (by omega) (by omega) hl0]
  simp only [Option.bind_some]
  by_cases h0 : (1048576 : Int) < l0.length
  · simp [h0]
  rw [if_neg h0, if_neg (by omega)]
  simp only [Option.bind_some]
  rw [if_neg (by omega), szInt64S_at l1 _ (by omega) (by omega) hl1]
  simp only [Option.bind_some]
  by_cases h1 : (1048576 : Int) - l0.length < l1.length
  · simp [h1]
  rw [if_neg h1, if_neg (by omega)]
  simp only [Option.bind_some, laws_toWindow.f]
  rw [if_neg (by omega), toInt64S_at l0 (by omega) _ (by omega), toInt64S_at l1 (by omega) _ (by omega)]
  simp only [Option.bind_some, spec_SameWindows.f, impl_SameWindows.f, laws_eqWindow.f]
  rw [l1Same_at _ _ (by omega) _ (by omega), equalInts_at _ _ (by omega) _ (by omega), eqInt64S_self _ (by omega) _ (by omega), eqInt64S_self _ (by omega) _ (by omega)]
  by_cases ht : t0 = t1
  · simp [ht]
  · simp [ht]
end Go.Proofs.Ytldhhghppgkeaaa.Pure
