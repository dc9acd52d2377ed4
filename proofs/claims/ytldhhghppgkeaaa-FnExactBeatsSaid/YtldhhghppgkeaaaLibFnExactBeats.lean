/- What the printed functions of the law FnExactBeats answer, as plain Lean. -/
import Derived.Test.YtldhhghppgkeaaaStFnExactBeats
import Derived.Test.YtldhhghppgkeaaaBase
namespace Go.Proofs.Ytldhhghppgkeaaa.Pure
open Go.RowKit Go.Proofs.Ytldhhghppgkeaaa.Open Go.Proofs.Ytldhhghppgkeaaa.Base Go.Proofs.Ytldhhghppgkeaaa.PFnExactBeats Go.Proofs.YtldhhghppgkeaaaW.PrintWords Go.Proofs.YtldhhghppgkeaaaW.PrintLast
set_option linter.unusedVariables false
set_option linter.unusedSimpArgs false
def btv (b c b' c' : Int) : Bool := decide (b > b') || (decide (b = b') && decide (c > c'))
theorem impl_Beats_at (a b c d a' b' c' d' : Int) : impl_Beats.f a b c d a' b' c' d' = some (btv b c b' c') := by
  simp only [impl_Beats.f, btv]
  by_cases h : b > b'
  · rw [if_pos h]
    simp [h]
  · rw [if_neg h]
    by_cases h2 : b = b'
    · rw [if_pos h2]
      simp [h2]
    · rw [if_neg h2]
      simp [h, h2]
theorem spec_Beats_at (a b c d a' b' c' d' : Int) : spec_Beats.f a b c d a' b' c' d' = some (btv b c b' c') := by
  simp only [spec_Beats.f, btv]
  by_cases h : b > b'
  · rw [if_pos h]
    simp [h]
  · rw [if_neg h]
    by_cases h2 : b = b'
    · rw [if_pos h2]
      simp [h2]
    · rw [if_neg h2]
      simp [h, h2]
theorem btv_iff (b c b' c' : Int) : btv b c b' c' = true ↔ b > b' ∨ (b = b' ∧ c > c') := by simp [btv]
end Go.Proofs.Ytldhhghppgkeaaa.Pure
