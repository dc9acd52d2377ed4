/- The pure statement of the law FnExactRefuteBy: proved. -/
import Derived.Test.YtldhhghppgkeaaaLibFnExactRefuteBy
namespace Go.Proofs.Ytldhhghppgkeaaa.Pure
open Go.RowKit Go.Proofs.Ytldhhghppgkeaaa.Open Go.Proofs.Ytldhhghppgkeaaa.Base Go.Proofs.Ytldhhghppgkeaaa.MFnExactRefuteBy Go.Proofs.YtldhhghppgkeaaaW.PrintWords Go.Proofs.YtldhhghppgkeaaaW.PrintLast
set_option linter.unusedVariables false
set_option linter.unusedSimpArgs false
theorem FnExactRefuteBy : FnExactRefuteBy_stated := by
  intro a b c d a' b' c' d' _ _ _ _ _ _ _ _
  refine ⟨100, ?_⟩
  have hS : ∃ r : Int × Int × Int × Int × Int × Bool, spec_RefuteBy.f a b c d a' b' c' d' = some r ∧ impl_RefuteBy.f 100 a b c d a' b' c' d' = some r := by
    simp only [spec_RefuteBy.f, impl_RefuteBy.f, spec_ClaimFault_at, impl_ClaimFault_at, Option.bind_some, impl_RefuteBy.j0, impl_RefuteBy.j1, impl_RefuteBy.j2, impl_RefuteBy.j3, impl_RefuteBy.j4, spec_Beats_at, impl_Beats_at]
    by_cases h1 : cfv a b c d = 0
    rotate_left
    · simp [h1]
    by_cases h2 : cfv a' b' c' d' = 0
    rotate_left
    · simp [h1, h2]
    have o1 := cfv_ok h1
    have o2 := cfv_ok h2
    by_cases h3 : a = a'
    rotate_left
    · have h3' : ¬ a' = a := fun h => h3 h.symm
      simp [h1, h2, h3, h3']
    subst h3
    cases h4 : btv b' c' b c
    · simp [h1, h2, h4]
    · by_cases h5 : b' = 1000000
      · subst h5
        simp [h1, h2, h4]
      · have h6 : ¬ 1000000 ≤ b' := by omega
        simp [h1, h2, h4, h5, h6]
  obtain ⟨⟨r0, r1, r2, r3, r4, r5⟩, e1, e2⟩ := hS
  simp only [laws_FnExactRefuteBy.f, laws_toClaim.f, Option.bind_some, e1, e2, laws_eqClaimResult.f, laws_eqClaim.f]
  simp <;> omega
end Go.Proofs.Ytldhhghppgkeaaa.Pure
