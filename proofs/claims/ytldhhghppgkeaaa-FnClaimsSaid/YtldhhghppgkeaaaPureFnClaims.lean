/- The pure statement of the law FnClaims: proved. -/
import Derived.Test.YtldhhghppgkeaaaLibFnClaims
namespace Go.Proofs.Ytldhhghppgkeaaa.Pure
open Go.RowKit Go.Proofs.Ytldhhghppgkeaaa.Open Go.Proofs.Ytldhhghppgkeaaa.Base Go.Proofs.Ytldhhghppgkeaaa.PFnClaims Go.Proofs.YtldhhghppgkeaaaW.PrintWords Go.Proofs.YtldhhghppgkeaaaW.PrintLast
set_option linter.unusedVariables false
set_option linter.unusedSimpArgs false
theorem FnClaims : FnClaims_stated := by
  intro code hl hc
  refine ⟨100, ?_⟩
  unfold laws_FnClaims.f
  rw [lwBig_at]
  simp only [Option.bind_some]
  by_cases h0 : (code.length : Int) > 1048576
  · simp [h0]
  rw [decide_eq_false h0, if_neg (by decide)]
  have hb := bytes_of (by omega) hc
  obtain ⟨a, b, c, d, a', b', c', d', e1⟩ := drawBeats_at hb
  obtain ⟨x, y, z, u, e2⟩ := drawClaimFault_at hb
  simp only [e1, e2, Option.bind_some, impl_Beats_at, spec_Beats_at, impl_ClaimFault_at, spec_ClaimFault_at, laws_FnClaims.j0]
  have r1 : btv b c b c = false := by simp [btv]
  have r2 := btv_iff b c b' c'
  have r3 := btv_iff b' c' b c
  have r4 := btv_iff b' c' y z
  have r5 := btv_iff b c y z
  rw [r1]
  cases g1 : btv b c b' c' <;> cases g2 : btv b' c' b c <;> cases g3 : btv b' c' y z <;> cases g4 : btv b c y z <;> simp only [g1, g2, g3, g4, Bool.false_eq_true, false_iff, true_iff, eq_self] at r2 r3 r4 r5 <;> first | (exfalso; omega) | (simp; done) | (have h1 : b = b' := (by omega); have h2 : c = c' := (by omega); simp [h1, h2])
end Go.Proofs.Ytldhhghppgkeaaa.Pure
