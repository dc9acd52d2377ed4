/- The pure statement of the law FnDecides: proved. -/
import Derived.Test.YtpinapnhohjipaaLibFnDecides
namespace Go.Proofs.Ytpinapnhohjipaa.Pure
open Go.RowKit Go.Proofs.Ytpinapnhohjipaa.Open Go.Proofs.Ytpinapnhohjipaa.Base Go.Proofs.Ytpinapnhohjipaa.MFnDecides Go.Proofs.YtpinapnhohjipaaW.PrintWords Go.Proofs.YtpinapnhohjipaaW.PrintLast
set_option linter.unusedVariables false
set_option linter.unusedSimpArgs false
theorem FnDecides : FnDecides_stated := by
  intro code hl hc
  obtain ⟨k, hk⟩ : ∃ k : Nat, k = 2000 := ⟨_, rfl⟩
  refine ⟨k + 10, ?_⟩
  unfold laws_FnDecides.f
  rw [lwBig_at]
  simp only [Option.bind_some]
  by_cases h0 : (code.length : Int) > 1048576
  · simp [h0]
  rw [decide_eq_false h0, if_neg (by decide)]
  have hb := bytes_of (by omega) hc
  obtain ⟨a, b, c, d, a', b', c', d', e1⟩ := drawRefuteBy_at hb (k + 10) (by omega)
  obtain ⟨m, n, e2, hm⟩ := drawSuspectBy_at hb (k + 10) (by omega)
  obtain ⟨l, p, q, r, s, t, u, v, e3, hl3⟩ := drawBuryBy_at hb (k + 10) (by omega)
  rw [e1]
  simp only [Option.bind_some]
  rw [impl_RefuteBy_at _ _ _ _ _ _ _ _ _ (by omega), e2]
  simp only [Option.bind_some]
  rw [impl_SuspectBy_at _ _ _ (by omega), e3]
  simp only [Option.bind_some]
  rw [impl_BuryBy_at _ _ _ _ _ _ _ _ _ (by omega), spec_RefuteBy_at, spec_SuspectBy_at _ _ _ (by omega), spec_BuryBy_at _ _ _ _ _ _ _ _ _ (by omega)]
  simp only [Option.bind_some, BEq.rfl, Bool.not_true, Bool.or_self, Bool.false_eq_true, ↓reduceIte]
  exact decides_j0 m n l p q r s t u v a b c d a' b' c' d' (k + 7) (by omega)
end Go.Proofs.Ytpinapnhohjipaa.Pure
