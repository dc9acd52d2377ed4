/- The pure statement of the law FnNames: proved. -/
import Derived.Test.YtllkeaghjacalaaLibFnNames
namespace Go.Proofs.Ytllkeaghjacalaa.Pure
open Go.RowKit Go.Proofs.Ytllkeaghjacalaa.Open Go.Proofs.Ytllkeaghjacalaa.Base Go.Proofs.Ytllkeaghjacalaa.MFnNames Go.Proofs.YtllkeaghjacalaaW.PrintWords Go.Proofs.YtllkeaghjacalaaW.PrintLast
set_option linter.unusedVariables false
set_option linter.unusedSimpArgs false
theorem FnNames : FnNames_stated := by
  intro code hl hc
  obtain ⟨k, hk⟩ : ∃ k : Nat, k = 3000000 := ⟨_, rfl⟩
  refine ⟨k + 10, ?_⟩
  unfold laws_FnNames.f
  rw [lwBig_at]
  simp only [Option.bind_some]
  by_cases h0 : (code.length : Int) > 1048576
  · simp [h0]
  rw [decide_eq_false h0, if_neg (by decide)]
  have hb := bytes_of (by omega) hc
  obtain ⟨t, e1, t1, t2⟩ := drawEncodeName_at hb (k + 10) (by omega)
  obtain ⟨x, a, e2, hx⟩ := drawReadName_at hb (k + 10) (by omega)
  have t3 : ∀ s ∈ t, s.size ≤ 1048576 := fun s hs => by have := t2 s hs; omega
  obtain ⟨c, ls, n, e3, e4, h6, ha⟩ := readName_lab x hx.1 (by have := hx.2; omega) a (k + 10) (by omega)
  rw [e1]
  simp only [Option.bind_some]
  rw [impl_EncodeName_at t t3 _ (by omega), e2]
  simp only [Option.bind_some]
  rw [e4]
  simp only [Option.bind_some]
  rw [e3, spec_EncodeName_at t t3 _ (by omega)]
  simp only [Option.bind_some]
  rw [if_pos trivial, if_pos trivial, if_pos trivial]
  have e5 : ((ls.length : Int) != (ls.length : Int)) = false := by simp
  rw [e5, laws_FnNames.j0, if_neg (by decide)]
  exact names_l0 ls h6 ha t (env t) rfl c n (Decidable.em _) (k + 9) (by omega)
end Go.Proofs.Ytllkeaghjacalaa.Pure
