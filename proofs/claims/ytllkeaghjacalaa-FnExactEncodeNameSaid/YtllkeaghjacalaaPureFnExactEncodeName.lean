/- The pure statement of the law FnExactEncodeName: proved. -/
import Derived.Test.YtllkeaghjacalaaLibFnExactEncodeName
namespace Go.Proofs.Ytllkeaghjacalaa.Pure
open Go.RowKit Go.Proofs.Ytllkeaghjacalaa.Open Go.Proofs.Ytllkeaghjacalaa.Base Go.Proofs.Ytllkeaghjacalaa.MFnExactEncodeName Go.Proofs.YtllkeaghjacalaaW.PrintWords Go.Proofs.YtllkeaghjacalaaW.PrintLast
set_option linter.unusedVariables false
set_option linter.unusedSimpArgs false
theorem FnExactEncodeName : FnExactEncodeName_stated := by
  intro l hl hs
  obtain ⟨k, hk⟩ : ∃ k : Nat, k = 2000000 := ⟨_, rfl⟩
  refine ⟨k + 10, ?_⟩
  unfold laws_FnExactEncodeName.f
  obtain ⟨z, ez, hz⟩ := szStringS_at l hs hl (k + 10) (by omega)
  rw [ez]
  simp only [Option.bind_some]
  by_cases h0 : z < 0
  · rw [if_pos h0]
  rw [if_neg h0]
  obtain ⟨hl2, hs2⟩ := hz.resolve_left h0
  have he := env_len l
  rw [toStringS_at l (by omega) _ (by omega)]
  simp only [Option.bind_some]
  rw [spec_EncodeName_at l hs2 _ (by omega)]
  simp only [Option.bind_some]
  rw [impl_EncodeName_at l hs2 _ (by omega)]
  simp only [Option.bind_some]
  rw [eqBytesResult_self _ _ (by omega) _ (by omega)]
  simp only [Option.bind_some, ↓reduceIte]
  rw [eqStringS_self l (by omega) _ (by omega)]
  simp only [Option.bind_some, ↓reduceIte]
  rw [markStringS_at l 1 (by omega) (by omega) (by omega) _ (by omega)]
  simp only [Option.bind_some]
  rw [if_neg (by omega)]
  simp only [Bool.not_true, laws_FnExactEncodeName.j0, Bool.false_eq_true, ↓reduceIte]
  rw [markBytesResult_at _ _ (by omega) _ (by omega)]
  simp only [Option.bind_some]
  rw [heldBytesResult_at _ _ (by omega) _ (by omega)]
  have hn : ¬ (1 + 1 * ((env l).2.length : Int)) < 0 := by omega
  simp only [Option.bind_some, hn, ↓reduceIte]
  rw [toStringS_at l (by omega) _ (by omega)]
  simp only [Option.bind_some]
  rw [impl_EncodeName_at l hs2 _ (by omega)]
  simp only [Option.bind_some]
  rw [eqBytesResult_self _ _ (by omega) _ (by omega)]
  simp only [↓reduceIte, Option.bind_some]
end Go.Proofs.Ytllkeaghjacalaa.Pure
