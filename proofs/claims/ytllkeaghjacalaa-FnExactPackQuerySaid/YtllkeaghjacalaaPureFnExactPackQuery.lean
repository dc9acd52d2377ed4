/- The pure statement of the law FnExactPackQuery: proved. -/
import Derived.Test.YtllkeaghjacalaaLibFnExactPackQuery
namespace Go.Proofs.Ytllkeaghjacalaa.Pure
open Go.RowKit Go.Proofs.Ytllkeaghjacalaa.Open Go.Proofs.Ytllkeaghjacalaa.Base Go.Proofs.Ytllkeaghjacalaa.MFnExactPackQuery Go.Proofs.YtllkeaghjacalaaW.PrintWords Go.Proofs.YtllkeaghjacalaaW.PrintLast
set_option linter.unusedVariables false
set_option linter.unusedSimpArgs false
theorem FnExactPackQuery : FnExactPackQuery_stated := by
  intro a l b _ hl _
  obtain ⟨hl, hs⟩ := hl
  obtain ⟨k, hk⟩ : ∃ k : Nat, k = 2000000 := ⟨_, rfl⟩
  refine ⟨k + 10, ?_⟩
  unfold laws_FnExactPackQuery.f laws_szQuery.f
  obtain ⟨z, ez, hz⟩ := szStringS_at l hs hl (k + 10) (by omega)
  rw [ez]
  simp only [Option.bind_some]
  by_cases h0 : z < 0
  · rw [if_pos h0]
    simp only [Option.bind_some]
    rw [if_pos (by omega)]
  rw [if_neg h0]
  simp only [Option.bind_some]
  rw [if_neg h0]
  obtain ⟨hl2, hs2⟩ := hz.resolve_left h0
  have he := pqr_len a l b
  have et := fun j hj => toQuery_at a l b hj j
  have ei := fun j hj => impl_PackQuery_at a l b hs2 j hj
  rw [et _ (by omega) (by omega)]
  simp only [Option.bind_some]
  rw [spec_PackQuery_at a l b hs2 _ (by omega), ei _ (by omega)]
  simp only [Option.bind_some]
  rw [eqBytesResult_self _ _ (by omega) _ (by omega)]
  simp only [Option.bind_some, ↓reduceIte]
  rw [eqQuery_self a l b (by omega) _ (by omega)]
  simp only [Option.bind_some, ↓reduceIte]
  rw [markQuery_at a l b (by omega) _ (by omega)]
  simp only [Option.bind_some]
  rw [if_neg (by omega)]
  simp only [Bool.not_true, laws_FnExactPackQuery.j0, Bool.false_eq_true, ↓reduceIte]
  rw [markBytesResult_at _ _ (by omega) _ (by omega)]
  simp only [Option.bind_some]
  rw [heldBytesResult_at _ _ (by omega) _ (by omega)]
  have hn : ¬ (1 + 1 * ((pqr a l b).2.length : Int)) < 0 := by omega
  simp only [Option.bind_some, hn, ↓reduceIte]
  rw [et _ (by omega) (by omega)]
  simp only [Option.bind_some]
  rw [ei _ (by omega)]
  simp only [Option.bind_some]
  rw [eqBytesResult_self _ _ (by omega) _ (by omega)]
  simp only [↓reduceIte, Option.bind_some]
end Go.Proofs.Ytllkeaghjacalaa.Pure
