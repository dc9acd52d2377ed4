/- The pure statement of the law FnTargets: proved. -/
import Derived.Test.YtpinapnhohjipaaLibFnTargets
namespace Go.Proofs.Ytpinapnhohjipaa.Pure
open Go.RowKit Go.Proofs.Ytpinapnhohjipaa.Open Go.Proofs.Ytpinapnhohjipaa.Base Go.Proofs.Ytpinapnhohjipaa.MFnTargets Go.Proofs.YtpinapnhohjipaaW.PrintWords Go.Proofs.YtpinapnhohjipaaW.PrintLast
set_option linter.unusedVariables false
set_option linter.unusedSimpArgs false
theorem FnTargets : FnTargets_stated := by
  intro code hl hc
  obtain ⟨k, hk⟩ : ∃ k : Nat, k = 2000 := ⟨_, rfl⟩
  refine ⟨k + 10, ?_⟩
  unfold laws_FnTargets.f
  rw [lwBig_at]
  simp only [Option.bind_some]
  by_cases h0 : (code.length : Int) > 1048576
  · simp [h0]
  rw [decide_eq_false h0, if_neg (by decide)]
  have hb := bytes_of (by omega) hc
  obtain ⟨v, self, last, e1, hv8⟩ := drawNextTarget_at hb (k + 10) (by omega)
  obtain ⟨w, me, target, most, e2, hw8⟩ := drawHelpersFor_at hb (k + 10) (by omega)
  rw [e1]
  simp only [Option.bind_some]
  rw [impl_NextTarget_at _ _ _ _ (by omega), e2]
  simp only [Option.bind_some]
  rw [impl_HelpersFor_at _ _ _ _ _ (by omega), spec_NextTarget_at _ _ _ _ (by omega), spec_HelpersFor_at _ _ _ _ _ (by omega)]
  simp only [Option.bind_some]
  have hlen := hfv_len w me target most
  rw [lwNums_at _ _ (by omega) _ (by omega)]
  simp only [BEq.rfl, Bool.not_true, Bool.or_self, Bool.false_eq_true, ↓reduceIte, Option.bind_some, decide_true, laws_FnTargets.j0]
  have hj : laws_FnTargets.j1 (k + 9) v self last false (ntv v self last).1 (ntv v self last).2 = some true := by
    simp only [laws_FnTargets.j1, Bool.false_eq_true, ↓reduceIte]
    by_cases h1 : (ntv v self last).1 = 0
    · rw [if_pos h1]
      unfold ntv at h1
      by_cases hv : vfv v = 0
      · rw [if_pos hv] at h1
        by_cases hs : (0 ≤ self ∧ self ≤ 3) ∧ (-1 ≤ last ∧ last ≤ 3)
        · rw [if_pos hs] at h1
          by_cases hn : nextv v self last < 0
          · rw [if_pos hn] at h1
            cases h1
          · exact targets_l0 v hv self last hs.1 hs.2 (by omega) _ (by omega)
        · rw [if_neg hs] at h1
          cases h1
      · rw [if_neg hv] at h1
        exact absurd h1 hv
    · rw [if_neg h1]
  by_cases h2 : (hfv w me target most).1 = 0
  · rw [if_pos h2]
    have hm : ¬ (((hfv w me target most).2.length : Int) > most) := by
      unfold hfv at h2 ⊢
      by_cases hv : vfv w = 0
      · rw [if_pos hv] at h2 ⊢
        by_cases hs : (0 ≤ me ∧ me ≤ 3) ∧ (0 ≤ target ∧ target ≤ 3) ∧ (0 ≤ most ∧ most ≤ 4)
        · rw [if_pos hs]
          have := helpv_most me target most w [] (by simp; omega)
          simp only
          omega
        · rw [if_neg hs] at h2
          cases h2
      · rw [if_neg hv] at h2
        exact absurd h2 hv
    rw [decide_eq_false hm]
    exact hj
  · rw [if_neg h2]
    exact hj
end Go.Proofs.Ytpinapnhohjipaa.Pure
