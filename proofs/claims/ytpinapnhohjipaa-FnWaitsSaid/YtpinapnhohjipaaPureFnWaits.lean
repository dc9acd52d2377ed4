/- The pure statement of the law FnWaits: proved. -/
import Derived.Test.YtpinapnhohjipaaLibFnWaits
namespace Go.Proofs.Ytpinapnhohjipaa.Pure
open Go.RowKit Go.Proofs.Ytpinapnhohjipaa.Open Go.Proofs.Ytpinapnhohjipaa.Base Go.Proofs.Ytpinapnhohjipaa.MFnWaits Go.Proofs.YtpinapnhohjipaaW.PrintWords Go.Proofs.YtpinapnhohjipaaW.PrintLast
set_option linter.unusedVariables false
set_option linter.unusedSimpArgs false
theorem FnWaits : FnWaits_stated := by
  intro code hl hc
  obtain ⟨k, hk⟩ : ∃ k : Nat, k = 2000 := ⟨_, rfl⟩
  refine ⟨k + 10, ?_⟩
  unfold laws_FnWaits.f
  rw [lwBig_at]
  simp only [Option.bind_some]
  by_cases h0 : (code.length : Int) > 1048576
  · simp [h0]
  rw [decide_eq_false h0, if_neg (by decide)]
  have hb := bytes_of (by omega) hc
  obtain ⟨l, e1, hl1⟩ := drawAgeWaits_at hb (k + 10) (by omega)
  obtain ⟨m, q, e2, hl2⟩ := drawClearWaits_at hb (k + 10) (by omega)
  obtain ⟨a, b, e3, ha, hb2⟩ := drawSameWaits_at hb (k + 10) (by omega)
  rw [e1]
  simp only [Option.bind_some]
  rw [impl_AgeWaits_at _ _ (by omega), e2]
  simp only [Option.bind_some]
  rw [impl_ClearWaits_at _ _ _ (by omega), e3]
  simp only [Option.bind_some]
  rw [spec_AgeWaits_at _ _ (by omega)]
  simp only [Option.bind_some, ↓reduceIte]
  rw [spec_ClearWaits_at _ _ _ (by omega)]
  simp only [Option.bind_some, ↓reduceIte]
  rw [impl_WaitsFault_at _ _ (by omega), spec_WaitsFault_at _ _ (by omega)]
  simp only [Option.bind_some, ↓reduceIte]
  rw [impl_SameWaits_at a b (by omega) _ (by omega), spec_SameWaits_at a b (by omega) _ (by omega)]
  simp only [Option.bind_some, bne_self_eq_false]
  have hcl := cvv_len m q
  have hal := avv_len l
  have hj : ∀ j, 500 ≤ j → laws_FnWaits.j1 (j + 1) m q false (cvv m q).1 (cvv m q).2.1 (cvv m q).2.2 = some true := by
    intro j hj
    simp only [laws_FnWaits.j1, Bool.false_eq_true, ↓reduceIte]
    by_cases h1 : (cvv m q).1 = 0
    · rw [if_pos h1]
      have hw : wfv m = 0 := by
        unfold cvv at h1
        by_cases hw : wfv m = 0
        · exact hw
        · rw [if_neg hw] at h1
          exact absurd h1 hw
      have hq : 0 ≤ q ∧ q ≤ 1000000 := by
        unfold cvv at h1
        rw [if_pos hw] at h1
        by_cases hq : 0 ≤ q ∧ q ≤ 1000000
        · exact hq
        · rw [if_neg hq] at h1
          cases h1
      have e5 : cvv m q = (0, lfv (clg q) id m, gnv (clg q) id m) := by
        unfold cvv
        rw [if_pos hw, if_pos hq]
      have hw2 : wfv (lfv (clg q) id m) = 0 := wfv_lfv _ _ (fun c h _ => h) m hw
      have e6 : cvv (lfv (clg q) id m) q = (0, lfv (clg q) id m, []) := by
        unfold cvv
        rw [if_pos hw2, if_pos hq, (lfv_idem (clg q) m).1, (lfv_idem (clg q) m).2]
      have hs := split_len (clg q) id m
      have c2 : (cvv m q).2.1 = lfv (clg q) id m := by rw [e5]
      have c3 : (cvv m q).2.2 = gnv (clg q) id m := by rw [e5]
      have d2 : (cvv (lfv (clg q) id m) q).2.1 = lfv (clg q) id m := by rw [e6]
      have d3 : (cvv (lfv (clg q) id m) q).2.2 = [] := by rw [e6]
      rw [c2, c3] at hcl
      rw [c2, c3, impl_ClearWaits_at _ _ _ (by omega)]
      rw [Option.bind_some]
      rw [d2, d3]
      clear e6 d2 d3
      rw [w64 (by omega) (by omega), if_pos (by omega), if_pos (by simp), impl_SameWaits_at _ _ (by omega) _ (by omega), sameWaitS_self]
      rw [Option.bind_some, if_pos rfl]
      rw [spec_ClearWaits_at _ _ _ (by omega)]
      rw [Option.bind_some]
      rw [c3, impl_SameWaits_at _ _ (by omega) _ (by omega), sameWaitS_self]
      rfl
    · rw [if_neg h1]
  simp only [laws_FnWaits.j0, Bool.false_eq_true, ↓reduceIte]
  by_cases h1 : (avv l).1 = 0
  · rw [if_pos h1]
    have hw : wfv l = 0 := by
      unfold avv at h1
      by_cases hw : wfv l = 0
      · exact hw
      · rw [if_neg hw] at h1
        exact absurd h1 hw
    have e5 : avv l = (0, lfv agg agw l, gnv agg agw l) := by
      unfold avv
      rw [if_pos hw]
    have hw2 : wfv (lfv agg agw l) = 0 := wfv_lfv _ _ wof_agw l hw
    have hs := split_len agg agw l
    have c2 : (avv l).2.1 = lfv agg agw l := by rw [e5]
    have c3 : (avv l).2.2 = gnv agg agw l := by rw [e5]
    rw [c2, c3] at hal
    rw [c2, c3, w64 (by omega) (by omega), if_pos (by omega), impl_WaitsFault_at _ _ (by omega), hw2]
    rw [Option.bind_some, if_pos rfl]
    rw [spec_AgeWaits_at _ _ (by omega), Option.bind_some, c2, impl_SameWaits_at _ _ (by omega) _ (by omega), sameWaitS_self, Option.bind_some, if_pos rfl, Option.bind_some, c3, impl_SameWaits_at _ _ (by omega) _ (by omega), sameWaitS_self, Option.bind_some, Bool.not_true]
    exact hj _ (by omega)
  · rw [if_neg h1]
    exact hj _ (by omega)
end Go.Proofs.Ytpinapnhohjipaa.Pure
