/- The pure statement of the law FnWindows: proved. -/
import Derived.Test.YtbnibakamdhpdaaLibFnWindows
namespace Go.Proofs.Ytbnibakamdhpdaa.Pure
open Go.RowKit Go.Proofs.Ytbnibakamdhpdaa.Open Go.Proofs.Ytbnibakamdhpdaa.Base Go.Proofs.Ytbnibakamdhpdaa.MFnWindows Go.Proofs.YtbnibakamdhpdaaW.PrintWords Go.Proofs.YtbnibakamdhpdaaW.PrintLast Go.Proofs.YtbnibakamdhpdaaW.PrintMore
set_option linter.unusedVariables false
set_option linter.unusedSimpArgs false
theorem FnWindows : FnWindows_stated := by
  intro code hl hc
  obtain ⟨k, hk⟩ : ∃ k : Nat, k = 8000000 := ⟨_, rfl⟩
  refine ⟨k + 10, ?_⟩
  unfold laws_FnWindows.f
  rw [lwBig_at]
  simp only [Option.bind_some]
  by_cases h0 : (code.length : Int) > 1048576
  · simp [h0]
  rw [decide_eq_false h0, if_neg (by decide)]
  have hb := bytes_of (by omega) hc
  obtain ⟨t, l, n, e1, hl1⟩ := drawTakeCounter_at hb (k + 10) (by omega)
  obtain ⟨t2, l2, ns, e2, hl2⟩ := drawTakeAll_at hb (k + 10) (by omega)
  obtain ⟨t3, l3, t4, l4, e3, hl3, hl4⟩ := drawSameWindows_at hb (k + 10) (by omega)
  rw [e1]
  simp only [Option.bind_some]
  rw [impl_TakeCounter_at t l n (by omega) _ (by omega), e2]
  simp only [Option.bind_some]
  rw [impl_TakeAll_at t2 l2 ns (by omega) _ (by omega), e3]
  simp only [Option.bind_some]
  rw [spec_TakeCounter_at t l n (by omega) _ (by omega)]
  simp only [Option.bind_some, ↓reduceIte]
  rw [spec_TakeAll_at t2 l2 ns (by omega) _ (by omega)]
  simp only [Option.bind_some, ↓reduceIte]
  rw [impl_IsNews_at t l n (by omega) _ (by omega)]
  simp only [Option.bind_some, bne_self_eq_false, Bool.false_eq_true, ↓reduceIte]
  rw [impl_WindowFault_at t l (by omega) _ (by omega), spec_WindowFault_at t l (by omega) _ (by omega)]
  simp only [Option.bind_some, ↓reduceIte]
  rw [impl_SameWindows_at _ _ _ _ (by omega) _ (by omega), spec_SameWindows_at _ _ _ _ (by omega) _ (by omega)]
  simp only [Option.bind_some, bne_self_eq_false, Bool.false_eq_true, ↓reduceIte]
  have htl := tav_len t2 l2 ns
  obtain ⟨hi, hnd⟩ := tav_inv t2 l2 ns
  rw [lwNums_at _ _ (by omega) _ (by omega)]
  simp only [Option.bind_some, decide_true, Bool.not_true, laws_FnWindows.j0, Bool.false_eq_true, ↓reduceIte]
  refine win_l0 n (twv t l n).1 t (twv t l n).2.1 l (twv t l n).2.2 ns (tav t2 l2 ns).2 (tav t2 l2 ns).1 3000 htl hi ?_ _ _ 0 [] rfl (by omega) (by simp) (by simpa using hnd) (by omega)
  intro k hk
  by_cases h : (twv t l n).1 = 0
  · rw [if_pos h]
    have hw : wfv t l = 0 := by
      unfold twv at h
      by_cases hw : wfv t l = 0
      · exact hw
      · rw [if_neg hw] at h
        exact absurd h hw
    have et : twv t l n = tkv t l n := by
      unfold twv
      rw [if_pos hw]
    rw [et] at h ⊢
    have hj := win_j3 t n l (by omega) hw h k hk
    have hx := mxv_or t n
    by_cases hg : n > t
    · rw [if_pos hg]
      rw [show mxv t n = n by omega] at hj
      exact hj
    · rw [if_neg hg]
      rw [show mxv t n = t by omega] at hj
      exact hj
  · rw [if_neg h]
end Go.Proofs.Ytbnibakamdhpdaa.Pure
