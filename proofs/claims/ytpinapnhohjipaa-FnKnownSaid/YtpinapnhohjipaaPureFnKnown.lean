/- The pure statement of the law FnKnown: proved. -/
import Derived.Test.YtpinapnhohjipaaLibFnKnown
namespace Go.Proofs.Ytpinapnhohjipaa.Pure
open Go.RowKit Go.Proofs.Ytpinapnhohjipaa.Open Go.Proofs.Ytpinapnhohjipaa.Base Go.Proofs.Ytpinapnhohjipaa.MFnKnown Go.Proofs.YtpinapnhohjipaaW.PrintWords Go.Proofs.YtpinapnhohjipaaW.PrintLast
set_option linter.unusedVariables false
set_option linter.unusedSimpArgs false
theorem FnKnown : FnKnown_stated := by
  intro code hl hc
  obtain ⟨k, hk⟩ : ∃ k : Nat, k = 2000 := ⟨_, rfl⟩
  refine ⟨k + 10, ?_⟩
  unfold laws_FnKnown.f
  rw [lwBig_at]
  simp only [Option.bind_some]
  by_cases h0 : (code.length : Int) > 1048576
  · simp [h0]
  rw [decide_eq_false h0, if_neg (by decide)]
  have hb := bytes_of (by omega) hc
  obtain ⟨v, st, e1, hv8⟩ := drawNodesIn_at hb (k + 10) (by omega)
  obtain ⟨w, node, e2, hw8⟩ := drawFindClaim_at hb (k + 10) (by omega)
  obtain ⟨a, b, e3, ha8, hb8⟩ := drawSameViews_at hb (k + 10) (by omega)
  rw [e1]
  simp only [Option.bind_some]
  rw [impl_NodesIn_at _ _ _ (by omega), e2]
  simp only [Option.bind_some]
  rw [impl_FindClaim_at _ _ _ (by omega), e3]
  simp only [Option.bind_some]
  rw [spec_NodesIn_at _ _ _ (by omega)]
  simp only [Option.bind_some, ↓reduceIte]
  have hlen := niv_len v st
  rw [lwNums_at _ _ (by omega) _ (by omega)]
  simp only [Option.bind_some, decide_true, ↓reduceIte]
  rw [spec_FindClaim_at _ _ _ (by omega)]
  simp only [Option.bind_some, ↓reduceIte]
  rw [impl_SameViews_at a b (by omega) _ (by omega), spec_SameViews_at a b (by omega) _ (by omega)]
  simp only [Option.bind_some, bne_self_eq_false]
  have hj : laws_FnKnown.j1 (k + 9) v false (niv v st).1 (niv v st).2 = some true := by
    simp only [laws_FnKnown.j1, Bool.false_eq_true, if_false]
    by_cases h1 : (niv v st).1 = 0
    · rw [if_pos h1]
      have hv : vfv v = 0 := by
        unfold niv at h1
        by_cases hv : vfv v = 0
        · exact hv
        · rw [if_neg hv] at h1
          exact absurd h1 hv
      rw [impl_NodesIn_at _ _ _ (by omega), impl_NodesIn_at _ _ _ (by omega), impl_NodesIn_at _ _ _ (by omega)]
      simp only [Option.bind_some]
      have n0 : niv v 0 = (0, nodv v 0) := by
        unfold niv
        rw [if_pos hv, if_pos (by omega)]
      have n1 : niv v 1 = (0, nodv v 1) := by
        unfold niv
        rw [if_pos hv, if_pos (by omega)]
      have n2 : niv v 2 = (0, nodv v 2) := by
        unfold niv
        rw [if_pos hv, if_pos (by omega)]
      rw [n0, n1, n2]
      have hs := nodv_sum v (okv_status (vfv_ok hv).2.1)
      have h4 := (vfv_ok hv).1
      simp only
      rw [w64 (x := ((nodv v 0).length : Int) + ((nodv v 1).length : Int)) (by omega) (by omega), w64 (by omega) (by omega)]
      have : ((nodv v 0).length : Int) + ((nodv v 1).length : Int) + ((nodv v 2).length : Int) = (v.length : Int) := by omega
      rw [this]
      simp
    · rw [if_neg h1]
  simp only [laws_FnKnown.j0, Bool.false_eq_true, if_false]
  by_cases h1 : (fcv w node).1 = 0
  · rw [if_pos h1]
    obtain ⟨c, f1, f2⟩ := fcv_one w node h1
    rw [f1]
    have hc0 : rd_T51 [c] 0 = c := rfl
    rw [if_pos (by simp), if_pos (by simp), hc0, f2, bne_self_eq_false]
    exact hj
  · rw [if_neg h1]
    exact hj
end Go.Proofs.Ytpinapnhohjipaa.Pure
