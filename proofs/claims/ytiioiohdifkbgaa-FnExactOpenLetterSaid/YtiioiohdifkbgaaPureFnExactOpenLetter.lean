/- The pure statement of the law FnExactOpenLetter: proved. -/
import Derived.Test.YtiioiohdifkbgaaLibFnExactOpenLetter
namespace Go.Proofs.Ytiioiohdifkbgaa.Pure
open Go.RowKit Go.Proofs.Ytiioiohdifkbgaa.Open Go.Proofs.Ytiioiohdifkbgaa.Base Go.Proofs.Ytiioiohdifkbgaa.MFnExactOpenLetter Go.Proofs.YtiioiohdifkbgaaW.PrintWords Go.Proofs.YtiioiohdifkbgaaW.PrintLast Go.Proofs.YtiioiohdifkbgaaW.PrintMore
set_option linter.unusedVariables false
set_option linter.unusedSimpArgs false
theorem byte_wf {x : Int} (h : (Lit.int .u8 x).wf = true) : 0 ≤ x ∧ x ≤ 255 := by
  have h2 : (decide ((IntKind.u8).min ≤ x) && decide (x ≤ (IntKind.u8).max)) = true := h
  rw [Bool.and_eq_true, decide_eq_true_eq, decide_eq_true_eq] at h2
  have e1 : (IntKind.u8).min = 0 := by decide
  have e2 : (IntKind.u8).max = 255 := by decide
  rw [e1, e2] at h2
  exact h2
theorem FnExactOpenLetter : FnExactOpenLetter_stated := by
  intro p l x hp hg hxl hxw
  obtain ⟨hl, hg⟩ := hg
  obtain ⟨k, hk⟩ : ∃ k : Nat, k = 5000000 := ⟨_, rfl⟩
  refine ⟨k + 10, ?_⟩
  unfold laws_FnExactOpenLetter.f
  by_cases h0 : (x.length : Int) > 1048576
  · rw [if_pos h0]
  have hs : ∀ m ∈ l, m.f1.length ≤ maxLen := fun m hm => (hg m hm).2.1
  have hb : ∀ m ∈ l, ∀ y ∈ m.f1, 0 ≤ y ∧ y ≤ 255 := fun m hm y hy => byte_wf ((hg m hm).2.2 y hy)
  have hx : ∀ y ∈ x, 0 ≤ y ∧ y ≤ 255 := fun y hy => byte_wf (hxw y hy)
  obtain ⟨z, ez, hz⟩ := szRing_at p l hs hl (k + 10) (by omega)
  rw [if_neg h0, ez, Option.bind_some]
  by_cases hz0 : z < 0
  · rw [if_pos hz0]
  rw [if_neg hz0]
  obtain ⟨_, hl1, hs1⟩ := hz.resolve_left hz0
  have hx1 : x.length ≤ 1048576 := by omega
  have tr : ∀ j, 4999999 ≤ j → laws_toRing.f j p l = some (p, l.map cvK) := fun j hj => toRing_at p l hl1 hs1 j (by omega)
  have tb : ∀ j, 4999999 ≤ j → laws_toByteS.f j x = some x := fun j hj => toByteS_at x (by omega) j (by omega)
  have cl : (l.map cvK).length ≤ 1048576 := by rw [List.length_map]; exact hl1
  have cs : ∀ m ∈ l.map cvK, m.f1.length ≤ 1048576 := fun m hm => by
    obtain ⟨y, hy, rfl⟩ := List.mem_map.1 hm
    exact hs1 y hy
  have cb : ∀ m ∈ l.map cvK, ∀ y ∈ m.f1, 0 ≤ y ∧ y ≤ 255 := fun m hm => by
    obtain ⟨y, hy, rfl⟩ := List.mem_map.1 hm
    exact hb y hy
  obtain ⟨c, a, b, n, t, ht, hlet⟩ := letter_both p (l.map cvK) x cl cb hx hx1
  obtain ⟨q, u, eq, hq0, hq1⟩ := markRing_at p (l.map cvK) cl cs (k + 10) (by omega)
  have es : ∀ j, 4999999 ≤ j → laws_eqLetterResult.f j c a b n t c a b n t = some true := fun j hj => eqLetterResult_self c a b n t (by omega) j (by omega)
  rw [tr _ (by omega), tb _ (by omega)]
  simp only [Option.bind_some]
  rw [(hlet _ (by omega)).1, (hlet _ (by omega)).2]
  simp only [Option.bind_some]
  rw [es _ (by omega), eqRing_self p _ cl cs _ (by omega), eqByteS_self x (by omega) _ (by omega), eq]
  simp only [Option.bind_some, ↓reduceIte]
  rw [markByteS_at x q (by omega) (by omega) (by omega) _ (by omega)]
  simp only [Option.bind_some]
  rw [if_neg (by omega), show k + 10 = (k + 9) + 1 by omega, laws_FnExactOpenLetter.j0, if_neg (by decide), markLetterResult_at c a b n t (by omega) _ (by omega)]
  simp only [Option.bind_some]
  rw [heldLetterResult_at c a b n t.length (by omega) _ (by omega), tr _ (by omega), tb _ (by omega)]
  simp only [Option.bind_some]
  rw [(hlet _ (by omega)).2]
  simp only [Option.bind_some]
  rw [es _ (by omega), if_neg (by omega)]
  simp only [Option.bind_some, ↓reduceIte]
  rw [if_neg (by omega)]
end Go.Proofs.Ytiioiohdifkbgaa.Pure
