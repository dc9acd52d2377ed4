/- The pure statement of the law FnLetters: proved. -/
import Derived.Test.YtiioiohdifkbgaaLibFnLetters
namespace Go.Proofs.Ytiioiohdifkbgaa.Pure
open Go.RowKit Go.Proofs.Ytiioiohdifkbgaa.Open Go.Proofs.Ytiioiohdifkbgaa.Base Go.Proofs.Ytiioiohdifkbgaa.MFnLetters Go.Proofs.YtiioiohdifkbgaaW.PrintWords Go.Proofs.YtiioiohdifkbgaaW.PrintLast Go.Proofs.YtiioiohdifkbgaaW.PrintMore
set_option linter.unusedVariables false
set_option linter.unusedSimpArgs false
theorem FnLetters : FnLetters_stated := by
  intro code hl hw
  refine ⟨6000, ?_⟩
  unfold laws_FnLetters.f
  rw [lwBig_at, Option.bind_some]
  by_cases hb : (code.length : Int) > 1048576
  · rw [if_pos (decide_eq_true hb)]
  rw [if_neg (by simpa using hb)]
  have h : Bytes code := bytes_of (by omega) hw
  obtain ⟨p, l, a, b, c, t, d1, hlr, ht⟩ := drawSeal_at h 6000 (by omega)
  obtain ⟨r, y, hy, hr, hs⟩ := seal_both p l a b c t hlr ht
  obtain ⟨q, m, x, d2, hm, hx⟩ := drawOpen_at h 6000 (by omega)
  have hmb : ∀ q ∈ m, ∀ y ∈ q.f1, 0 ≤ y ∧ y ≤ 255 := fun q hq => (hm.2 q hq).2
  have m6 := hm.1
  have x6 := hx.1
  obtain ⟨oc, oa, ob, on, ot, ho, hlet⟩ := letter_at q m x (by omega) hmb hx.2 (by omega)
  obtain ⟨g, d3, hg⟩ := drawHead_at h 6000 (by omega)
  have g6 := hg.1
  obtain ⟨a1, b1, c1, t1, a2, b2, c2, t2, d4⟩ := drawSame_at h 6000 (by omega)
  obtain ⟨v, s1, s2⟩ := same_both a1 b1 c1 t1 a2 b2 c2 t2
  have gi := fun k hk => iReadHead_at g hg.2 (by omega) k hk
  have gs := fun k hk => sReadHead_at g hg.2 (by omega) k hk
  rw [d1, Option.bind_some, (hs _ (by omega)).1, Option.bind_some, d2, Option.bind_some, (hlet _ (by omega)).2, Option.bind_some, d3, Option.bind_some, gi _ (by omega), Option.bind_some, d4, Option.bind_some, (hs _ (by omega)).2, Option.bind_some, if_pos rfl, (hlet _ (by omega)).1, Option.bind_some, if_pos rfl, gs _ (by omega), Option.bind_some, if_pos rfl, iLF_at _ _ _ _ _ (by omega), Option.bind_some, sLF_at, Option.bind_some, if_pos rfl, s1, Option.bind_some, s2, Option.bind_some]
  show laws_FnLetters.j0 (5999 + 1) x g (v != v) p l a b c t r y q m oc oa ob on ot (rhv g).1 (rhv g).2.1 (rhv g).2.2.1 (rhv g).2.2.2.1 (rhv g).2.2.2.2 = some true
  have J2 := fun k hk => let_j2 p l a b c r t y hlr ht hr k hk
  have J1 : ∀ k, 5000 ≤ k → laws_FnLetters.j1 k g false p l a b c t r y (rhv g).1 (rhv g).2.1 (rhv g).2.2.1 (rhv g).2.2.2.1 (rhv g).2.2.2.2 = some true := fun k hk => by
    obtain ⟨k, rfl⟩ : ∃ z, k = z + 1 := ⟨k - 1, by omega⟩
    rw [laws_FnLetters.j1, if_neg (by decide)]
    by_cases h2 : (rhv g).1 = 0
    rotate_left
    · rw [if_neg h2, J2 k (by omega)]
    have hd : rhv g = (0, rd g 1, rd g 2, rwn 8 g 3, []) ∧ 11 ≤ g.length ∧ rd g 0 = 1 ∧ okf (rd g 1) (rd g 2) (rwn 8 g 3) := rhv_in g h2
    obtain ⟨hr, hx11, hx0, hf⟩ := hd
    have hh : hdv (rd g 1) (rd g 2) (rwn 8 g 3) = g.take 11 := Option.some.inj ((hd_at _ _ _ _ 10 (by omega)).symm.trans (headOf_at g hg.2 hx11 hx0 hf.2.2.2 10 (by omega)))
    rw [if_pos h2, hr]
    simp only
    rw [iHeadOf_at _ _ _ hf k (by omega), Option.bind_some, if_pos (by omega), hh, lwSame_self, Option.bind_some]
    exact J2 k (by omega)
  rw [laws_FnLetters.j0, bne_self_eq_false, if_neg (by decide)]
  by_cases h2 : oc = 0
  rotate_left
  · rw [if_neg h2, J1 _ (by omega)]
  obtain ⟨h0, hf, ht3, htb, i, hi, e, ex⟩ := ho h2
  rw [if_pos h2, (hlet _ (by omega)).1, Option.bind_some, same_self, Option.bind_some, if_pos rfl, (seal_ok q m oa ob on ot hmb h0 hf ht3 htb i hi e _ (by omega)).1, Option.bind_some, ← ex, lwSame_self, Option.bind_some]
  exact J1 _ (by omega)
end Go.Proofs.Ytiioiohdifkbgaa.Pure
