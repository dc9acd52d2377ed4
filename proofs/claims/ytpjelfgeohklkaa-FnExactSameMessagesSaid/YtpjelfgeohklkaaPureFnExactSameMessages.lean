/- The pure statement of the law FnExactSameMessages: proved. -/
import Derived.Test.YtpjelfgeohklkaaLibFnExactSameMessages
namespace Go.Proofs.Ytpjelfgeohklkaa.Pure
open Go.RowKit Go.Proofs.Ytpjelfgeohklkaa.Open Go.Proofs.Ytpjelfgeohklkaa.Base Go.Proofs.Ytpjelfgeohklkaa.MFnExactSameMessages Go.Proofs.YtpjelfgeohklkaaW.PrintWords Go.Proofs.YtpjelfgeohklkaaW.PrintLast Go.Proofs.YtpjelfgeohklkaaW.PrintMore
set_option linter.unusedVariables false
set_option linter.unusedSimpArgs false
theorem FnExactSameMessages : FnExactSameMessages_stated := by
  intro l0 l1 hl0 hg0 hl1 hg1
  obtain ⟨k, hk⟩ : ∃ k : Nat, k = 4000000 := ⟨_, rfl⟩
  refine ⟨k + 10, ?_⟩
  have hs0 : ∀ m ∈ l0, m.f5.f1.length ≤ maxLen := fun m hm => by
    have := hg0 m hm
    unfold G34 at this
    simp only [G32] at this
    exact this.2.2.2.2.2.2.1
  have hs1 : ∀ m ∈ l1, m.f5.f1.length ≤ maxLen := fun m hm => by
    have := hg1 m hm
    unfold G34 at this
    simp only [G32] at this
    exact this.2.2.2.2.2.2.1
  unfold laws_FnExactSameMessages.f
  obtain ⟨z, ez, hz⟩ := szMessageS_at l0 hs0 hl0 1048576 (by omega) (by omega) (k + 10) (by omega)
  rw [ez]
  simp only [Option.bind_some]
  by_cases h0 : z < 0
  · rw [if_pos h0]
  rw [if_neg h0]
  obtain ⟨z0, z1, m0, b0⟩ := hz.resolve_left h0
  obtain ⟨y, ey, hy⟩ := szMessageS_at l1 hs1 hl1 z z0 (by omega) (k + 10) (by omega)
  rw [ey]
  simp only [Option.bind_some]
  by_cases h1 : y < 0
  · rw [if_pos h1]
  rw [if_neg h1]
  obtain ⟨_, _, m1, b1⟩ := hy.resolve_left h1
  rw [toMessageS_at l0 m0 b0 _ (by omega), toMessageS_at l1 m1 b1 _ (by omega)]
  simp only [Option.bind_some]
  have c0 : ∀ m ∈ l0.map cvM, m.f5.f1.length ≤ 1048576 := fun m hm => by
    obtain ⟨x, hx, rfl⟩ := List.mem_map.1 hm
    exact b0 x hx
  have c1 : ∀ m ∈ l1.map cvM, m.f5.f1.length ≤ 1048576 := fun m hm => by
    obtain ⟨x, hx, rfl⟩ := List.mem_map.1 hm
    exact b1 x hx
  have n0 : (l0.map cvM).length ≤ 1048576 := by simpa using m0
  have n1 : (l1.map cvM).length ≤ 1048576 := by simpa using m1
  rw [spec_SameMessages_at _ _ n0 _ (by omega), impl_SameMessages_at _ _ n0 _ (by omega)]
  simp only [Option.bind_some, bne_self_eq_false, Bool.false_eq_true, ↓reduceIte]
  rw [eqMessageS_self _ n0 c0 _ (by omega)]
  simp only [Option.bind_some, ↓reduceIte]
  rw [eqMessageS_self _ n1 c1 _ (by omega)]
  rfl
end Go.Proofs.Ytpjelfgeohklkaa.Pure
