/- The pure statement of the law FnExactEncodeMessages: proved. -/
import Derived.Test.YtpjelfgeohklkaaLibFnExactEncodeMessages
namespace Go.Proofs.Ytpjelfgeohklkaa.Pure
open Go.RowKit Go.Proofs.Ytpjelfgeohklkaa.Open Go.Proofs.Ytpjelfgeohklkaa.Base Go.Proofs.Ytpjelfgeohklkaa.MFnExactEncodeMessages Go.Proofs.YtpjelfgeohklkaaW.PrintWords Go.Proofs.YtpjelfgeohklkaaW.PrintLast Go.Proofs.YtpjelfgeohklkaaW.PrintMore
set_option linter.unusedVariables false
set_option linter.unusedSimpArgs false
theorem FnExactEncodeMessages : FnExactEncodeMessages_stated := by
  intro l0 hl0 hg0
  obtain ⟨k, hk⟩ : ∃ k : Nat, k = 4000000 := ⟨_, rfl⟩
  refine ⟨k + 10, ?_⟩
  have hs0 : ∀ m ∈ l0, m.f5.f1.length ≤ maxLen := fun m hm => by
    have := hg0 m hm
    unfold G34 at this
    simp only [G32] at this
    exact this.2.2.2.2.2.2.1
  unfold laws_FnExactEncodeMessages.f
  obtain ⟨z, ez, hz⟩ := szMessageS_at l0 hs0 hl0 1048576 (by omega) (by omega) (k + 10) (by omega)
  rw [ez]
  simp only [Option.bind_some]
  by_cases h0 : z < 0
  · rw [if_pos h0]
  rw [if_neg h0]
  obtain ⟨z0, z1, m0, b0⟩ := hz.resolve_left h0
  have et := fun j hj => toMessageS_at l0 m0 b0 j hj
  have c0 : ∀ m ∈ l0.map cvM, m.f5.f1.length ≤ 1048576 := fun m hm => by
    obtain ⟨x, hx, rfl⟩ := List.mem_map.1 hm
    exact b0 x hx
  have n0 : (l0.map cvM).length ≤ 1048576 := by simpa using m0
  rw [et _ (by omega)]
  simp only [Option.bind_some]
  rw [spec_EncodeMessages_at _ _ (by omega), impl_EncodeMessages_at _ _ (by omega)]
  simp only [Option.bind_some]
  have ei := fun j hj => impl_EncodeMessages_at (l0.map cvM) j hj
  have hr := encr_len (l0.map cvM)
  generalize encr (l0.map cvM) = r at *
  obtain ⟨c, v⟩ := r
  simp only at hr ⊢
  rw [eqBytesResult_self _ _ (by omega) _ (by omega)]
  simp only [Option.bind_some, ↓reduceIte]
  rw [eqMessageS_self _ n0 c0 _ (by omega)]
  simp only [Option.bind_some, ↓reduceIte]
  obtain ⟨q, u, eq, hq⟩ := markMessageS_at _ n0 c0 (k + 10) (by omega)
  rw [eq]
  simp only [Option.bind_some]
  rw [if_neg (by omega)]
  simp only [Bool.not_true, laws_FnExactEncodeMessages.j0, Bool.false_eq_true, ↓reduceIte]
  rw [markBytesResult_at _ _ (by omega) _ (by omega)]
  simp only [Option.bind_some]
  rw [heldBytesResult_at _ _ (by omega) _ (by omega)]
  have hn : ¬ (1 + 1 * (v.length : Int)) < 0 := by omega
  simp only [Option.bind_some, hn, ↓reduceIte]
  rw [et _ (by omega)]
  simp only [Option.bind_some]
  rw [ei _ (by omega)]
  simp only [Option.bind_some]
  rw [eqBytesResult_self _ _ (by omega) _ (by omega)]
  simp only [↓reduceIte, Option.bind_some]
end Go.Proofs.Ytpjelfgeohklkaa.Pure
