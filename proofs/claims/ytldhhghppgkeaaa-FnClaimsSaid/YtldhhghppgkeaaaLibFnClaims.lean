/- What the printed functions of the law FnClaims answer, as plain Lean. -/
import Derived.Test.YtldhhghppgkeaaaStFnClaims
import Derived.Test.YtldhhghppgkeaaaBase
namespace Go.Proofs.Ytldhhghppgkeaaa.Pure
open Go.RowKit Go.Proofs.Ytldhhghppgkeaaa.Open Go.Proofs.Ytldhhghppgkeaaa.Base Go.Proofs.Ytldhhghppgkeaaa.PFnClaims Go.Proofs.YtldhhghppgkeaaaW.PrintWords Go.Proofs.YtldhhghppgkeaaaW.PrintLast
set_option linter.unusedVariables false
set_option linter.unusedSimpArgs false
theorem impl_in_at (a b c : Int) : impl_in.f a b c = some (decide (b ≤ a ∧ a ≤ c)) := by
  unfold impl_in.f
  by_cases h : a ≥ b
  · rw [if_pos h]
    have h' : b ≤ a := h
    simp [h']
  · rw [if_neg h]
    have h' : ¬ b ≤ a := h
    simp [h']
theorem spec_in_at (a b c : Int) : spec_l1In.f a b c = some (decide (b ≤ a ∧ a ≤ c)) := by
  unfold spec_l1In.f
  by_cases h : a ≥ b
  · rw [if_pos h]
    have h' : b ≤ a := h
    simp [h']
  · rw [if_neg h]
    have h' : ¬ b ≤ a := h
    simp [h']
def cfv (a b c d : Int) : Int := if (0 ≤ a ∧ a ≤ 3) ∧ (0 ≤ b ∧ b ≤ 1000000) ∧ (0 ≤ c ∧ c ≤ 2) ∧ (0 ≤ d ∧ d ≤ 9999999) then 0 else 3
theorem cfv_or (a b c d : Int) : cfv a b c d = 0 ∨ cfv a b c d = 3 := by
  unfold cfv
  split
  · exact .inl rfl
  · exact .inr rfl
theorem cfv_ok {a b c d : Int} (h : cfv a b c d = 0) : (0 ≤ a ∧ a ≤ 3) ∧ (0 ≤ b ∧ b ≤ 1000000) ∧ (0 ≤ c ∧ c ≤ 2) ∧ (0 ≤ d ∧ d ≤ 9999999) := by
  unfold cfv at h
  split at h
  · assumption
  · omega
theorem impl_ClaimFault_at (a b c d : Int) : impl_ClaimFault.f a b c d = some (cfv a b c d) := by
  simp only [impl_ClaimFault.f, impl_isNode.f, impl_isStatus.f, impl_in_at, Option.bind_some, decide_eq_true_eq]
  unfold cfv
  repeat' split
  all_goals first | rfl | (exfalso; omega)
theorem spec_ClaimFault_at (a b c d : Int) : spec_ClaimFault.f a b c d = some (cfv a b c d) := by
  simp only [spec_ClaimFault.f, spec_in_at, Option.bind_some, decide_eq_true_eq]
  unfold cfv
  repeat' split
  all_goals first | rfl | (exfalso; omega)
def btv (b c b' c' : Int) : Bool := decide (b > b') || (decide (b = b') && decide (c > c'))
theorem impl_Beats_at (a b c d a' b' c' d' : Int) : impl_Beats.f a b c d a' b' c' d' = some (btv b c b' c') := by
  simp only [impl_Beats.f, btv]
  by_cases h : b > b'
  · rw [if_pos h]
    simp [h]
  · rw [if_neg h]
    by_cases h2 : b = b'
    · rw [if_pos h2]
      simp [h2]
    · rw [if_neg h2]
      simp [h, h2]
theorem spec_Beats_at (a b c d a' b' c' d' : Int) : spec_Beats.f a b c d a' b' c' d' = some (btv b c b' c') := by
  simp only [spec_Beats.f, btv]
  by_cases h : b > b'
  · rw [if_pos h]
    simp [h]
  · rw [if_neg h]
    by_cases h2 : b = b'
    · rw [if_pos h2]
      simp [h2]
    · rw [if_neg h2]
      simp [h, h2]
theorem btv_iff (b c b' c' : Int) : btv b c b' c' = true ↔ b > b' ∨ (b = b' ∧ c > c') := by simp [btv]
theorem tmod_in (a n : Int) (ha : 0 ≤ a) (hn : 0 < n) : 0 ≤ Int.tmod a n ∧ Int.tmod a n < n := ⟨Int.tmod_nonneg n ha, Int.tmod_lt_of_pos a hn⟩
def Bytes (code : List Int) : Prop := code.length ≤ 1048576 ∧ ∀ x ∈ code, 0 ≤ x ∧ x ≤ 255
theorem bytes_of {code : List Int} (hl : code.length ≤ 1048576) (h : ∀ x ∈ code, (Lit.int .u8 x).wf = true) : Bytes code := by
  refine ⟨hl, fun x hx => ?_⟩
  have h2 : (decide ((IntKind.u8).min ≤ x) && decide (x ≤ (IntKind.u8).max)) = true := h x hx
  rw [Bool.and_eq_true, decide_eq_true_eq, decide_eq_true_eq] at h2
  have e1 : (IntKind.u8).min = 0 := by decide
  have e2 : (IntKind.u8).max = 255 := by decide
  rw [e1, e2] at h2
  exact h2
theorem byte_in {code : List Int} (h : Bytes code) (i : Int) (h0 : 0 ≤ i) (h1 : i < code.length) : 0 ≤ rd code i ∧ rd code i ≤ 255 := by
  have e : rd code i = code[i.toNat]'(by omega) := by
    simp only [rd, List.getD_eq_getElem?_getD]
    rw [List.getElem?_eq_getElem (by omega)]
    rfl
  rw [e]
  exact h.2 _ (List.getElem_mem _)
theorem next_at {code : List Int} (h : Bytes code) (p n : Int) (hp : 0 ≤ p ∧ p ≤ 1000000) (hn : n ≤ 1000000000) : ∃ v, spec_l1Next.f code p n = some (v, p + 1) ∧ 0 ≤ v ∧ (1 ≤ n → v < n) ∧ (n < 1 → v = 0) := by
  have hl := h.1
  unfold spec_l1Next.f
  have e0 : wrap64 (p + 1) = p + 1 := w64 (by omega) (by omega)
  have e1 : wrap64 (p + 1 - 1) = p := by rw [w64 (by omega) (by omega)]; omega
  have e2 : wrap64 (p + 2) = p + 2 := w64 (by omega) (by omega)
  simp only [e0, e1, e2]
  by_cases hn1 : n < 1
  · rw [if_pos hn1]
    exact ⟨0, rfl, by omega, by omega, fun _ => rfl⟩
  rw [if_neg hn1]
  by_cases hz : (code.length : Int) = 0
  · rw [if_pos hz, if_neg (by omega), w64 (x := p * 7) (by omega) (by omega)]
    exact ⟨_, rfl, (tmod_in _ _ (by omega) (by omega)).1, fun _ => (tmod_in _ _ (by omega) (by omega)).2, by omega⟩
  rw [if_neg hz]
  have hL : 0 < (code.length : Int) := by omega
  have j0 := tmod_in p _ hp.1 hL
  have j1 := tmod_in (p + 1) _ (by omega) hL
  have j2 := tmod_in (p + 2) _ (by omega) hL
  have b0 := byte_in h _ j0.1 j0.2
  have b1 := byte_in h _ j1.1 j1.2
  have b2 := byte_in h _ j2.1 j2.2
  have q0 : 0 ≤ Int.tdiv p (code.length : Int) := Int.tdiv_nonneg hp.1 (by omega)
  have q1 : Int.tdiv p (code.length : Int) ≤ p := Int.tdiv_le_self _ hp.1
  generalize Int.tdiv p (code.length : Int) = q at *
  generalize rd code (Int.tmod p (code.length : Int)) = c0 at *
  generalize rd code (Int.tmod (p + 1) (code.length : Int)) = c1 at *
  generalize rd code (Int.tmod (p + 2) (code.length : Int)) = c2 at *
  rw [if_pos j0.1, if_pos j0.2]
  by_cases h2 : n > 200
  · rw [if_pos h2, if_pos j1.1, if_pos j1.2]
    by_cases h6 : n > 60000
    · rw [if_pos h6, if_pos j2.1, if_pos j2.2, if_neg (by omega)]
      simp (disch := omega) only [w64]
      exact ⟨_, rfl, (tmod_in _ _ (by omega) (by omega)).1, fun _ => (tmod_in _ _ (by omega) (by omega)).2, by omega⟩
    · rw [if_neg h6, if_neg (by omega)]
      simp (disch := omega) only [w64]
      exact ⟨_, rfl, (tmod_in _ _ (by omega) (by omega)).1, fun _ => (tmod_in _ _ (by omega) (by omega)).2, by omega⟩
  · rw [if_neg h2, if_neg (by omega), if_neg (by omega)]
    simp (disch := omega) only [w64]
    exact ⟨_, rfl, (tmod_in _ _ (by omega) (by omega)).1, fun _ => (tmod_in _ _ (by omega) (by omega)).2, by omega⟩
theorem lwBig_at (l : List Int) : laws_lwBig.f l = some (decide ((l.length : Int) > 1048576)) := rfl
theorem pick_at {code : List Int} (h : Bytes code) (p : Int) (hp : 0 ≤ p ∧ p ≤ 1000000) (l : List Int) (hl : 0 < l.length) (hm : l.length ≤ 1000000) : ∃ v, spec_l1Pick.f code p l = some (v, p + 1) ∧ v ∈ l := by
  obtain ⟨i, e, h0, h1, _⟩ := next_at h p (l.length : Int) hp (by omega)
  have h2 := h1 (by omega)
  unfold spec_l1Pick.f
  rw [e]
  simp only [Option.bind_some]
  rw [if_pos h0, if_pos h2]
  refine ⟨_, rfl, ?_⟩
  have e : rd l i = l[i.toNat]'(by omega) := by
    simp only [rd, List.getD_eq_getElem?_getD]
    rw [List.getElem?_eq_getElem (by omega)]
    rfl
  rw [e]
  exact List.getElem_mem _
theorem claim_at {code : List Int} (h : Bytes code) (p : Int) (hp : 0 ≤ p ∧ p ≤ 999990) : ∃ a b c d, spec_l7Claim.f code p = some (a, b, c, d, p + 4) ∧ (0 ≤ a ∧ a ≤ 3) ∧ (0 ≤ b ∧ b ≤ 1000000) ∧ (0 ≤ c ∧ c ≤ 2) ∧ (0 ≤ d ∧ d ≤ 9999999) := by
  obtain ⟨a, e1, a0, a1, _⟩ := next_at h p 4 (by omega) (by omega)
  obtain ⟨b, e2, b1⟩ := pick_at h (p + 1) (by omega) [0, 1, 2, 3, 1000000] (by decide) (by decide)
  obtain ⟨c, e3, c0, c1, _⟩ := next_at h (p + 1 + 1) 3 (by omega) (by omega)
  obtain ⟨d, e4, d1⟩ := pick_at h (p + 1 + 1 + 1) (by omega) [0, 80, 65616, 9999999] (by decide) (by decide)
  unfold spec_l7Claim.f
  rw [e1]
  simp only [Option.bind_some]
  rw [e2]
  simp only [Option.bind_some]
  rw [e3]
  simp only [Option.bind_some]
  rw [e4]
  simp only [Option.bind_some]
  have a2 := a1 (by omega)
  have c2 := c1 (by omega)
  simp only [List.mem_cons, List.not_mem_nil, or_false] at b1 d1
  have e5 : p + 1 + 1 + 1 + 1 = p + 4 := by omega
  rw [e5]
  exact ⟨a, b, c, d, rfl, by omega, by omega, by omega, by omega⟩
theorem drawBeats_at {code : List Int} (h : Bytes code) : ∃ a b c d a' b' c' d', spec_DrawBeats.f code = some (a, b, c, d, a', b', c', d') := by
  obtain ⟨a, b, c, d, e1, _⟩ := claim_at h 0 (by omega)
  obtain ⟨a', b', c', d', e2, _⟩ := claim_at h (0 + 4) (by omega)
  unfold spec_DrawBeats.f spec_l1Source.f
  simp only [Option.bind_some]
  rw [e1]
  simp only [Option.bind_some]
  rw [e2]
  exact ⟨_, _, _, _, _, _, _, _, rfl⟩
theorem drawClaimFault_at {code : List Int} (h : Bytes code) : ∃ a b c d, spec_DrawClaimFault.f code = some (a, b, c, d) := by
  obtain ⟨a, b, c, d, e1, _⟩ := claim_at h 0 (by omega)
  obtain ⟨v, e2, _⟩ := next_at h (0 + 4) 9 (by omega) (by omega)
  obtain ⟨p1, f1, _⟩ := pick_at h (0 + 4 + 1) (by omega) [-1, 4] (by decide) (by decide)
  obtain ⟨p2, f2, _⟩ := pick_at h (0 + 4 + 1) (by omega) [-1, 1000001] (by decide) (by decide)
  obtain ⟨p3, f3, _⟩ := pick_at h (0 + 4 + 1) (by omega) [-1, 3] (by decide) (by decide)
  obtain ⟨p4, f4, _⟩ := pick_at h (0 + 4 + 1) (by omega) [-1, 10000000] (by decide) (by decide)
  unfold spec_DrawClaimFault.f spec_l1Source.f
  simp only [Option.bind_some, e1, e2, f1, f2, f3, f4]
  repeat' split
  all_goals exact ⟨_, _, _, _, rfl⟩
end Go.Proofs.Ytldhhghppgkeaaa.Pure
