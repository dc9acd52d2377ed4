/- What the printed functions of the law FnDecides answer, as plain Lean. -/
import Derived.Test.YtpinapnhohjipaaStFnDecides
import Derived.Test.YtpinapnhohjipaaBaFnDecides
namespace Go.Proofs.Ytpinapnhohjipaa.Pure
open Go.RowKit Go.Proofs.Ytpinapnhohjipaa.Open Go.Proofs.Ytpinapnhohjipaa.Base Go.Proofs.Ytpinapnhohjipaa.MFnDecides Go.Proofs.YtpinapnhohjipaaW.PrintWords Go.Proofs.YtpinapnhohjipaaW.PrintLast
set_option linter.unusedVariables false
set_option linter.unusedSimpArgs false
theorem impl_in_at (a b c : Int) : impl_in.f a b c = some (decide (b ≤ a ∧ a ≤ c)) := by
  unfold impl_in.f
  by_cases h : a ≥ b
  · rw [if_pos h]
    have h' : b ≤ a := h
    simp [h']
  · rw [if_neg h]
    have h' : ¬ b ≤ a := h
    simp [h']
theorem spec_in_at (a b c : Int) : spec_l1In.f a b c = some (decide (b ≤ a ∧ a ≤ c)) := by
  unfold spec_l1In.f
  by_cases h : a ≥ b
  · rw [if_pos h]
    have h' : b ≤ a := h
    simp [h']
  · rw [if_neg h]
    have h' : ¬ b ≤ a := h
    simp [h']
def cfv (a b c d : Int) : Int := if (0 ≤ a ∧ a ≤ 3) ∧ (0 ≤ b ∧ b ≤ 1000000) ∧ (0 ≤ c ∧ c ≤ 2) ∧ (0 ≤ d ∧ d ≤ 9999999) then 0 else 3
theorem cfv_or (a b c d : Int) : cfv a b c d = 0 ∨ cfv a b c d = 3 := by
  unfold cfv
  split
  · exact .inl rfl
  · exact .inr rfl
theorem cfv_ok {a b c d : Int} (h : cfv a b c d = 0) : (0 ≤ a ∧ a ≤ 3) ∧ (0 ≤ b ∧ b ≤ 1000000) ∧ (0 ≤ c ∧ c ≤ 2) ∧ (0 ≤ d ∧ d ≤ 9999999) := by
  unfold cfv at h
  split at h
  · assumption
  · omega
theorem impl_ClaimFault_at (a b c d : Int) : impl_ClaimFault.f a b c d = some (cfv a b c d) := by
  simp only [impl_ClaimFault.f, impl_isNode.f, impl_isStatus.f, impl_in_at, Option.bind_some, decide_eq_true_eq]
  unfold cfv
  repeat' split
  all_goals first | rfl | (exfalso; omega)
theorem spec_ClaimFault_at (a b c d : Int) : spec_ClaimFault.f a b c d = some (cfv a b c d) := by
  simp only [spec_ClaimFault.f, spec_in_at, Option.bind_some, decide_eq_true_eq]
  unfold cfv
  repeat' split
  all_goals first | rfl | (exfalso; omega)
def btv (b c b' c' : Int) : Bool := decide (b > b') || (decide (b = b') && decide (c > c'))
theorem impl_Beats_at (a b c d a' b' c' d' : Int) : impl_Beats.f a b c d a' b' c' d' = some (btv b c b' c') := by
  simp only [impl_Beats.f, btv]
  by_cases h : b > b'
  · rw [if_pos h]
    simp [h]
  · rw [if_neg h]
    by_cases h2 : b = b'
    · rw [if_pos h2]
      simp [h2]
    · rw [if_neg h2]
      simp [h, h2]
theorem spec_Beats_at (a b c d a' b' c' d' : Int) : spec_Beats.f a b c d a' b' c' d' = some (btv b c b' c') := by
  simp only [spec_Beats.f, btv]
  by_cases h : b > b'
  · rw [if_pos h]
    simp [h]
  · rw [if_neg h]
    by_cases h2 : b = b'
    · rw [if_pos h2]
      simp [h2]
    · rw [if_neg h2]
      simp [h, h2]
theorem btv_iff (b c b' c' : Int) : btv b c b' c' = true ↔ b > b' ∨ (b = b' ∧ c > c') := by simp [btv]
def okv (c : S51) : Bool := decide (cfv c.f0 c.f1 c.f2 c.f3 = 0)
def ascv : List S51 → Bool
  | [] => true
  | [_] => true
  | x :: y :: t => decide (x.f0 < y.f0) && ascv (y :: t)
def vfv (l : List S51) : Int := if l.length > 4 then 2 else if l.all okv then (if ascv l then 0 else 1) else 3
theorem ascv_drop (l : List S51) (i : Nat) (h1 : 1 ≤ i) (h : i < l.length) : ascv (l.drop (i - 1)) = (decide ((l[i - 1]).f0 < l[i].f0) && ascv (l.drop i)) := by
  have e : i - 1 + 1 = i := by omega
  rw [drop_cons l (i - 1) (by omega)]
  simp only [e]
  rw [drop_cons l i h]
  rfl
theorem ascv_last (l : List S51) (h : 0 < l.length) : ascv (l.drop (l.length - 1)) = true := by
  have e : l.length - 1 + 1 = l.length := by omega
  rw [drop_cons l (l.length - 1) (by omega)]
  simp only [e]
  rw [List.drop_length]
  rfl
theorem spec_ViewFault_l1 (l : List S51) (hl : l.length ≤ 4) (k : Nat) (hk : 10 ≤ k) : spec_ViewFault.l1 k l 1 = some (if ascv l then 0 else 1) := by
  by_cases h0 : l.length = 0
  · obtain ⟨k, rfl⟩ : ∃ m, k = m + 1 := ⟨k - 1, by omega⟩
    rw [List.eq_nil_of_length_eq_zero h0]
    rfl
  refine loop_up (fun k (_ : Unit) i => spec_ViewFault.l1 k l i) l.length 0 (fun _ i => if ascv (l.drop (i - 1)) then 0 else 1) (fun _ i => 1 ≤ i) ?_ ?_ k () 1 1 rfl (by omega) (by omega) (by omega)
  · intro k _ _ _
    simp only [spec_ViewFault.l1]
    rw [if_neg (by omega), ascv_last l (by omega), if_pos rfl]
  · intro k _ i hi h1 _ ih
    have e1 : wrap64 ((i : Int) - 1) = ((i - 1 : Nat) : Int) := by rw [w64 (by omega) (by omega)]; omega
    have e2 : wrap64 ((i : Int) + 1) = (i : Int) + 1 := w64 (by omega) (by omega)
    have hx : rd_T51 l ((i - 1 : Nat) : Int) = l[i - 1] := by simp only [rd_T51, Int.toNat_natCast, getD_at _ _ _ (show i - 1 < l.length by omega)]
    have hy : rd_T51 l (i : Int) = l[i] := by simp only [rd_T51, Int.toNat_natCast, getD_at _ _ _ hi]
    simp only [spec_ViewFault.l1, e1, e2]
    rw [if_pos (by omega), if_pos (by omega), if_pos (by omega), if_pos (by omega), hx, hy, ascv_drop l i h1 hi]
    by_cases h : l[i].f0 ≤ l[i - 1].f0
    · rw [if_pos h, decide_eq_false (by omega), Bool.false_and]
      rfl
    · rw [if_neg h, decide_eq_true (by omega), Bool.true_and]
      exact ih () (by omega)
theorem impl_ViewFault_l1 (l : List S51) (hl : l.length ≤ 4) (k : Nat) (hk : 10 ≤ k) : impl_ViewFault.l1 k l 1 = some (if ascv l then 0 else 1) := by
  by_cases h0 : l.length = 0
  · obtain ⟨k, rfl⟩ : ∃ m, k = m + 1 := ⟨k - 1, by omega⟩
    rw [List.eq_nil_of_length_eq_zero h0]
    rfl
  refine loop_up (fun k (_ : Unit) i => impl_ViewFault.l1 k l i) l.length 0 (fun _ i => if ascv (l.drop (i - 1)) then 0 else 1) (fun _ i => 1 ≤ i) ?_ ?_ k () 1 1 rfl (by omega) (by omega) (by omega)
  · intro k _ _ _
    simp only [impl_ViewFault.l1]
    rw [if_neg (by omega), ascv_last l (by omega), if_pos rfl]
  · intro k _ i hi h1 _ ih
    have e1 : wrap64 ((i : Int) - 1) = ((i - 1 : Nat) : Int) := by rw [w64 (by omega) (by omega)]; omega
    have e2 : wrap64 ((i : Int) + 1) = (i : Int) + 1 := w64 (by omega) (by omega)
    have hx : rd_T51 l ((i - 1 : Nat) : Int) = l[i - 1] := by simp only [rd_T51, Int.toNat_natCast, getD_at _ _ _ (show i - 1 < l.length by omega)]
    have hy : rd_T51 l (i : Int) = l[i] := by simp only [rd_T51, Int.toNat_natCast, getD_at _ _ _ hi]
    simp only [impl_ViewFault.l1, e1, e2]
    rw [if_pos (by omega), if_pos (by omega), if_pos (by omega), if_pos (by omega), hx, hy, ascv_drop l i h1 hi]
    by_cases h : l[i - 1].f0 ≥ l[i].f0
    · rw [if_pos h, decide_eq_false (by omega), Bool.false_and]
      rfl
    · rw [if_neg h, decide_eq_true (by omega), Bool.true_and]
      exact ih () (by omega)
theorem okv_cases (c : S51) : (okv c = true ∧ cfv c.f0 c.f1 c.f2 c.f3 = 0) ∨ (okv c = false ∧ cfv c.f0 c.f1 c.f2 c.f3 = 3) := by
  rcases cfv_or c.f0 c.f1 c.f2 c.f3 with h | h
  · exact .inl ⟨by simp [okv, h], h⟩
  · exact .inr ⟨by simp [okv, h], h⟩
theorem spec_ViewFault_at (l : List S51) (k : Nat) (hk : 20 ≤ k) : spec_ViewFault.f k l = some (vfv l) := by
  unfold spec_ViewFault.f vfv
  by_cases hl : l.length > 4
  · rw [if_pos (by omega), if_pos hl]
  rw [if_neg (by omega), if_neg hl]
  refine loop_up (fun k (_ : Unit) i => spec_ViewFault.l0 k l i) l.length 10 (fun _ i => if (l.drop i).all okv then (if ascv l then 0 else 1) else 3) (fun _ i => True) ?_ ?_ k () 0 0 rfl (by omega) trivial (by omega)
  · intro k _ _ hm
    simp only [spec_ViewFault.l0]
    rw [if_neg (by omega), spec_ViewFault_l1 l (by omega) k (by omega), List.drop_length]
    rfl
  · intro k _ i hi _ _ ih
    have e2 : wrap64 ((i : Int) + 1) = (i : Int) + 1 := w64 (by omega) (by omega)
    have hy : rd_T51 l (i : Int) = l[i] := by simp only [rd_T51, Int.toNat_natCast, getD_at _ _ _ hi]
    simp only [spec_ViewFault.l0, e2, spec_ClaimFault_at, Option.bind_some]
    rw [if_pos (by omega), if_pos (by omega), hy, drop_cons l i hi, List.all_cons]
    rcases okv_cases l[i] with ⟨h, h'⟩ | ⟨h, h'⟩
    · rw [h, h', if_pos rfl, Bool.true_and]
      exact ih () trivial
    · rw [h, h', if_neg (by omega), Bool.false_and]
      rfl
theorem impl_ViewFault_at (l : List S51) (k : Nat) (hk : 20 ≤ k) : impl_ViewFault.f k l = some (vfv l) := by
  unfold impl_ViewFault.f vfv
  by_cases hl : l.length > 4
  · rw [if_pos (by omega), if_pos hl]
  rw [if_neg (by omega), if_neg hl]
  refine loop_up (fun k (_ : Unit) i => impl_ViewFault.l0 k l l (l.length : Int) i) l.length 10 (fun _ i => if (l.drop i).all okv then (if ascv l then 0 else 1) else 3) (fun _ i => True) ?_ ?_ k () 0 0 rfl (by omega) trivial (by omega)
  · intro k _ _ hm
    simp only [impl_ViewFault.l0]
    rw [if_neg (by omega), impl_ViewFault_l1 l (by omega) k (by omega), List.drop_length]
    rfl
  · intro k _ i hi _ _ ih
    have e2 : wrap64 ((i : Int) + 1) = (i : Int) + 1 := w64 (by omega) (by omega)
    have hy : rd_T51 l (i : Int) = l[i] := by simp only [rd_T51, Int.toNat_natCast, getD_at _ _ _ hi]
    simp only [impl_ViewFault.l0, e2, impl_ClaimFault_at, Option.bind_some]
    rw [if_pos (by omega), if_pos (by omega), if_pos (by omega), hy, drop_cons l i hi, List.all_cons]
    rcases okv_cases l[i] with ⟨h, h'⟩ | ⟨h, h'⟩
    · rw [h, h', if_pos rfl, Bool.true_and]
      exact ih () trivial
    · rw [h, h', if_neg (by omega), Bool.false_and]
      rfl
theorem vfv_ok {l : List S51} (h : vfv l = 0) : l.length ≤ 4 ∧ l.all okv = true ∧ ascv l = true := by
  unfold vfv at h
  split at h
  · omega
  · split at h
    · split at h
      · exact ⟨by omega, by assumption, by assumption⟩
      · omega
    · omega
theorem vfv_le {l : List S51} (h : ¬ vfv l = 0) : True := trivial
theorem tmod_in (a n : Int) (ha : 0 ≤ a) (hn : 0 < n) : 0 ≤ Int.tmod a n ∧ Int.tmod a n < n := ⟨Int.tmod_nonneg n ha, Int.tmod_lt_of_pos a hn⟩
def Bytes (code : List Int) : Prop := code.length ≤ 1048576 ∧ ∀ x ∈ code, 0 ≤ x ∧ x ≤ 255
theorem bytes_of {code : List Int} (hl : code.length ≤ 1048576) (h : ∀ x ∈ code, (Lit.int .u8 x).wf = true) : Bytes code := by
  refine ⟨hl, fun x hx => ?_⟩
  have h2 : (decide ((IntKind.u8).min ≤ x) && decide (x ≤ (IntKind.u8).max)) = true := h x hx
  rw [Bool.and_eq_true, decide_eq_true_eq, decide_eq_true_eq] at h2
  have e1 : (IntKind.u8).min = 0 := by decide
  have e2 : (IntKind.u8).max = 255 := by decide
  rw [e1, e2] at h2
  exact h2
theorem byte_in {code : List Int} (h : Bytes code) (i : Int) (h0 : 0 ≤ i) (h1 : i < code.length) : 0 ≤ rd code i ∧ rd code i ≤ 255 := by
  have e : rd code i = code[i.toNat]'(by omega) := by
    simp only [rd, List.getD_eq_getElem?_getD]
    rw [List.getElem?_eq_getElem (by omega)]
    rfl
  rw [e]
  exact h.2 _ (List.getElem_mem _)
theorem next_at {code : List Int} (h : Bytes code) (p n : Int) (hp : 0 ≤ p ∧ p ≤ 1000000) (hn : n ≤ 1000000000) : ∃ v, spec_l1Next.f code p n = some (v, p + 1) ∧ 0 ≤ v ∧ (1 ≤ n → v < n) ∧ (n < 1 → v = 0) := by
  have hl := h.1
  unfold spec_l1Next.f
  have e0 : wrap64 (p + 1) = p + 1 := w64 (by omega) (by omega)
  have e1 : wrap64 (p + 1 - 1) = p := by rw [w64 (by omega) (by omega)]; omega
  have e2 : wrap64 (p + 2) = p + 2 := w64 (by omega) (by omega)
  simp only [e0, e1, e2]
  by_cases hn1 : n < 1
  · rw [if_pos hn1]
    exact ⟨0, rfl, by omega, by omega, fun _ => rfl⟩
  rw [if_neg hn1]
  by_cases hz : (code.length : Int) = 0
  · rw [if_pos hz, if_neg (by omega), w64 (x := p * 7) (by omega) (by omega)]
    exact ⟨_, rfl, (tmod_in _ _ (by omega) (by omega)).1, fun _ => (tmod_in _ _ (by omega) (by omega)).2, by omega⟩
  rw [if_neg hz]
  have hL : 0 < (code.length : Int) := by omega
  have j0 := tmod_in p _ hp.1 hL
  have j1 := tmod_in (p + 1) _ (by omega) hL
  have j2 := tmod_in (p + 2) _ (by omega) hL
  have b0 := byte_in h _ j0.1 j0.2
  have b1 := byte_in h _ j1.1 j1.2
  have b2 := byte_in h _ j2.1 j2.2
  have q0 : 0 ≤ Int.tdiv p (code.length : Int) := Int.tdiv_nonneg hp.1 (by omega)
  have q1 : Int.tdiv p (code.length : Int) ≤ p := Int.tdiv_le_self _ hp.1
  generalize Int.tdiv p (code.length : Int) = q at *
  generalize rd code (Int.tmod p (code.length : Int)) = c0 at *
  generalize rd code (Int.tmod (p + 1) (code.length : Int)) = c1 at *
  generalize rd code (Int.tmod (p + 2) (code.length : Int)) = c2 at *
  rw [if_pos j0.1, if_pos j0.2]
  by_cases h2 : n > 200
  · rw [if_pos h2, if_pos j1.1, if_pos j1.2]
    by_cases h6 : n > 60000
    · rw [if_pos h6, if_pos j2.1, if_pos j2.2, if_neg (by omega)]
      simp (disch := omega) only [w64]
      exact ⟨_, rfl, (tmod_in _ _ (by omega) (by omega)).1, fun _ => (tmod_in _ _ (by omega) (by omega)).2, by omega⟩
    · rw [if_neg h6, if_neg (by omega)]
      simp (disch := omega) only [w64]
      exact ⟨_, rfl, (tmod_in _ _ (by omega) (by omega)).1, fun _ => (tmod_in _ _ (by omega) (by omega)).2, by omega⟩
  · rw [if_neg h2, if_neg (by omega), if_neg (by omega)]
    simp (disch := omega) only [w64]
    exact ⟨_, rfl, (tmod_in _ _ (by omega) (by omega)).1, fun _ => (tmod_in _ _ (by omega) (by omega)).2, by omega⟩
theorem lwBig_at (l : List Int) : laws_lwBig.f l = some (decide ((l.length : Int) > 1048576)) := rfl
theorem pick_at {code : List Int} (h : Bytes code) (p : Int) (hp : 0 ≤ p ∧ p ≤ 1000000) (l : List Int) (hl : 0 < l.length) (hm : l.length ≤ 1000000) : ∃ v, spec_l1Pick.f code p l = some (v, p + 1) ∧ v ∈ l := by
  obtain ⟨i, e, h0, h1, _⟩ := next_at h p (l.length : Int) hp (by omega)
  have h2 := h1 (by omega)
  unfold spec_l1Pick.f
  rw [e]
  simp only [Option.bind_some]
  rw [if_pos h0, if_pos h2]
  refine ⟨_, rfl, ?_⟩
  have e : rd l i = l[i.toNat]'(by omega) := by
    simp only [rd, List.getD_eq_getElem?_getD]
    rw [List.getElem?_eq_getElem (by omega)]
    rfl
  rw [e]
  exact List.getElem_mem _
theorem chance_at {code : List Int} (h : Bytes code) (p n : Int) (hp : 0 ≤ p ∧ p ≤ 1000000) (hn : n ≤ 1000000000) : ∃ b, spec_l1Chance.f code p n = some (b, p + 1) := by
  obtain ⟨v, e, _⟩ := next_at h p n hp hn
  unfold spec_l1Chance.f
  rw [e]
  exact ⟨_, rfl⟩
theorem claim_at {code : List Int} (h : Bytes code) (p : Int) (hp : 0 ≤ p ∧ p ≤ 999990) : ∃ a b c d, spec_l7Claim.f code p = some (a, b, c, d, p + 4) ∧ (0 ≤ a ∧ a ≤ 3) ∧ (0 ≤ b ∧ b ≤ 1000000) ∧ (0 ≤ c ∧ c ≤ 2) ∧ (0 ≤ d ∧ d ≤ 9999999) := by
  obtain ⟨a, e1, a0, a1, _⟩ := next_at h p 4 (by omega) (by omega)
  obtain ⟨b, e2, b1⟩ := pick_at h (p + 1) (by omega) [0, 1, 2, 3, 1000000] (by decide) (by decide)
  obtain ⟨c, e3, c0, c1, _⟩ := next_at h (p + 1 + 1) 3 (by omega) (by omega)
  obtain ⟨d, e4, d1⟩ := pick_at h (p + 1 + 1 + 1) (by omega) [0, 80, 65616, 9999999] (by decide) (by decide)
  unfold spec_l7Claim.f
  rw [e1]
  simp only [Option.bind_some]
  rw [e2]
  simp only [Option.bind_some]
  rw [e3]
  simp only [Option.bind_some]
  rw [e4]
  simp only [Option.bind_some]
  have a2 := a1 (by omega)
  have c2 := c1 (by omega)
  simp only [List.mem_cons, List.not_mem_nil, or_false] at b1 d1
  have e5 : p + 1 + 1 + 1 + 1 = p + 4 := by omega
  rw [e5]
  exact ⟨a, b, c, d, rfl, by omega, by omega, by omega, by omega⟩
theorem drawClaimFault_at {code : List Int} (h : Bytes code) : ∃ a b c d, spec_DrawClaimFault.f code = some (a, b, c, d) := by
  obtain ⟨a, b, c, d, e1, _⟩ := claim_at h 0 (by omega)
  obtain ⟨v, e2, _⟩ := next_at h (0 + 4) 9 (by omega) (by omega)
  obtain ⟨p1, f1, _⟩ := pick_at h (0 + 4 + 1) (by omega) [-1, 4] (by decide) (by decide)
  obtain ⟨p2, f2, _⟩ := pick_at h (0 + 4 + 1) (by omega) [-1, 1000001] (by decide) (by decide)
  obtain ⟨p3, f3, _⟩ := pick_at h (0 + 4 + 1) (by omega) [-1, 3] (by decide) (by decide)
  obtain ⟨p4, f4, _⟩ := pick_at h (0 + 4 + 1) (by omega) [-1, 10000000] (by decide) (by decide)
  unfold spec_DrawClaimFault.f spec_l1Source.f
  simp only [Option.bind_some, e1, e2, f1, f2, f3, f4]
  repeat' split
  all_goals exact ⟨_, _, _, _, rfl⟩
theorem impl_claimOf_at (l : List S51) (hl : l.length ≤ 10) (a : Int) (k : Nat) (hk : 20 ≤ k) : impl_claimOf.f k l a = some (match l.find? (fun c => decide (c.f0 = a)) with | some c => (c.f0, c.f1, c.f2, c.f3, true) | none => (0, 0, 0, 0, false)) := by
  unfold impl_claimOf.f
  refine loop_up (fun k (_ : Unit) i => impl_claimOf.l0 k a l (l.length : Int) i) l.length 0 (fun _ i => match (l.drop i).find? (fun c => decide (c.f0 = a)) with | some c => (c.f0, c.f1, c.f2, c.f3, true) | none => (0, 0, 0, 0, false)) (fun _ i => True) ?_ ?_ k () 0 0 rfl (by omega) trivial (by omega)
  · intro k _ _ _
    simp only [impl_claimOf.l0]
    rw [if_neg (by omega), List.drop_length]
    rfl
  · intro k _ i hi _ _ ih
    have e2 : wrap64 ((i : Int) + 1) = (i : Int) + 1 := w64 (by omega) (by omega)
    have hy : rd_T51 l (i : Int) = l[i] := by simp only [rd_T51, Int.toNat_natCast, getD_at _ _ _ hi]
    simp only [impl_claimOf.l0, e2]
    rw [if_pos (by omega), if_pos (by omega), if_pos (by omega), hy, drop_cons l i hi]
    by_cases h : l[i].f0 = a
    · rw [if_pos h, List.find?_cons_of_pos (by simpa using h)]
    · rw [if_neg h, List.find?_cons_of_neg (by simpa using h)]
      exact ih () trivial
def posv (a : Int) : List S51 → Nat → Int
  | [], _ => -1
  | c :: t, i => if c.f0 = a then (i : Int) else posv a t (i + 1)
theorem posv_find (a : Int) (l : List S51) (i : Nat) : (∃ (j : Nat) (h : j < l.length), posv a l i = ((i + j : Nat) : Int) ∧ l.find? (fun c => decide (c.f0 = a)) = some l[j]) ∨ (posv a l i = -1 ∧ l.find? (fun c => decide (c.f0 = a)) = none) := by
  induction l generalizing i with
  | nil => exact .inr ⟨rfl, rfl⟩
  | cons c t ih =>
    by_cases h : c.f0 = a
    · exact .inl ⟨0, by simp, by simp [posv, h], by rw [List.find?_cons_of_pos (by simpa using h)]; rfl⟩
    · rw [List.find?_cons_of_neg (by simpa using h)]
      have e : posv a (c :: t) i = posv a t (i + 1) := by simp [posv, h]
      rw [e]
      rcases ih (i + 1) with ⟨j, hj, e1, e2⟩ | ⟨e1, e2⟩
      · exact .inl ⟨j + 1, by simp; omega, by rw [e1]; omega, e2⟩
      · exact .inr ⟨e1, e2⟩
theorem spec_l8Find_at (l : List S51) (hl : l.length ≤ 10) (a : Int) (k : Nat) (hk : 20 ≤ k) : (∃ (i : Nat) (h : i < l.length), spec_l8Find.f k l a = some (i : Int) ∧ l.find? (fun c => decide (c.f0 = a)) = some l[i]) ∨ (spec_l8Find.f k l a = some (-1) ∧ l.find? (fun c => decide (c.f0 = a)) = none) := by
  have e : spec_l8Find.f k l a = some (posv a l 0) := by
    unfold spec_l8Find.f
    refine loop_up (fun k (_ : Unit) i => spec_l8Find.l0 k l a i) l.length 0 (fun _ i => posv a (l.drop i) i) (fun _ i => True) ?_ ?_ k () 0 0 rfl (by omega) trivial (by omega)
    · intro k _ _ _
      simp only [spec_l8Find.l0]
      rw [if_neg (by omega), List.drop_length]
      rfl
    · intro k _ i hi _ _ ih
      have e2 : wrap64 ((i : Int) + 1) = (i : Int) + 1 := w64 (by omega) (by omega)
      have hy : rd_T51 l (i : Int) = l[i] := by simp only [rd_T51, Int.toNat_natCast, getD_at _ _ _ hi]
      simp only [spec_l8Find.l0, e2]
      rw [if_pos (by omega), if_pos (by omega), hy, drop_cons l i hi]
      by_cases h : l[i].f0 = a
      · simp [posv, h]
      · rw [if_neg h, ih () trivial]
        simp [posv, h]
  rcases posv_find a l 0 with ⟨j, hj, e1, e2⟩ | ⟨e1, e2⟩
  · exact .inl ⟨j, hj, by rw [e, e1]; simp, e2⟩
  · exact .inr ⟨by rw [e, e1], e2⟩
def fcv (l : List S51) (a : Int) : Int × List S51 × Bool := if vfv l = 0 then (match l.find? (fun c => decide (c.f0 = a)) with | some c => (0, [c], false) | none => (4, [], false)) else (vfv l, [], false)
theorem fcv_len (l : List S51) (a : Int) : (fcv l a).2.1.length ≤ 1 := by
  unfold fcv
  split
  · split <;> simp
  · simp
theorem impl_FindClaim_at (l : List S51) (a : Int) (k : Nat) (hk : 20 ≤ k) : impl_FindClaim.f k l a = some (fcv l a) := by
  unfold impl_FindClaim.f fcv
  rw [impl_ViewFault_at l k hk]
  simp only [Option.bind_some]
  by_cases h : vfv l = 0
  · rw [if_pos h, if_pos h, impl_claimOf_at l (by have := (vfv_ok h).1; omega) a k hk]
    simp only [Option.bind_some]
    cases l.find? (fun c => decide (c.f0 = a)) <;> simp
  · rw [if_neg h, if_neg h]
theorem spec_FindClaim_at (l : List S51) (a : Int) (k : Nat) (hk : 20 ≤ k) : spec_FindClaim.f k l a = some (fcv l a) := by
  unfold spec_FindClaim.f fcv
  rw [spec_ViewFault_at l k hk]
  simp only [Option.bind_some]
  by_cases h : vfv l = 0
  · rw [if_pos h, if_pos h]
    rcases spec_l8Find_at l (by have := (vfv_ok h).1; omega) a k hk with ⟨i, hi, e1, e2⟩ | ⟨e1, e2⟩
    · have hy : rd_T51 l (i : Int) = l[i] := by simp only [rd_T51, Int.toNat_natCast, getD_at _ _ _ hi]
      rw [e1, e2]
      simp only [Option.bind_some]
      rw [if_neg (by omega), if_pos (by omega), if_pos (by omega), hy]
    · rw [e1, e2]
      simp
  · rw [if_neg h, if_neg h]
def sbv (l : List S51) (a : Int) : Int × Int × Int × Int × Int × Bool := if vfv l = 0 then (match l.find? (fun c => decide (c.f0 = a)) with | some c => if c.f2 = 0 then (0, c.f0, c.f1, 1, c.f3, true) else (0, c.f0, c.f1, c.f2, c.f3, false) | none => (4, 0, 0, 0, 0, false)) else (vfv l, 0, 0, 0, 0, false)
theorem spec_SuspectBy_at (l : List S51) (a : Int) (k : Nat) (hk : 20 ≤ k) : spec_SuspectBy.f k l a = some (sbv l a) := by
  unfold spec_SuspectBy.f sbv
  rw [spec_ViewFault_at l k hk]
  simp only [Option.bind_some]
  by_cases h : vfv l = 0
  · rw [if_pos h, if_pos h]
    rcases spec_l8Find_at l (by have := (vfv_ok h).1; omega) a k hk with ⟨i, hi, e1, e2⟩ | ⟨e1, e2⟩
    · have hy : rd_T51 l (i : Int) = l[i] := by simp only [rd_T51, Int.toNat_natCast, getD_at _ _ _ hi]
      rw [e1, e2]
      simp only [Option.bind_some]
      rw [if_neg (by omega), if_pos (by omega), if_pos (by omega), hy]
      by_cases h2 : l[i].f2 = 0
      · rw [if_pos h2, if_pos h2]
      · rw [if_neg h2, if_neg h2]
    · rw [e1, e2]
      simp
  · rw [if_neg h, if_neg h]
theorem impl_SuspectBy_at (l : List S51) (a : Int) (k : Nat) (hk : 20 ≤ k) : impl_SuspectBy.f k l a = some (sbv l a) := by
  unfold impl_SuspectBy.f sbv
  rw [impl_FindClaim_at l a k hk]
  simp only [Option.bind_some, fcv]
  by_cases h : vfv l = 0
  · rw [if_pos h, if_pos h]
    cases l.find? (fun c => decide (c.f0 = a)) with
    | some c =>
      have hc : rd_T51 [c] 0 = c := rfl
      simp only [if_true, List.length_cons, List.length_nil, hc]
      by_cases h2 : c.f2 = 0
      · simp [h2]
      · simp [h2]
    | none => simp
  · rw [if_neg h, if_neg h]
    simp [h]
theorem l8Draw_l0 {code : List Int} (h : Bytes code) (d : Nat) : ∀ (k : Nat) (l : List S51) (i p : Int), i = 4 - (d : Int) → 0 ≤ i → d < k → (l.length : Int) ≤ i → 0 ≤ p → p + 10 * d ≤ 900000 →
    ∃ l' p', spec_l8Draw.l0 k l i code p = some (l', p') ∧ l'.length ≤ 4 ∧ p ≤ p' ∧ p' ≤ p + 5 * d := by
  induction d with
  | zero =>
    intro k l i p hi h0 hk hl hp hp2
    obtain ⟨k, rfl⟩ : ∃ m, k = m + 1 := ⟨k - 1, by omega⟩
    simp only [spec_l8Draw.l0]
    rw [if_neg (by omega)]
    exact ⟨l, p, rfl, by omega, by omega, by omega⟩
  | succ d ih =>
    intro k l i p hi h0 hk hl hp hp2
    obtain ⟨k, rfl⟩ : ∃ m, k = m + 1 := ⟨k - 1, by omega⟩
    have e2 : wrap64 (i + 1) = i + 1 := w64 (by omega) (by omega)
    obtain ⟨b, e1⟩ := chance_at h p 4 (by omega) (by omega)
    obtain ⟨a, b', c, x, e3, _⟩ := claim_at h (p + 1) (by omega)
    simp only [spec_l8Draw.l0, e2]
    rw [if_pos (by omega), e1]
    simp only [Option.bind_some]
    cases b with
    | true =>
      rw [if_pos rfl]
      obtain ⟨l', p', f1, f2, f3, f4⟩ := ih k l (i + 1) (p + 1) (by omega) (by omega) (by omega) (by omega) (by omega) (by omega)
      exact ⟨l', p', f1, f2, by omega, by omega⟩
    | false =>
      rw [if_neg (by decide), e3]
      simp only [Option.bind_some]
      rw [if_pos (by omega)]
      obtain ⟨l', p', f1, f2, f3, f4⟩ := ih k (l ++ [⟨i, b', c, x⟩]) (i + 1) (p + 1 + 4) (by omega) (by omega) (by omega) (by simp; omega) (by omega) (by omega)
      exact ⟨l', p', f1, f2, by omega, by omega⟩
theorem l8Draw_at {code : List Int} (h : Bytes code) (k : Nat) (p : Int) (hk : 10 ≤ k) (hp : 0 ≤ p) (hp2 : p ≤ 800000) : ∃ l p', spec_l8Draw.f k code p = some (l, p') ∧ l.length ≤ 4 ∧ p ≤ p' ∧ p' ≤ p + 20 := by
  obtain ⟨l, p', f1, f2, f3, f4⟩ := l8Draw_l0 h 4 k [] 0 p (by omega) (by omega) (by omega) (by simp) hp (by omega)
  exact ⟨l, p', f1, f2, f3, by omega⟩
theorem l8Bent_at {code : List Int} (h : Bytes code) (k : Nat) (p : Int) (hk : 10 ≤ k) (hp : 0 ≤ p) (hp2 : p ≤ 700000) : ∃ l p', spec_l8Bent.f k code p = some (l, p') ∧ l.length ≤ 8 ∧ p ≤ p' ∧ p' ≤ p + 30 := by
  obtain ⟨l, q, e1, hl, hq, hq2⟩ := l8Draw_at h k p hk hp (by omega)
  obtain ⟨v, e2, _⟩ := next_at h q 14 (by omega) (by omega)
  obtain ⟨a, b, c, d, e3, _⟩ := claim_at h (q + 1) (by omega)
  obtain ⟨x, e4, _⟩ := pick_at h (q + 1) (by omega) [3, 4] (by decide) (by decide)
  obtain ⟨y, e5, _⟩ := pick_at h (q + 1) (by omega) [3, -1, 2] (by decide) (by decide)
  unfold spec_l8Bent.f
  simp only [e1, e2, e3, e4, e5, Option.bind_some]
  rw [if_pos (show l.length < 4398046511104 by omega), if_pos (show l.length < 4398046511104 by omega), if_pos (show l.length + l.length < 4398046511104 by omega)]
  repeat' split
  all_goals first | exact ⟨_, _, rfl, by omega, by omega, by omega⟩ | exact ⟨_, _, rfl, by simp; omega, by omega, by omega⟩ | (exfalso; omega)
def wok (b c d e f g : Int) : Bool := decide ((0 ≤ b ∧ b ≤ 1000000) ∧ (0 ≤ c ∧ c ≤ 3) ∧ (0 ≤ d ∧ d ≤ 1000000) ∧ (1 ≤ e ∧ e ≤ 9) ∧ (0 ≤ f ∧ f ≤ 3) ∧ (0 ≤ g ∧ g ≤ 1000000))
def wtv (a b c d e f g : Int) : Int := if (1 ≤ a ∧ a ≤ 4) ∧ (a = 4 ∨ (f = 0 ∧ g = 0)) then (if wok b c d e f g = true then 0 else 3) else 1
theorem spec_l9Wait_j0 (k : Nat) (x : Bool) (a b c d e f g : Int) : spec_l9Wait.j0 (k + 1) x a b c d e f g = some (if x = true then 1 else if wok b c d e f g = true then 0 else 3, a, b, c, d, e, f, g) := by
  cases x
  · simp only [spec_l9Wait.j0, spec_l9Node.f, spec_in_at, Option.bind_some, wok, decide_eq_true_eq, Bool.false_eq_true, if_false]
    repeat' split
    all_goals first | rfl | (exfalso; omega)
  · rfl
theorem spec_l9Wait_at (k : Nat) (a b c d e f g : Int) : spec_l9Wait.f (k + 1) a b c d e f g = some (wtv a b c d e f g, a, b, c, d, e, f, g) := by
  simp only [spec_l9Wait.f, spec_l9Wait_j0, spec_in_at, Option.bind_some, decide_eq_true_eq, wtv, bne_iff_ne, ne_eq]
  repeat' split
  all_goals first | rfl | (exfalso; omega) | (exfalso; simp_all; omega) | (exfalso; simp_all)
theorem spec_l9WaitAt_at (k : Nat) (a b c d e f g : Int) : spec_l9WaitAt.f (k + 1) a b c d e f g = some (wtv a b c d e f g) := by
  unfold spec_l9WaitAt.f
  rw [spec_l9Wait_at]
  rfl
def wof (c : S67) : Int := wtv c.f0 c.f1 c.f2 c.f3 c.f4 c.f5 c.f6
def wffv : List S67 → Int
  | [] => 0
  | c :: t => if wof c = 0 then wffv t else wof c
def wfv (l : List S67) : Int := if l.length > 40 then 2 else wffv l
theorem impl_WaitsFault_j1 (k : Nat) (l : List S67) (n i : Int) (x : Bool) (a b c d e f g : Int) : impl_WaitsFault.j1 (k + 1) l n i x a b c d e f g = if x = true then some 1 else if wok b c d e f g = true then impl_WaitsFault.l0 k l n (wrap64 (i + 1)) else some 3 := by
  rw [impl_WaitsFault.j1]
  cases x
  · simp only [impl_isSeq.f, impl_isNode.f, impl_in_at, Option.bind_some, wok, decide_eq_true_eq, Bool.false_eq_true, if_false]
    repeat' split
    all_goals first | rfl | (exfalso; omega)
  · rfl
theorem impl_WaitsFault_at (l : List S67) (k : Nat) (hk : 200 ≤ k) : impl_WaitsFault.f k l = some (wfv l) := by
  unfold impl_WaitsFault.f wfv
  by_cases hl : l.length > 40
  · rw [if_pos (by omega), if_pos hl]
  rw [if_neg (by omega), if_neg hl]
  refine loop_upc 2 (by omega) (fun k (_ : Unit) i => impl_WaitsFault.l0 k l (l.length : Int) i) l.length 10 (fun _ i => wffv (l.drop i)) (fun _ i => True) ?_ ?_ l.length k () 0 0 rfl (by omega) (by omega) trivial (by omega)
  · intro k _ _ hm
    rw [impl_WaitsFault.l0]
    rw [if_neg (by omega), List.drop_length]
    rfl
  · intro k _ i hi _ hm ih
    have e2 : wrap64 ((i : Int) + 1) = (i : Int) + 1 := w64 (by omega) (by omega)
    have hy : rd_T67 l (i : Int) = l[i] := by simp only [rd_T67, Int.toNat_natCast, getD_at _ _ _ hi]
    rw [impl_WaitsFault.l0]
    simp only [impl_WaitsFault_j1, e2, impl_in_at, Option.bind_some, decide_eq_true_eq]
    rw [if_pos (by omega), if_pos (by omega), if_pos (by omega), hy, drop_cons l i hi]
    have ih' := ih () trivial
    simp only [wffv]
    rw [show impl_WaitsFault.l0 k l (l.length : Int) ((i : Int) + 1) = _ from ih']
    generalize wffv (l.drop (i + 1)) = z
    unfold wof wtv
    simp only [bne_iff_ne, ne_eq]
    repeat' split
    all_goals first | rfl | (exfalso; omega) | (exfalso; simp_all; omega) | (exfalso; simp_all)
def lfv (g : S67 → Bool) (cv : S67 → S67) : List S67 → List S67
  | [] => []
  | c :: t => if g c = true then lfv g cv t else cv c :: lfv g cv t
def gnv (g : S67 → Bool) (cv : S67 → S67) : List S67 → List S67
  | [] => []
  | c :: t => if g c = true then cv c :: gnv g cv t else gnv g cv t
theorem lfv_cons (g : S67 → Bool) (cv : S67 → S67) (c : S67) (t : List S67) : lfv g cv (c :: t) = if g c = true then lfv g cv t else cv c :: lfv g cv t := rfl
theorem gnv_cons (g : S67 → Bool) (cv : S67 → S67) (c : S67) (t : List S67) : gnv g cv (c :: t) = if g c = true then cv c :: gnv g cv t else gnv g cv t := rfl
theorem split_len (g : S67 → Bool) (cv : S67 → S67) (l : List S67) : (lfv g cv l).length + (gnv g cv l).length = l.length := by
  induction l with
  | nil => rfl
  | cons c t ih =>
    rw [lfv_cons, gnv_cons]
    by_cases h : g c = true
    · rw [if_pos h, if_pos h]
      simp only [List.length_cons]
      omega
    · rw [if_neg h, if_neg h]
      simp only [List.length_cons]
      omega
theorem wfv_ok {l : List S67} (h : wfv l = 0) : l.length ≤ 40 := by
  unfold wfv at h
  split at h
  · omega
  · omega
def bbv (l : List S51) (a b c d e f g : Int) : Int × Int × Int × Int × Int × Bool := if vfv l = 0 then (if wtv a b c d e f g = 0 then (match l.find? (fun x => decide (x.f0 = c)) with | some x => if a = 3 ∧ x.f2 = 1 ∧ x.f1 = d then (0, x.f0, x.f1, 2, x.f3, true) else (0, x.f0, x.f1, x.f2, x.f3, false) | none => (4, 0, 0, 0, 0, false)) else (wtv a b c d e f g, 0, 0, 0, 0, false)) else (vfv l, 0, 0, 0, 0, false)
theorem spec_BuryBy_j0 (k : Nat) (t : Bool) (a b c d e : Int) (x : Bool) : spec_BuryBy.j0 (k + 1) t a b c d e x = some (if t = true then (a, b, c, 2, e, true) else (a, b, c, d, e, x)) := by
  rw [spec_BuryBy.j0]
  cases t <;> rfl
theorem spec_BuryBy_at (l : List S51) (a b c d e f g : Int) (k : Nat) (hk : 30 ≤ k) : spec_BuryBy.f k l a b c d e f g = some (bbv l a b c d e f g) := by
  obtain ⟨k, rfl⟩ : ∃ x, k = x + 1 := ⟨k - 1, by omega⟩
  unfold spec_BuryBy.f bbv
  rw [spec_ViewFault_at l (k + 1) (by omega)]
  simp only [Option.bind_some]
  by_cases h : vfv l = 0
  · rw [if_pos h, if_pos h, spec_l9WaitAt_at]
    simp only [Option.bind_some]
    by_cases hw : wtv a b c d e f g = 0
    · rw [if_pos hw, if_pos hw]
      rcases spec_l8Find_at l (by have := (vfv_ok h).1; omega) c (k + 1) (by omega) with ⟨i, hi, e1, e2⟩ | ⟨e1, e2⟩
      · have hy : rd_T51 l (i : Int) = l[i] := by simp only [rd_T51, Int.toNat_natCast, getD_at _ _ _ hi]
        rw [e1, e2]
        simp only [Option.bind_some]
        rw [if_neg (by omega), if_pos (by omega), if_pos (by omega), hy]
        simp only [spec_BuryBy_j0]
        by_cases h1 : a = 3
        · by_cases h2 : l[i].f2 = 1
          · by_cases h3 : l[i].f1 = d
            · simp [h1, h2, h3]
            · simp [h1, h2, h3]
          · simp [h1, h2]
        · simp [h1]
      · rw [e1, e2]
        simp
    · rw [if_neg hw, if_neg hw]
  · rw [if_neg h, if_neg h]
theorem impl_BuryBy_at (l : List S51) (a b c d e f g : Int) (k : Nat) (hk : 300 ≤ k) : impl_BuryBy.f k l a b c d e f g = some (bbv l a b c d e f g) := by
  obtain ⟨k, rfl⟩ : ∃ x, k = x + 1 := ⟨k - 1, by omega⟩
  unfold impl_BuryBy.f bbv
  rw [impl_ViewFault_at l (k + 1) (by omega)]
  simp only [Option.bind_some]
  by_cases h : vfv l = 0
  · have hw1 : wfv [(⟨a, b, c, d, e, f, g⟩ : S67)] = wtv a b c d e f g := by
      have e0 : wof (⟨a, b, c, d, e, f, g⟩ : S67) = wtv a b c d e f g := rfl
      show (if (1 : Nat) > 40 then (2 : Int) else if wof (⟨a, b, c, d, e, f, g⟩ : S67) = 0 then 0 else wof (⟨a, b, c, d, e, f, g⟩ : S67)) = _
      rw [if_neg (by omega), e0]
      by_cases h0 : wtv a b c d e f g = 0
      · rw [if_pos h0, h0]
      · rw [if_neg h0]
    rw [if_pos h, if_pos h, impl_WaitsFault_at _ _ (by omega), hw1]
    simp only [Option.bind_some, impl_BuryBy.j0]
    by_cases hw : wtv a b c d e f g = 0
    · rw [if_pos hw, if_pos hw, impl_claimOf_at l (by have := (vfv_ok h).1; omega) c k (by omega)]
      simp only [Option.bind_some]
      cases l.find? (fun x => decide (x.f0 = c)) with
      | some x =>
        by_cases h1 : a = 3
        · by_cases h2 : x.f2 = 1
          · by_cases h3 : x.f1 = d
            · simp [h1, h2, h3]
            · simp [h1, h2, h3]
          · simp [h1, h2]
        · simp [h1]
      | none => simp
    · rw [if_neg hw, if_neg hw]
  · rw [if_neg h, if_neg h]
    simp only [impl_BuryBy.j0]
    rw [if_neg h]
theorem drawFindClaim_at {code : List Int} (h : Bytes code) (k : Nat) (hk : 10 ≤ k) : ∃ l a, spec_DrawFindClaim.f k code = some (l, a) ∧ l.length ≤ 8 := by
  obtain ⟨l, q, e1, hl, hq, hq2⟩ := l8Bent_at h k 0 hk (by omega) (by omega)
  obtain ⟨x, e4, _⟩ := pick_at h q (by omega) [0, 1, 2, 3, 4, -1] (by decide) (by decide)
  unfold spec_DrawFindClaim.f spec_l1Source.f
  simp only [e1, e4, Option.bind_some]
  exact ⟨_, _, rfl, hl⟩
theorem l9Draw_at {code : List Int} (h : Bytes code) (p : Int) (hp : 0 ≤ p) (hp2 : p ≤ 900000) : ∃ a b c d e f g p', spec_l9Draw.f code p = some (a, b, c, d, e, f, g, p') ∧ p ≤ p' ∧ p' ≤ p + 10 := by
  obtain ⟨a, e1, _⟩ := pick_at h p (by omega) [1, 2, 3, 4] (by decide) (by decide)
  obtain ⟨b, e2, _⟩ := pick_at h (p + 1) (by omega) [0, 1, 2, 3] (by decide) (by decide)
  obtain ⟨c, e3, _⟩ := next_at h (p + 1 + 1) 4 (by omega) (by omega)
  obtain ⟨d, e4, _⟩ := next_at h (p + 1 + 1 + 1) 3 (by omega) (by omega)
  obtain ⟨e, e5, _⟩ := pick_at h (p + 1 + 1 + 1 + 1) (by omega) [1, 1, 2, 9] (by decide) (by decide)
  obtain ⟨f, e6, _⟩ := next_at h (p + 1 + 1 + 1 + 1 + 1) 4 (by omega) (by omega)
  obtain ⟨g, e7, _⟩ := pick_at h (p + 1 + 1 + 1 + 1 + 1 + 1) (by omega) [0, 7] (by decide) (by decide)
  unfold spec_l9Draw.f
  simp only [e1, e2, e3, e4, e5, e6, e7, Option.bind_some]
  by_cases ha : a = 4
  · rw [if_pos ha]
    exact ⟨_, _, _, _, _, _, _, _, rfl, by omega, by omega⟩
  · rw [if_neg ha]
    exact ⟨_, _, _, _, _, _, _, _, rfl, by omega, by omega⟩
def rbv (a b c d a' b' c' d' : Int) : Int × Int × Int × Int × Int × Bool := if cfv a b c d = 0 then (if cfv a' b' c' d' = 0 then (if a' = a then (if btv b' c' b c = true then (if b' ≥ 1000000 then (7, 0, 0, 0, 0, false) else (0, a, b' + 1, 0, d, true)) else (0, a, b, c, d, false)) else (1, 0, 0, 0, 0, false)) else (cfv a' b' c' d', 0, 0, 0, 0, false)) else (cfv a b c d, 0, 0, 0, 0, false)
theorem spec_RefuteBy_at (a b c d a' b' c' d' : Int) : spec_RefuteBy.f a b c d a' b' c' d' = some (rbv a b c d a' b' c' d') := by
  unfold spec_RefuteBy.f rbv
  simp only [spec_ClaimFault_at, Option.bind_some, spec_Beats_at]
  by_cases h1 : cfv a b c d = 0
  rotate_left
  · rw [if_neg h1, if_neg h1]
  by_cases h2 : cfv a' b' c' d' = 0
  rotate_left
  · rw [if_pos h1, if_pos h1, if_neg h2, if_neg h2]
  have o2 := cfv_ok h2
  rw [if_pos h1, if_pos h1, if_pos h2, if_pos h2, w64 (by omega) (by omega)]
  by_cases h3 : a' = a
  · rw [if_pos h3, if_pos h3]
    by_cases h4 : btv b' c' b c = true
    · rw [if_pos h4, if_pos h4]
      by_cases h5 : b' ≥ 1000000
      · rw [if_pos h5, if_pos h5]
      · rw [if_neg h5, if_neg h5]
    · rw [if_neg h4, if_neg h4]
  · rw [if_neg h3, if_neg h3]
theorem impl_RefuteBy_at (a b c d a' b' c' d' : Int) (k : Nat) (hk : 10 ≤ k) : impl_RefuteBy.f k a b c d a' b' c' d' = some (rbv a b c d a' b' c' d') := by
  obtain ⟨k, rfl⟩ : ∃ x, k = x + 10 := ⟨k - 10, by omega⟩
  unfold rbv
  simp only [impl_RefuteBy.f, impl_ClaimFault_at, Option.bind_some, impl_RefuteBy.j0, impl_RefuteBy.j1, impl_RefuteBy.j2, impl_RefuteBy.j3, impl_RefuteBy.j4, impl_Beats_at]
  by_cases h1 : cfv a b c d = 0
  rotate_left
  · simp [h1]
  by_cases h2 : cfv a' b' c' d' = 0
  rotate_left
  · simp [h1, h2]
  have o2 := cfv_ok h2
  by_cases h3 : a' = a
  rotate_left
  · have h3' : ¬ a = a' := fun h => h3 h.symm
    simp [h1, h2, h3, h3']
  subst h3
  cases h4 : btv b' c' b c
  · simp [h1, h2, h4]
  · by_cases h5 : b' = 1000000
    · subst h5
      simp [h1, h2, h4]
    · have h6 : ¬ 1000000 ≤ b' := by omega
      have e1 : wrap64 (b' + 1) = b' + 1 := w64 (by omega) (by omega)
      simp [h1, h2, h4, h5, h6, e1]
theorem drawCF_at {code : List Int} (h : Bytes code) : ∃ a b c d, spec_DrawClaimFault.f code = some (a, b, c, d) := by
  obtain ⟨a, b, c, d, e1, _⟩ := claim_at h 0 (by omega)
  obtain ⟨v, e2, _⟩ := next_at h (0 + 4) 9 (by omega) (by omega)
  obtain ⟨x0, f0, _⟩ := pick_at h (0 + 4 + 1) (by omega) [-1, 4] (by decide) (by decide)
  obtain ⟨x1, f1, _⟩ := pick_at h (0 + 4 + 1) (by omega) [-1, 1000001] (by decide) (by decide)
  obtain ⟨x2, f2, _⟩ := pick_at h (0 + 4 + 1) (by omega) [-1, 3] (by decide) (by decide)
  obtain ⟨x3, f3, _⟩ := pick_at h (0 + 4 + 1) (by omega) [-1, 10000000] (by decide) (by decide)
  unfold spec_DrawClaimFault.f spec_l1Source.f
  simp only [e1, e2, f0, f1, f2, f3, Option.bind_some]
  repeat' split
  all_goals exact ⟨_, _, _, _, rfl⟩
theorem drawRefuteBy_at {code : List Int} (h : Bytes code) (k : Nat) (hk : 10 ≤ k) : ∃ a b c d a' b' c' d', spec_DrawRefuteBy.f k code = some (a, b, c, d, a', b', c', d') := by
  obtain ⟨k, rfl⟩ : ∃ x, k = x + 1 := ⟨k - 1, by omega⟩
  obtain ⟨a, b, c, d, e1, _⟩ := claim_at h 0 (by omega)
  obtain ⟨a', b', c', d', e2, _⟩ := claim_at h (0 + 4) (by omega)
  obtain ⟨x, e3⟩ := chance_at h (0 + 4 + 4) 4 (by omega) (by omega)
  obtain ⟨y, e4⟩ := chance_at h (0 + 4 + 4 + 1) 9 (by omega) (by omega)
  obtain ⟨p, q, r, s, e5⟩ := drawCF_at h
  unfold spec_DrawRefuteBy.f spec_l1Source.f
  simp only [e1, e2, e3, Option.bind_some, spec_DrawRefuteBy.j0, e4, e5]
  repeat' split
  all_goals exact ⟨_, _, _, _, _, _, _, _, rfl⟩
theorem drawSuspectBy_at {code : List Int} (h : Bytes code) (k : Nat) (hk : 10 ≤ k) : ∃ l a, spec_DrawSuspectBy.f k code = some (l, a) ∧ l.length ≤ 8 := by
  obtain ⟨l, a, e, hl⟩ := drawFindClaim_at h k hk
  unfold spec_DrawSuspectBy.f
  simp only [e, Option.bind_some]
  exact ⟨l, a, rfl, hl⟩
theorem drawBuryBy_at {code : List Int} (h : Bytes code) (k : Nat) (hk : 20 ≤ k) : ∃ l a b c d e f g, spec_DrawBuryBy.f k code = some (l, a, b, c, d, e, f, g) ∧ l.length ≤ 8 := by
  obtain ⟨k, rfl⟩ : ∃ x, k = x + 1 := ⟨k - 1, by omega⟩
  obtain ⟨l, q, e1, hl, hq, hq2⟩ := l8Bent_at h (k + 1) 0 (by omega) (by omega) (by omega)
  obtain ⟨a, b, c, d, e, f, g, p, e2, hp, hp2⟩ := l9Draw_at h q (by omega) (by omega)
  obtain ⟨x, e3⟩ := chance_at h p 3 (by omega) (by omega)
  obtain ⟨y, e4⟩ := chance_at h p 14 (by omega) (by omega)
  obtain ⟨y', e5⟩ := chance_at h (p + 1) 14 (by omega) (by omega)
  obtain ⟨v, e6, v0, v1, v2⟩ := next_at h (p + 1) (l.length : Int) (by omega) (by omega)
  obtain ⟨z, e7⟩ := chance_at h (p + 1 + 1) 14 (by omega) (by omega)
  unfold spec_DrawBuryBy.f spec_l1Source.f
  simp only [e1, e2, e3, Option.bind_some, spec_DrawBuryBy.j0, e4, e5, e6, e7]
  by_cases h0 : (l.length : Int) > 0
  · rw [if_pos h0]
    have v3 := v1 (by omega)
    rw [if_pos v0, if_pos v3]
    repeat' split
    all_goals exact ⟨_, _, _, _, _, _, _, _, rfl, hl⟩
  · rw [if_neg h0, if_neg (by decide)]
    repeat' split
    all_goals exact ⟨_, _, _, _, _, _, _, _, rfl, hl⟩
theorem decides_j2 (a b c d a' b' c' d' : Int) (k : Nat) : laws_FnDecides.j2 (k + 1) false a b c d a' b' c' d' (rbv a b c d a' b' c' d').1 (rbv a b c d a' b' c' d').2.1 (rbv a b c d a' b' c' d').2.2.1 (rbv a b c d a' b' c' d').2.2.2.1 (rbv a b c d a' b' c' d').2.2.2.2.1 (rbv a b c d a' b' c' d').2.2.2.2.2 = some true := by
  simp only [laws_FnDecides.j2, impl_Beats_at, Option.bind_some]
  rw [if_neg (by decide)]
  by_cases h0 : (rbv a b c d a' b' c' d').1 = 0
  rotate_left
  · rw [if_neg h0]
  rw [if_pos h0]
  unfold rbv at h0 ⊢
  by_cases h1 : cfv a b c d = 0
  rotate_left
  · rw [if_neg h1] at h0
    exact absurd h0 h1
  by_cases h2 : cfv a' b' c' d' = 0
  rotate_left
  · rw [if_pos h1, if_neg h2] at h0
    exact absurd h0 h2
  rw [if_pos h1, if_pos h2] at h0 ⊢
  have o1 := cfv_ok h1
  have o2 := cfv_ok h2
  by_cases h3 : a' = a
  rotate_left
  · rw [if_neg h3] at h0
    exact absurd h0 (by decide)
  rw [if_pos h3] at h0 ⊢
  by_cases h4 : btv b' c' b c = true
  · rw [if_pos h4] at h0 ⊢
    by_cases h5 : b' ≥ 1000000
    · rw [if_pos h5] at h0
      exact absurd h0 (by decide)
    rw [if_neg h5]
    simp only
    have q1 : ¬ btv b' c' (b' + 1) 0 = true := by rw [btv_iff]; omega
    have q2 : btv (b' + 1) 0 b c = true := by rw [btv_iff] at h4 ⊢; omega
    have q3 : btv (b' + 1) 0 b' c' = true := by rw [btv_iff]; omega
    simp [q1, q2, q3]
  · rw [if_neg h4]
    simp only
    simp [h4]
theorem decides_j1 (l : List S51) (p q r s t u v a b c d a' b' c' d' : Int) (k : Nat) (hk : 50 ≤ k) : laws_FnDecides.j1 (k + 2) l false a b c d a' b' c' d' (rbv a b c d a' b' c' d').1 (rbv a b c d a' b' c' d').2.1 (rbv a b c d a' b' c' d').2.2.1 (rbv a b c d a' b' c' d').2.2.2.1 (rbv a b c d a' b' c' d').2.2.2.2.1 (rbv a b c d a' b' c' d').2.2.2.2.2 p q r s t u v (bbv l p q r s t u v).1 (bbv l p q r s t u v).2.1 (bbv l p q r s t u v).2.2.1 (bbv l p q r s t u v).2.2.2.1 (bbv l p q r s t u v).2.2.2.2.1 (bbv l p q r s t u v).2.2.2.2.2 = some true := by
  have hj := decides_j2 a b c d a' b' c' d' k
  rw [laws_FnDecides.j1]
  rw [if_neg (by decide), spec_FindClaim_at _ _ _ (by omega), hj]
  simp only [Option.bind_some, impl_Beats_at]
  by_cases h0 : (bbv l p q r s t u v).1 = 0
  rotate_left
  · rw [if_neg h0]
  rw [if_pos h0]
  by_cases h1 : (bbv l p q r s t u v).2.2.2.2.2 = true
  rotate_left
  · rw [if_neg h1]
  rw [if_pos h1]
  unfold bbv at h0 h1 ⊢
  unfold fcv
  by_cases g1 : vfv l = 0
  rotate_left
  · rw [if_neg g1] at h0
    exact absurd h0 g1
  rw [if_pos g1] at h0 h1 ⊢
  rw [if_pos g1]
  by_cases g2 : wtv p q r s t u v = 0
  rotate_left
  · rw [if_neg g2] at h0
    exact absurd h0 g2
  rw [if_pos g2] at h0 h1 ⊢
  cases hf : l.find? (fun x => decide (x.f0 = r)) with
  | none =>
    rw [hf] at h0
    simp at h0
  | some x =>
    rw [hf] at h0 h1
    by_cases g3 : p = 3 ∧ x.f2 = 1 ∧ x.f1 = s
    rotate_left
    · simp only [if_neg g3] at h1
      exact absurd h1 (by simp)
    simp only [if_pos g3]
    have hc : rd_T51 [x] 0 = x := rfl
    have q1 : btv x.f1 2 x.f1 x.f2 = true := by rw [btv_iff]; omega
    rw [if_pos g3.2.2, if_pos trivial, if_pos (by simp), hc, q1]
    exact hj
theorem decides_j0 (m : List S51) (n : Int) (l : List S51) (p q r s t u v a b c d a' b' c' d' : Int) (k : Nat) (hk : 50 ≤ k) : laws_FnDecides.j0 (k + 3) m n l false a b c d a' b' c' d' (rbv a b c d a' b' c' d').1 (rbv a b c d a' b' c' d').2.1 (rbv a b c d a' b' c' d').2.2.1 (rbv a b c d a' b' c' d').2.2.2.1 (rbv a b c d a' b' c' d').2.2.2.2.1 (rbv a b c d a' b' c' d').2.2.2.2.2 (sbv m n).1 (sbv m n).2.1 (sbv m n).2.2.1 (sbv m n).2.2.2.1 (sbv m n).2.2.2.2.1 (sbv m n).2.2.2.2.2 p q r s t u v (bbv l p q r s t u v).1 (bbv l p q r s t u v).2.1 (bbv l p q r s t u v).2.2.1 (bbv l p q r s t u v).2.2.2.1 (bbv l p q r s t u v).2.2.2.2.1 (bbv l p q r s t u v).2.2.2.2.2 = some true := by
  have hj := decides_j1 l p q r s t u v a b c d a' b' c' d' k hk
  rw [laws_FnDecides.j0]
  rw [if_neg (by decide), spec_FindClaim_at _ _ _ (by omega), hj]
  simp only [Option.bind_some, impl_Beats_at]
  by_cases h0 : (sbv m n).1 = 0
  rotate_left
  · rw [if_neg h0]
  rw [if_pos h0]
  by_cases h1 : (sbv m n).2.2.2.2.2 = true
  rotate_left
  · rw [if_neg h1]
  rw [if_pos h1]
  unfold sbv at h0 h1 ⊢
  unfold fcv
  by_cases g1 : vfv m = 0
  rotate_left
  · rw [if_neg g1] at h0
    exact absurd h0 g1
  rw [if_pos g1] at h0 h1 ⊢
  rw [if_pos g1]
  cases hf : m.find? (fun x => decide (x.f0 = n)) with
  | none =>
    rw [hf] at h0
    simp at h0
  | some x =>
    rw [hf] at h0 h1
    by_cases g3 : x.f2 = 0
    rotate_left
    · simp only [if_neg g3] at h1
      exact absurd h1 (by simp)
    simp only [if_pos g3]
    have hc : rd_T51 [x] 0 = x := rfl
    have q1 : btv x.f1 1 x.f1 x.f2 = true := by rw [btv_iff]; omega
    rw [if_pos (by simp), hc, if_pos q1, if_pos (by simp)]
    have e : (x.f1 != x.f1) = false := by simp
    rw [e]
    exact hj
end Go.Proofs.Ytpinapnhohjipaa.Pure
