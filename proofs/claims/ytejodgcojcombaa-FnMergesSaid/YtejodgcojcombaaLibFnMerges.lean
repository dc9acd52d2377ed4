/- What the printed functions of the law FnMerges answer, as plain Lean. -/
import Derived.Test.YtejodgcojcombaaStFnMerges
import Derived.Test.YtejodgcojcombaaBaFnMerges
namespace Go.Proofs.Ytejodgcojcombaa.Pure
open Go.RowKit Go.Proofs.Ytejodgcojcombaa.Open Go.Proofs.Ytejodgcojcombaa.Base Go.Proofs.Ytejodgcojcombaa.MFnMerges Go.Proofs.YtejodgcojcombaaW.PrintWords Go.Proofs.YtejodgcojcombaaW.PrintLast Go.Proofs.YtejodgcojcombaaW.PrintMore
set_option linter.unusedVariables false
set_option linter.unusedSimpArgs false
theorem impl_in_at (a b c : Int) : impl_in.f a b c = some (decide (b ≤ a ∧ a ≤ c)) := by
  unfold impl_in.f
  by_cases h : a ≥ b
  · rw [if_pos h]
    have h' : b ≤ a := h
    simp [h']
  · rw [if_neg h]
    have h' : ¬ b ≤ a := h
    simp [h']
theorem spec_in_at (a b c : Int) : spec_l1In.f a b c = some (decide (b ≤ a ∧ a ≤ c)) := by
  unfold spec_l1In.f
  by_cases h : a ≥ b
  · rw [if_pos h]
    have h' : b ≤ a := h
    simp [h']
  · rw [if_neg h]
    have h' : ¬ b ≤ a := h
    simp [h']
def cfv (a b c d : Int) : Int := if (0 ≤ a ∧ a ≤ 3) ∧ (0 ≤ b ∧ b ≤ 1000000) ∧ (0 ≤ c ∧ c ≤ 2) ∧ (0 ≤ d ∧ d ≤ 9999999) then 0 else 3
theorem cfv_or (a b c d : Int) : cfv a b c d = 0 ∨ cfv a b c d = 3 := by
  unfold cfv
  split
  · exact .inl rfl
  · exact .inr rfl
theorem cfv_ok {a b c d : Int} (h : cfv a b c d = 0) : (0 ≤ a ∧ a ≤ 3) ∧ (0 ≤ b ∧ b ≤ 1000000) ∧ (0 ≤ c ∧ c ≤ 2) ∧ (0 ≤ d ∧ d ≤ 9999999) := by
  unfold cfv at h
  split at h
  · assumption
  · omega
theorem impl_ClaimFault_at (a b c d : Int) : impl_ClaimFault.f a b c d = some (cfv a b c d) := by
  simp only [impl_ClaimFault.f, impl_isNode.f, impl_isStatus.f, impl_in_at, Option.bind_some, decide_eq_true_eq]
  unfold cfv
  repeat' split
  all_goals first | rfl | (exfalso; omega)
theorem spec_ClaimFault_at (a b c d : Int) : spec_ClaimFault.f a b c d = some (cfv a b c d) := by
  simp only [spec_ClaimFault.f, spec_in_at, Option.bind_some, decide_eq_true_eq]
  unfold cfv
  repeat' split
  all_goals first | rfl | (exfalso; omega)
def btv (b c b' c' : Int) : Bool := decide (b > b') || (decide (b = b') && decide (c > c'))
theorem impl_Beats_at (a b c d a' b' c' d' : Int) : impl_Beats.f a b c d a' b' c' d' = some (btv b c b' c') := by
  simp only [impl_Beats.f, btv]
  by_cases h : b > b'
  · rw [if_pos h]
    simp [h]
  · rw [if_neg h]
    by_cases h2 : b = b'
    · rw [if_pos h2]
      simp [h2]
    · rw [if_neg h2]
      simp [h, h2]
theorem spec_Beats_at (a b c d a' b' c' d' : Int) : spec_Beats.f a b c d a' b' c' d' = some (btv b c b' c') := by
  simp only [spec_Beats.f, btv]
  by_cases h : b > b'
  · rw [if_pos h]
    simp [h]
  · rw [if_neg h]
    by_cases h2 : b = b'
    · rw [if_pos h2]
      simp [h2]
    · rw [if_neg h2]
      simp [h, h2]
theorem btv_iff (b c b' c' : Int) : btv b c b' c' = true ↔ b > b' ∨ (b = b' ∧ c > c') := by simp [btv]
def okv (c : S31) : Bool := decide (cfv c.f0 c.f1 c.f2 c.f3 = 0)
def ascv : List S31 → Bool
  | [] => true
  | [_] => true
  | x :: y :: t => decide (x.f0 < y.f0) && ascv (y :: t)
def vfv (l : List S31) : Int := if l.length > 4 then 2 else if l.all okv then (if ascv l then 0 else 1) else 3
theorem ascv_drop (l : List S31) (i : Nat) (h1 : 1 ≤ i) (h : i < l.length) : ascv (l.drop (i - 1)) = (decide ((l[i - 1]).f0 < l[i].f0) && ascv (l.drop i)) := by
  have e : i - 1 + 1 = i := by omega
  rw [drop_cons l (i - 1) (by omega)]
  simp only [e]
  rw [drop_cons l i h]
  rfl
theorem ascv_last (l : List S31) (h : 0 < l.length) : ascv (l.drop (l.length - 1)) = true := by
  have e : l.length - 1 + 1 = l.length := by omega
  rw [drop_cons l (l.length - 1) (by omega)]
  simp only [e]
  rw [List.drop_length]
  rfl
theorem spec_ViewFault_l1 (l : List S31) (hl : l.length ≤ 4) (k : Nat) (hk : 10 ≤ k) : spec_ViewFault.l1 k l 1 = some (if ascv l then 0 else 1) := by
  by_cases h0 : l.length = 0
  · obtain ⟨k, rfl⟩ : ∃ m, k = m + 1 := ⟨k - 1, by omega⟩
    rw [List.eq_nil_of_length_eq_zero h0]
    rfl
  refine loop_up (fun k (_ : Unit) i => spec_ViewFault.l1 k l i) l.length 0 (fun _ i => if ascv (l.drop (i - 1)) then 0 else 1) (fun _ i => 1 ≤ i) ?_ ?_ k () 1 1 rfl (by omega) (by omega) (by omega)
  · intro k _ _ _
    simp only [spec_ViewFault.l1]
    rw [if_neg (by omega), ascv_last l (by omega), if_pos rfl]
  · intro k _ i hi h1 _ ih
    have e1 : wrap64 ((i : Int) - 1) = ((i - 1 : Nat) : Int) := by rw [w64 (by omega) (by omega)]; omega
    have e2 : wrap64 ((i : Int) + 1) = (i : Int) + 1 := w64 (by omega) (by omega)
    have hx : rd_T31 l ((i - 1 : Nat) : Int) = l[i - 1] := by simp only [rd_T31, Int.toNat_natCast, getD_at _ _ _ (show i - 1 < l.length by omega)]
    have hy : rd_T31 l (i : Int) = l[i] := by simp only [rd_T31, Int.toNat_natCast, getD_at _ _ _ hi]
    simp only [spec_ViewFault.l1, e1, e2]
    rw [if_pos (by omega), if_pos (by omega), if_pos (by omega), if_pos (by omega), hx, hy, ascv_drop l i h1 hi]
    by_cases h : l[i].f0 ≤ l[i - 1].f0
    · rw [if_pos h, decide_eq_false (by omega), Bool.false_and]
      rfl
    · rw [if_neg h, decide_eq_true (by omega), Bool.true_and]
      exact ih () (by omega)
theorem impl_ViewFault_l1 (l : List S31) (hl : l.length ≤ 4) (k : Nat) (hk : 10 ≤ k) : impl_ViewFault.l1 k l 1 = some (if ascv l then 0 else 1) := by
  by_cases h0 : l.length = 0
  · obtain ⟨k, rfl⟩ : ∃ m, k = m + 1 := ⟨k - 1, by omega⟩
    rw [List.eq_nil_of_length_eq_zero h0]
    rfl
  refine loop_up (fun k (_ : Unit) i => impl_ViewFault.l1 k l i) l.length 0 (fun _ i => if ascv (l.drop (i - 1)) then 0 else 1) (fun _ i => 1 ≤ i) ?_ ?_ k () 1 1 rfl (by omega) (by omega) (by omega)
  · intro k _ _ _
    simp only [impl_ViewFault.l1]
    rw [if_neg (by omega), ascv_last l (by omega), if_pos rfl]
  · intro k _ i hi h1 _ ih
    have e1 : wrap64 ((i : Int) - 1) = ((i - 1 : Nat) : Int) := by rw [w64 (by omega) (by omega)]; omega
    have e2 : wrap64 ((i : Int) + 1) = (i : Int) + 1 := w64 (by omega) (by omega)
    have hx : rd_T31 l ((i - 1 : Nat) : Int) = l[i - 1] := by simp only [rd_T31, Int.toNat_natCast, getD_at _ _ _ (show i - 1 < l.length by omega)]
    have hy : rd_T31 l (i : Int) = l[i] := by simp only [rd_T31, Int.toNat_natCast, getD_at _ _ _ hi]
    simp only [impl_ViewFault.l1, e1, e2]
    rw [if_pos (by omega), if_pos (by omega), if_pos (by omega), if_pos (by omega), hx, hy, ascv_drop l i h1 hi]
    by_cases h : l[i - 1].f0 ≥ l[i].f0
    · rw [if_pos h, decide_eq_false (by omega), Bool.false_and]
      rfl
    · rw [if_neg h, decide_eq_true (by omega), Bool.true_and]
      exact ih () (by omega)
theorem okv_cases (c : S31) : (okv c = true ∧ cfv c.f0 c.f1 c.f2 c.f3 = 0) ∨ (okv c = false ∧ cfv c.f0 c.f1 c.f2 c.f3 = 3) := by
  rcases cfv_or c.f0 c.f1 c.f2 c.f3 with h | h
  · exact .inl ⟨by simp [okv, h], h⟩
  · exact .inr ⟨by simp [okv, h], h⟩
theorem spec_ViewFault_at (l : List S31) (k : Nat) (hk : 20 ≤ k) : spec_ViewFault.f k l = some (vfv l) := by
  unfold spec_ViewFault.f vfv
  by_cases hl : l.length > 4
  · rw [if_pos (by omega), if_pos hl]
  rw [if_neg (by omega), if_neg hl]
  refine loop_up (fun k (_ : Unit) i => spec_ViewFault.l0 k l i) l.length 10 (fun _ i => if (l.drop i).all okv then (if ascv l then 0 else 1) else 3) (fun _ i => True) ?_ ?_ k () 0 0 rfl (by omega) trivial (by omega)
  · intro k _ _ hm
    simp only [spec_ViewFault.l0]
    rw [if_neg (by omega), spec_ViewFault_l1 l (by omega) k (by omega), List.drop_length]
    rfl
  · intro k _ i hi _ _ ih
    have e2 : wrap64 ((i : Int) + 1) = (i : Int) + 1 := w64 (by omega) (by omega)
    have hy : rd_T31 l (i : Int) = l[i] := by simp only [rd_T31, Int.toNat_natCast, getD_at _ _ _ hi]
    simp only [spec_ViewFault.l0, e2, spec_ClaimFault_at, Option.bind_some]
    rw [if_pos (by omega), if_pos (by omega), hy, drop_cons l i hi, List.all_cons]
    rcases okv_cases l[i] with ⟨h, h'⟩ | ⟨h, h'⟩
    · rw [h, h', if_pos rfl, Bool.true_and]
      exact ih () trivial
    · rw [h, h', if_neg (by omega), Bool.false_and]
      rfl
theorem impl_ViewFault_at (l : List S31) (k : Nat) (hk : 20 ≤ k) : impl_ViewFault.f k l = some (vfv l) := by
  unfold impl_ViewFault.f vfv
  by_cases hl : l.length > 4
  · rw [if_pos (by omega), if_pos hl]
  rw [if_neg (by omega), if_neg hl]
  refine loop_up (fun k (_ : Unit) i => impl_ViewFault.l0 k l l (l.length : Int) i) l.length 10 (fun _ i => if (l.drop i).all okv then (if ascv l then 0 else 1) else 3) (fun _ i => True) ?_ ?_ k () 0 0 rfl (by omega) trivial (by omega)
  · intro k _ _ hm
    simp only [impl_ViewFault.l0]
    rw [if_neg (by omega), impl_ViewFault_l1 l (by omega) k (by omega), List.drop_length]
    rfl
  · intro k _ i hi _ _ ih
    have e2 : wrap64 ((i : Int) + 1) = (i : Int) + 1 := w64 (by omega) (by omega)
    have hy : rd_T31 l (i : Int) = l[i] := by simp only [rd_T31, Int.toNat_natCast, getD_at _ _ _ hi]
    simp only [impl_ViewFault.l0, e2, impl_ClaimFault_at, Option.bind_some]
    rw [if_pos (by omega), if_pos (by omega), if_pos (by omega), hy, drop_cons l i hi, List.all_cons]
    rcases okv_cases l[i] with ⟨h, h'⟩ | ⟨h, h'⟩
    · rw [h, h', if_pos rfl, Bool.true_and]
      exact ih () trivial
    · rw [h, h', if_neg (by omega), Bool.false_and]
      rfl
theorem vfv_ok {l : List S31} (h : vfv l = 0) : l.length ≤ 4 ∧ l.all okv = true ∧ ascv l = true := by
  unfold vfv at h
  split at h
  · omega
  · split at h
    · split at h
      · exact ⟨by omega, by assumption, by assumption⟩
      · omega
    · omega
theorem vfv_le {l : List S31} (h : ¬ vfv l = 0) : True := trivial
theorem tmod_in (a n : Int) (ha : 0 ≤ a) (hn : 0 < n) : 0 ≤ Int.tmod a n ∧ Int.tmod a n < n := ⟨Int.tmod_nonneg n ha, Int.tmod_lt_of_pos a hn⟩
def Bytes (code : List Int) : Prop := code.length ≤ 1048576 ∧ ∀ x ∈ code, 0 ≤ x ∧ x ≤ 255
theorem bytes_of {code : List Int} (hl : code.length ≤ 1048576) (h : ∀ x ∈ code, (Lit.int .u8 x).wf = true) : Bytes code := by
  refine ⟨hl, fun x hx => ?_⟩
  have h2 : (decide ((IntKind.u8).min ≤ x) && decide (x ≤ (IntKind.u8).max)) = true := h x hx
  rw [Bool.and_eq_true, decide_eq_true_eq, decide_eq_true_eq] at h2
  have e1 : (IntKind.u8).min = 0 := by decide
  have e2 : (IntKind.u8).max = 255 := by decide
  rw [e1, e2] at h2
  exact h2
theorem byte_in {code : List Int} (h : Bytes code) (i : Int) (h0 : 0 ≤ i) (h1 : i < code.length) : 0 ≤ rd code i ∧ rd code i ≤ 255 := by
  have e : rd code i = code[i.toNat]'(by omega) := by
    simp only [rd, List.getD_eq_getElem?_getD]
    rw [List.getElem?_eq_getElem (by omega)]
    rfl
  rw [e]
  exact h.2 _ (List.getElem_mem _)
theorem next_at {code : List Int} (h : Bytes code) (p n : Int) (hp : 0 ≤ p ∧ p ≤ 1000000) (hn : n ≤ 1000000000) : ∃ v, spec_l1Next.f code p n = some (v, p + 1) ∧ 0 ≤ v ∧ (1 ≤ n → v < n) ∧ (n < 1 → v = 0) := by
  have hl := h.1
  unfold spec_l1Next.f
  have e0 : wrap64 (p + 1) = p + 1 := w64 (by omega) (by omega)
  have e1 : wrap64 (p + 1 - 1) = p := by rw [w64 (by omega) (by omega)]; omega
  have e2 : wrap64 (p + 2) = p + 2 := w64 (by omega) (by omega)
  simp only [e0, e1, e2]
  by_cases hn1 : n < 1
  · rw [if_pos hn1]
    exact ⟨0, rfl, by omega, by omega, fun _ => rfl⟩
  rw [if_neg hn1]
  by_cases hz : (code.length : Int) = 0
  · rw [if_pos hz, if_neg (by omega), w64 (x := p * 7) (by omega) (by omega)]
    exact ⟨_, rfl, (tmod_in _ _ (by omega) (by omega)).1, fun _ => (tmod_in _ _ (by omega) (by omega)).2, by omega⟩
  rw [if_neg hz]
  have hL : 0 < (code.length : Int) := by omega
  have j0 := tmod_in p _ hp.1 hL
  have j1 := tmod_in (p + 1) _ (by omega) hL
  have j2 := tmod_in (p + 2) _ (by omega) hL
  have b0 := byte_in h _ j0.1 j0.2
  have b1 := byte_in h _ j1.1 j1.2
  have b2 := byte_in h _ j2.1 j2.2
  have q0 : 0 ≤ Int.tdiv p (code.length : Int) := Int.tdiv_nonneg hp.1 (by omega)
  have q1 : Int.tdiv p (code.length : Int) ≤ p := Int.tdiv_le_self _ hp.1
  generalize Int.tdiv p (code.length : Int) = q at *
  generalize rd code (Int.tmod p (code.length : Int)) = c0 at *
  generalize rd code (Int.tmod (p + 1) (code.length : Int)) = c1 at *
  generalize rd code (Int.tmod (p + 2) (code.length : Int)) = c2 at *
  rw [if_pos j0.1, if_pos j0.2]
  by_cases h2 : n > 200
  · rw [if_pos h2, if_pos j1.1, if_pos j1.2]
    by_cases h6 : n > 60000
    · rw [if_pos h6, if_pos j2.1, if_pos j2.2, if_neg (by omega)]
      simp (disch := omega) only [w64]
      exact ⟨_, rfl, (tmod_in _ _ (by omega) (by omega)).1, fun _ => (tmod_in _ _ (by omega) (by omega)).2, by omega⟩
    · rw [if_neg h6, if_neg (by omega)]
      simp (disch := omega) only [w64]
      exact ⟨_, rfl, (tmod_in _ _ (by omega) (by omega)).1, fun _ => (tmod_in _ _ (by omega) (by omega)).2, by omega⟩
  · rw [if_neg h2, if_neg (by omega), if_neg (by omega)]
    simp (disch := omega) only [w64]
    exact ⟨_, rfl, (tmod_in _ _ (by omega) (by omega)).1, fun _ => (tmod_in _ _ (by omega) (by omega)).2, by omega⟩
theorem lwBig_at (l : List Int) : laws_lwBig.f l = some (decide ((l.length : Int) > 1048576)) := rfl
theorem pick_at {code : List Int} (h : Bytes code) (p : Int) (hp : 0 ≤ p ∧ p ≤ 1000000) (l : List Int) (hl : 0 < l.length) (hm : l.length ≤ 1000000) : ∃ v, spec_l1Pick.f code p l = some (v, p + 1) ∧ v ∈ l := by
  obtain ⟨i, e, h0, h1, _⟩ := next_at h p (l.length : Int) hp (by omega)
  have h2 := h1 (by omega)
  unfold spec_l1Pick.f
  rw [e]
  simp only [Option.bind_some]
  rw [if_pos h0, if_pos h2]
  refine ⟨_, rfl, ?_⟩
  have e : rd l i = l[i.toNat]'(by omega) := by
    simp only [rd, List.getD_eq_getElem?_getD]
    rw [List.getElem?_eq_getElem (by omega)]
    rfl
  rw [e]
  exact List.getElem_mem _
theorem chance_at {code : List Int} (h : Bytes code) (p n : Int) (hp : 0 ≤ p ∧ p ≤ 1000000) (hn : n ≤ 1000000000) : ∃ b, spec_l1Chance.f code p n = some (b, p + 1) := by
  obtain ⟨v, e, _⟩ := next_at h p n hp hn
  unfold spec_l1Chance.f
  rw [e]
  exact ⟨_, rfl⟩
theorem claim_at {code : List Int} (h : Bytes code) (p : Int) (hp : 0 ≤ p ∧ p ≤ 999990) : ∃ a b c d, spec_l7Claim.f code p = some (a, b, c, d, p + 4) ∧ (0 ≤ a ∧ a ≤ 3) ∧ (0 ≤ b ∧ b ≤ 1000000) ∧ (0 ≤ c ∧ c ≤ 2) ∧ (0 ≤ d ∧ d ≤ 9999999) := by
  obtain ⟨a, e1, a0, a1, _⟩ := next_at h p 4 (by omega) (by omega)
  obtain ⟨b, e2, b1⟩ := pick_at h (p + 1) (by omega) [0, 1, 2, 3, 1000000] (by decide) (by decide)
  obtain ⟨c, e3, c0, c1, _⟩ := next_at h (p + 1 + 1) 3 (by omega) (by omega)
  obtain ⟨d, e4, d1⟩ := pick_at h (p + 1 + 1 + 1) (by omega) [0, 80, 65616, 9999999] (by decide) (by decide)
  unfold spec_l7Claim.f
  rw [e1]
  simp only [Option.bind_some]
  rw [e2]
  simp only [Option.bind_some]
  rw [e3]
  simp only [Option.bind_some]
  rw [e4]
  simp only [Option.bind_some]
  have a2 := a1 (by omega)
  have c2 := c1 (by omega)
  simp only [List.mem_cons, List.not_mem_nil, or_false] at b1 d1
  have e5 : p + 1 + 1 + 1 + 1 = p + 4 := by omega
  rw [e5]
  exact ⟨a, b, c, d, rfl, by omega, by omega, by omega, by omega⟩
theorem drawClaimFault_at {code : List Int} (h : Bytes code) : ∃ a b c d, spec_DrawClaimFault.f code = some (a, b, c, d) := by
  obtain ⟨a, b, c, d, e1, _⟩ := claim_at h 0 (by omega)
  obtain ⟨v, e2, _⟩ := next_at h (0 + 4) 9 (by omega) (by omega)
  obtain ⟨p1, f1, _⟩ := pick_at h (0 + 4 + 1) (by omega) [-1, 4] (by decide) (by decide)
  obtain ⟨p2, f2, _⟩ := pick_at h (0 + 4 + 1) (by omega) [-1, 1000001] (by decide) (by decide)
  obtain ⟨p3, f3, _⟩ := pick_at h (0 + 4 + 1) (by omega) [-1, 3] (by decide) (by decide)
  obtain ⟨p4, f4, _⟩ := pick_at h (0 + 4 + 1) (by omega) [-1, 10000000] (by decide) (by decide)
  unfold spec_DrawClaimFault.f spec_l1Source.f
  simp only [Option.bind_some, e1, e2, f1, f2, f3, f4]
  repeat' split
  all_goals exact ⟨_, _, _, _, rfl⟩
theorem impl_claimOf_at (l : List S31) (hl : l.length ≤ 10) (a : Int) (k : Nat) (hk : 20 ≤ k) : impl_claimOf.f k l a = some (match l.find? (fun c => decide (c.f0 = a)) with | some c => (c.f0, c.f1, c.f2, c.f3, true) | none => (0, 0, 0, 0, false)) := by
  unfold impl_claimOf.f
  refine loop_up (fun k (_ : Unit) i => impl_claimOf.l0 k a l (l.length : Int) i) l.length 0 (fun _ i => match (l.drop i).find? (fun c => decide (c.f0 = a)) with | some c => (c.f0, c.f1, c.f2, c.f3, true) | none => (0, 0, 0, 0, false)) (fun _ i => True) ?_ ?_ k () 0 0 rfl (by omega) trivial (by omega)
  · intro k _ _ _
    simp only [impl_claimOf.l0]
    rw [if_neg (by omega), List.drop_length]
    rfl
  · intro k _ i hi _ _ ih
    have e2 : wrap64 ((i : Int) + 1) = (i : Int) + 1 := w64 (by omega) (by omega)
    have hy : rd_T31 l (i : Int) = l[i] := by simp only [rd_T31, Int.toNat_natCast, getD_at _ _ _ hi]
    simp only [impl_claimOf.l0, e2]
    rw [if_pos (by omega), if_pos (by omega), if_pos (by omega), hy, drop_cons l i hi]
    by_cases h : l[i].f0 = a
    · rw [if_pos h, List.find?_cons_of_pos (by simpa using h)]
    · rw [if_neg h, List.find?_cons_of_neg (by simpa using h)]
      exact ih () trivial
def posv (a : Int) : List S31 → Nat → Int
  | [], _ => -1
  | c :: t, i => if c.f0 = a then (i : Int) else posv a t (i + 1)
theorem posv_find (a : Int) (l : List S31) (i : Nat) : (∃ (j : Nat) (h : j < l.length), posv a l i = ((i + j : Nat) : Int) ∧ l.find? (fun c => decide (c.f0 = a)) = some l[j]) ∨ (posv a l i = -1 ∧ l.find? (fun c => decide (c.f0 = a)) = none) := by
  induction l generalizing i with
  | nil => exact .inr ⟨rfl, rfl⟩
  | cons c t ih =>
    by_cases h : c.f0 = a
    · exact .inl ⟨0, by simp, by simp [posv, h], by rw [List.find?_cons_of_pos (by simpa using h)]; rfl⟩
    · rw [List.find?_cons_of_neg (by simpa using h)]
      have e : posv a (c :: t) i = posv a t (i + 1) := by simp [posv, h]
      rw [e]
      rcases ih (i + 1) with ⟨j, hj, e1, e2⟩ | ⟨e1, e2⟩
      · exact .inl ⟨j + 1, by simp; omega, by rw [e1]; omega, e2⟩
      · exact .inr ⟨e1, e2⟩
theorem spec_l8Find_at (l : List S31) (hl : l.length ≤ 10) (a : Int) (k : Nat) (hk : 20 ≤ k) : (∃ (i : Nat) (h : i < l.length), spec_l8Find.f k l a = some (i : Int) ∧ l.find? (fun c => decide (c.f0 = a)) = some l[i]) ∨ (spec_l8Find.f k l a = some (-1) ∧ l.find? (fun c => decide (c.f0 = a)) = none) := by
  have e : spec_l8Find.f k l a = some (posv a l 0) := by
    unfold spec_l8Find.f
    refine loop_up (fun k (_ : Unit) i => spec_l8Find.l0 k l a i) l.length 0 (fun _ i => posv a (l.drop i) i) (fun _ i => True) ?_ ?_ k () 0 0 rfl (by omega) trivial (by omega)
    · intro k _ _ _
      simp only [spec_l8Find.l0]
      rw [if_neg (by omega), List.drop_length]
      rfl
    · intro k _ i hi _ _ ih
      have e2 : wrap64 ((i : Int) + 1) = (i : Int) + 1 := w64 (by omega) (by omega)
      have hy : rd_T31 l (i : Int) = l[i] := by simp only [rd_T31, Int.toNat_natCast, getD_at _ _ _ hi]
      simp only [spec_l8Find.l0, e2]
      rw [if_pos (by omega), if_pos (by omega), hy, drop_cons l i hi]
      by_cases h : l[i].f0 = a
      · simp [posv, h]
      · rw [if_neg h, ih () trivial]
        simp [posv, h]
  rcases posv_find a l 0 with ⟨j, hj, e1, e2⟩ | ⟨e1, e2⟩
  · exact .inl ⟨j, hj, by rw [e, e1]; simp, e2⟩
  · exact .inr ⟨by rw [e, e1], e2⟩
def fcv (l : List S31) (a : Int) : Int × List S31 × Bool := if vfv l = 0 then (match l.find? (fun c => decide (c.f0 = a)) with | some c => (0, [c], false) | none => (4, [], false)) else (vfv l, [], false)
theorem fcv_len (l : List S31) (a : Int) : (fcv l a).2.1.length ≤ 1 := by
  unfold fcv
  split
  · split <;> simp
  · simp
theorem impl_FindClaim_at (l : List S31) (a : Int) (k : Nat) (hk : 20 ≤ k) : impl_FindClaim.f k l a = some (fcv l a) := by
  unfold impl_FindClaim.f fcv
  rw [impl_ViewFault_at l k hk]
  simp only [Option.bind_some]
  by_cases h : vfv l = 0
  · rw [if_pos h, if_pos h, impl_claimOf_at l (by have := (vfv_ok h).1; omega) a k hk]
    simp only [Option.bind_some]
    cases l.find? (fun c => decide (c.f0 = a)) <;> simp
  · rw [if_neg h, if_neg h]
def sameC (x y : S31) : Bool := (x.f0 == y.f0) && ((x.f1 == y.f1) && ((x.f2 == y.f2) && (x.f3 == y.f3)))
theorem sameC_not (x y : S31) : (!(x.f0 == y.f0) || (!(x.f1 == y.f1) || (!(x.f2 == y.f2) || (!(x.f3 == y.f3))))) = !sameC x y := by
  simp only [sameC, Bool.not_and]
def overv (a : List S31) (c : S31) : Bool := match a.find? (fun x => decide (x.f0 = c.f0)) with | some o => sameC o c || btv o.f1 o.f2 c.f1 c.f2 | none => false
def iav (a b : List S31) : Bool := if vfv a = 0 then (if vfv b = 0 then b.all (overv a) else false) else false
theorem spec_IsAbove_l0 (a b : List S31) (ha : a.length ≤ 10) (hb : b.length ≤ 10) (k : Nat) (hk : 60 ≤ k) : spec_IsAbove.l0 k a b 0 = some (b.all (overv a)) := by
  refine loop_up (fun k (_ : Unit) i => spec_IsAbove.l0 k a b i) b.length 30 (fun s i => (b.drop i).all (overv a)) (fun s i => True) ?_ ?_ k () 0 0 rfl (by omega) trivial (by omega)
  · intro k s _ _
    simp only [spec_IsAbove.l0]
    rw [if_neg (by omega), List.drop_length]
    rfl
  · intro k s i hi _ hm ih
    have e2 : wrap64 ((i : Int) + 1) = (i : Int) + 1 := w64 (by omega) (by omega)
    have hy : rd_T31 b (i : Int) = b[i] := by simp only [rd_T31, Int.toNat_natCast, getD_at _ _ _ hi]
    simp only [spec_IsAbove.l0, e2, spec_Beats_at, Option.bind_some]
    rw [if_pos (by omega), if_pos (by omega), hy, drop_cons b i hi, List.all_cons, ih () trivial]
    rcases spec_l8Find_at a ha b[i].f0 k (by omega) with ⟨j, hj, e1, e3⟩ | ⟨e1, e3⟩
    · have hx : rd_T31 a (j : Int) = a[j] := by simp only [rd_T31, Int.toNat_natCast, getD_at _ _ _ hj]
      rw [e1]
      simp only [Option.bind_some]
      rw [if_neg (by omega), if_pos (by omega), if_pos (by omega), hx, sameC_not]
      have ho : overv a b[i] = (sameC a[j] b[i] || btv a[j].f1 a[j].f2 b[i].f1 b[i].f2) := by unfold overv; rw [e3]
      rw [ho]
      cases sameC a[j] b[i] <;> cases btv a[j].f1 a[j].f2 b[i].f1 b[i].f2 <;> simp
    · have ho : overv a b[i] = false := by unfold overv; rw [e3]
      rw [e1, ho]
      simp
theorem impl_IsAbove_l0 (a b : List S31) (ha : a.length ≤ 10) (hb : b.length ≤ 10) (k : Nat) (hk : 60 ≤ k) : impl_IsAbove.l0 k a b (b.length : Int) 0 = some (b.all (overv a)) := by
  refine loop_up (fun k (_ : Unit) i => impl_IsAbove.l0 k a b (b.length : Int) i) b.length 30 (fun s i => (b.drop i).all (overv a)) (fun s i => True) ?_ ?_ k () 0 0 rfl (by omega) trivial (by omega)
  · intro k s _ _
    simp only [impl_IsAbove.l0]
    rw [if_neg (by omega), List.drop_length]
    rfl
  · intro k s i hi _ hm ih
    have e2 : wrap64 ((i : Int) + 1) = (i : Int) + 1 := w64 (by omega) (by omega)
    have hy : rd_T31 b (i : Int) = b[i] := by simp only [rd_T31, Int.toNat_natCast, getD_at _ _ _ hi]
    simp only [impl_IsAbove.l0, e2, impl_Beats_at, Option.bind_some]
    rw [if_pos (by omega), if_pos (by omega), if_pos (by omega), hy, drop_cons b i hi, List.all_cons, ih () trivial, impl_claimOf_at a ha b[i].f0 k (by omega)]
    cases e3 : a.find? (fun c => decide (c.f0 = b[i].f0)) with
    | some o =>
      simp only [Option.bind_some, if_true]
      rw [sameC_not]
      have ho : overv a b[i] = (sameC o b[i] || btv o.f1 o.f2 b[i].f1 b[i].f2) := by unfold overv; rw [e3]
      rw [ho]
      cases sameC o b[i] <;> cases btv o.f1 o.f2 b[i].f1 b[i].f2 <;> simp
    | none =>
      have ho : overv a b[i] = false := by unfold overv; rw [e3]
      rw [ho]
      simp
theorem spec_IsAbove_at (a b : List S31) (k : Nat) (hk : 80 ≤ k) : spec_IsAbove.f k a b = some (iav a b) := by
  obtain ⟨k, rfl⟩ : ∃ x, k = x + 1 := ⟨k - 1, by omega⟩
  unfold spec_IsAbove.f iav
  rw [spec_ViewFault_at a _ (by omega), spec_ViewFault_at b _ (by omega)]
  simp only [Option.bind_some, spec_IsAbove.j0]
  by_cases h : vfv a = 0
  rotate_left
  · simp [h]
  by_cases h2 : vfv b = 0
  rotate_left
  · simp [h, h2]
  rw [spec_IsAbove_l0 a b (by have := (vfv_ok h).1; omega) (by have := (vfv_ok h2).1; omega) k (by omega)]
  simp [h, h2]
theorem impl_IsAbove_at (a b : List S31) (k : Nat) (hk : 80 ≤ k) : impl_IsAbove.f k a b = some (iav a b) := by
  obtain ⟨k, rfl⟩ : ∃ x, k = x + 1 := ⟨k - 1, by omega⟩
  unfold impl_IsAbove.f iav
  rw [impl_ViewFault_at a _ (by omega), impl_ViewFault_at b _ (by omega)]
  simp only [Option.bind_some, impl_IsAbove.j0]
  by_cases h : vfv a = 0
  rotate_left
  · simp [h]
  by_cases h2 : vfv b = 0
  rotate_left
  · simp [h, h2]
  rw [impl_IsAbove_l0 a b (by have := (vfv_ok h).1; omega) (by have := (vfv_ok h2).1; omega) k (by omega)]
  simp [h, h2]
theorem l8Draw_l0 {code : List Int} (h : Bytes code) (d : Nat) : ∀ (k : Nat) (l : List S31) (i p : Int), i = 4 - (d : Int) → 0 ≤ i → d < k → (l.length : Int) ≤ i → 0 ≤ p → p + 10 * d ≤ 900000 →
    ∃ l' p', spec_l8Draw.l0 k l i code p = some (l', p') ∧ l'.length ≤ 4 ∧ p ≤ p' ∧ p' ≤ p + 5 * d := by
  induction d with
  | zero =>
    intro k l i p hi h0 hk hl hp hp2
    obtain ⟨k, rfl⟩ : ∃ m, k = m + 1 := ⟨k - 1, by omega⟩
    simp only [spec_l8Draw.l0]
    rw [if_neg (by omega)]
    exact ⟨l, p, rfl, by omega, by omega, by omega⟩
  | succ d ih =>
    intro k l i p hi h0 hk hl hp hp2
    obtain ⟨k, rfl⟩ : ∃ m, k = m + 1 := ⟨k - 1, by omega⟩
    have e2 : wrap64 (i + 1) = i + 1 := w64 (by omega) (by omega)
    obtain ⟨b, e1⟩ := chance_at h p 4 (by omega) (by omega)
    obtain ⟨a, b', c, x, e3, _⟩ := claim_at h (p + 1) (by omega)
    simp only [spec_l8Draw.l0, e2]
    rw [if_pos (by omega), e1]
    simp only [Option.bind_some]
    cases b with
    | true =>
      rw [if_pos rfl]
      obtain ⟨l', p', f1, f2, f3, f4⟩ := ih k l (i + 1) (p + 1) (by omega) (by omega) (by omega) (by omega) (by omega) (by omega)
      exact ⟨l', p', f1, f2, by omega, by omega⟩
    | false =>
      rw [if_neg (by decide), e3]
      simp only [Option.bind_some]
      rw [if_pos (by omega)]
      obtain ⟨l', p', f1, f2, f3, f4⟩ := ih k (l ++ [⟨i, b', c, x⟩]) (i + 1) (p + 1 + 4) (by omega) (by omega) (by omega) (by simp; omega) (by omega) (by omega)
      exact ⟨l', p', f1, f2, by omega, by omega⟩
theorem l8Draw_at {code : List Int} (h : Bytes code) (k : Nat) (p : Int) (hk : 10 ≤ k) (hp : 0 ≤ p) (hp2 : p ≤ 800000) : ∃ l p', spec_l8Draw.f k code p = some (l, p') ∧ l.length ≤ 4 ∧ p ≤ p' ∧ p' ≤ p + 20 := by
  obtain ⟨l, p', f1, f2, f3, f4⟩ := l8Draw_l0 h 4 k [] 0 p (by omega) (by omega) (by omega) (by simp) hp (by omega)
  exact ⟨l, p', f1, f2, f3, by omega⟩
theorem l8Bent_at {code : List Int} (h : Bytes code) (k : Nat) (p : Int) (hk : 10 ≤ k) (hp : 0 ≤ p) (hp2 : p ≤ 700000) : ∃ l p', spec_l8Bent.f k code p = some (l, p') ∧ l.length ≤ 8 ∧ p ≤ p' ∧ p' ≤ p + 30 := by
  obtain ⟨l, q, e1, hl, hq, hq2⟩ := l8Draw_at h k p hk hp (by omega)
  obtain ⟨v, e2, _⟩ := next_at h q 14 (by omega) (by omega)
  obtain ⟨a, b, c, d, e3, _⟩ := claim_at h (q + 1) (by omega)
  obtain ⟨x, e4, _⟩ := pick_at h (q + 1) (by omega) [3, 4] (by decide) (by decide)
  obtain ⟨y, e5, _⟩ := pick_at h (q + 1) (by omega) [3, -1, 2] (by decide) (by decide)
  unfold spec_l8Bent.f
  simp only [e1, e2, e3, e4, e5, Option.bind_some]
  rw [if_pos (show l.length < 4398046511104 by omega), if_pos (show l.length < 4398046511104 by omega), if_pos (show l.length + l.length < 4398046511104 by omega)]
  repeat' split
  all_goals first | exact ⟨_, _, rfl, by omega, by omega, by omega⟩ | exact ⟨_, _, rfl, by simp; omega, by omega, by omega⟩ | (exfalso; omega)
theorem spec_l8Copy_at (l : List S31) (hl : l.length ≤ 1000000) : spec_l8Copy.f l = some l := by
  unfold spec_l8Copy.f
  simp only [Option.bind_some, List.length_nil, List.nil_append]
  rw [if_pos (by omega)]
def insv (c : S31) : List S31 → List S31 × Bool
  | [] => ([c], true)
  | x :: t => if x.f0 < c.f0 then (x :: (insv c t).1, (insv c t).2) else if x.f0 = c.f0 then (if btv c.f1 c.f2 x.f1 x.f2 then (c :: t, true) else (x :: t, false)) else (c :: x :: t, true)
theorem insv_len (c : S31) (l : List S31) : (insv c l).1.length ≤ l.length + 1 := by
  induction l with
  | nil => simp [insv]
  | cons x t ih =>
    rw [insv]
    split
    · simp only [List.length_cons]; omega
    · split
      · split <;> simp
      · simp
def mcv (l : List S31) (c : S31) : Int × List S31 × Bool := if vfv l = 0 then (if cfv c.f0 c.f1 c.f2 c.f3 = 0 then (0, insv c l) else (cfv c.f0 c.f1 c.f2 c.f3, [], false)) else (vfv l, [], false)
theorem mcv_len (l : List S31) (c : S31) : (mcv l c).2.1.length ≤ 5 := by
  unfold mcv
  split
  · rename_i h
    have := insv_len c l
    have := (vfv_ok h).1
    split
    · show (insv c l).1.length ≤ 5; omega
    · simp
  · simp
theorem insert_at (l : List S31) (c : S31) (i : Nat) (hi : i ≤ l.length) (hl : l.length ≤ 1000) : impl_Claim_33.f l (i : Int) [c] = some (l.take i ++ [c] ++ l.drop i) := by
  unfold impl_Claim_33.f
  rw [if_pos (by omega), if_pos (by omega), if_pos (show ([c] : List S31).length = 1 from rfl), if_pos (by omega), Int.toNat_natCast]
theorem set_at (l : List S31) (c : S31) (i : Nat) (h : i < l.length) : l.set i c = l.take i ++ c :: l.drop (i + 1) := by
  rw [List.set_eq_take_append_cons_drop, if_pos h]
theorem impl_MergeClaim_l0 (c : S31) (l : List S31) (hl : l.length ≤ 100) (cc : Int) (b : Bool) (m : Nat) : ∀ (k i : Nat), l.length - i = m → i ≤ l.length → m + 5 ≤ k → impl_MergeClaim.l0 k l (i : Int) c.f0 c.f1 c.f2 c.f3 cc l b = some (cc, l.take i ++ (insv c (l.drop i)).1, (insv c (l.drop i)).2 || (b && !(insv c (l.drop i)).2)) := by
  induction m with
  | zero =>
    intro k i hm hi hk
    obtain ⟨k, rfl⟩ : ∃ z, k = z + 3 := ⟨k - 3, by omega⟩
    obtain rfl : i = l.length := by omega
    rw [impl_MergeClaim.l0, if_neg (by omega), impl_MergeClaim.j2, if_pos rfl, impl_MergeClaim.j3, if_pos rfl, insert_at l ⟨c.f0, c.f1, c.f2, c.f3⟩ _ (by omega) (by omega), Option.bind_some, List.drop_length]
    simp [insv]
  | succ m ih =>
    intro k i hm hi hk
    obtain ⟨k, rfl⟩ : ∃ z, k = z + 3 := ⟨k - 3, by omega⟩
    have hlt : i < l.length := by omega
    have hy : rd_T31 l (i : Int) = l[i] := by simp only [rd_T31, Int.toNat_natCast, getD_at _ _ _ hlt]
    rw [impl_MergeClaim.l0, if_pos (by omega), if_pos (by omega), hy, drop_cons l i hlt, insv]
    by_cases h1 : l[i].f0 < c.f0
    · rw [if_pos h1, if_pos h1, w64 (by omega) (by omega)]
      have e := ih (k + 2) (i + 1) (by omega) (by omega) (by omega)
      have e2 : ((i + 1 : Nat) : Int) = (i : Int) + 1 := by omega
      rw [e2] at e
      have e4 : ∀ X, l.take (i+1) ++ X = l.take i ++ l[i] :: X := fun X => by rw [List.take_succ_eq_append_getElem hlt, List.append_assoc]; rfl
      rw [e, e4]
    · rw [if_neg h1, if_neg h1, impl_MergeClaim.j2, if_neg (by omega), if_pos (by omega), if_pos (by omega), hy]
      by_cases h2 : l[i].f0 = c.f0
      · rw [if_pos h2]
        have e : (l[i].f0 != c.f0) = false := by simp [h2]
        rw [e, impl_MergeClaim.j3, if_neg (by decide), if_pos (by omega), if_pos (by omega), hy, impl_Beats_at]
        simp only [Option.bind_some]
        by_cases h3 : btv c.f1 c.f2 l[i].f1 l[i].f2 = true
        · rw [if_pos h3, if_pos h3, if_pos (by omega), Int.toNat_natCast, set_at _ _ _ hlt]
          simp
        · rw [if_neg h3, if_neg h3]
          have e4 : l.take i ++ l[i] :: l.drop (i + 1) = l := by rw [← drop_cons l i hlt, List.take_append_drop]
          simp only [e4]
          simp
      · rw [if_neg h2]
        have e : (l[i].f0 != c.f0) = true := by simp [h2]
        rw [e, impl_MergeClaim.j3, if_pos rfl, insert_at l ⟨c.f0, c.f1, c.f2, c.f3⟩ _ (by omega) (by omega), Option.bind_some, drop_cons l i hlt]
        simp
theorem impl_MergeClaim_at (l : List S31) (c : S31) (k : Nat) (hk : 60 ≤ k) : impl_MergeClaim.f k l c.f0 c.f1 c.f2 c.f3 = some (mcv l c) := by
  obtain ⟨k, rfl⟩ : ∃ z, k = z + 1 := ⟨k - 1, by omega⟩
  unfold impl_MergeClaim.f mcv
  rw [impl_ViewFault_at l _ (by omega)]
  simp only [Option.bind_some]
  by_cases h : vfv l = 0
  · have h4 := (vfv_ok h).1
    rw [if_pos h, if_pos h, impl_ClaimFault_at]
    simp only [Option.bind_some]
    rw [impl_MergeClaim.j0]
    by_cases h2 : cfv c.f0 c.f1 c.f2 c.f3 = 0
    · rw [if_pos h2, if_pos h2]
      unfold impl_Claim_32.f
      rw [if_pos (by omega), Option.bind_some]
      have e := impl_MergeClaim_l0 c l (by omega) 0 false _ k 0 rfl (by omega) (by omega)
      rw [show ((0 : Nat) : Int) = 0 from rfl] at e
      rw [e]
      simp
    · rw [if_neg h2, if_neg h2]
  · rw [if_neg h, if_neg h, impl_MergeClaim.j0, if_neg h]
theorem asc_head {x : S31} {t : List S31} (h : ascv (x :: t) = true) : ascv t = true ∧ ∀ y ∈ t, x.f0 < y.f0 := by
  induction t generalizing x with
  | nil => exact ⟨rfl, by simp⟩
  | cons y r ih =>
    have h' : (decide (x.f0 < y.f0) && ascv (y :: r)) = true := h
    rw [Bool.and_eq_true, decide_eq_true_eq] at h'
    obtain ⟨h1, h2⟩ := h'
    refine ⟨h2, fun z hz => ?_⟩
    rcases List.mem_cons.1 hz with rfl | hz
    · exact h1
    · have := (ih h2).2 z hz
      omega
theorem insv_found (c : S31) (l : List S31) (h : ascv l = true) : ∀ (i : Nat) (hi : i < l.length), l[i].f0 = c.f0 → insv c l = if btv c.f1 c.f2 l[i].f1 l[i].f2 then (l.set i c, true) else (l, false) := by
  induction l with
  | nil => intro i hi; simp at hi
  | cons x t ih =>
    intro i hi he
    obtain ⟨h1, h2⟩ := asc_head h
    rw [insv]
    cases i with
    | zero =>
      simp only [List.getElem_cons_zero] at he ⊢
      rw [if_neg (by omega), if_pos he]
      simp
    | succ i =>
      simp only [List.getElem_cons_succ] at he ⊢
      have hi' : i < t.length := by simpa using hi
      have := h2 _ (List.getElem_mem hi')
      rw [if_pos (by omega), ih h1 i hi' he]
      split <;> simp
theorem insv_new (c : S31) (l : List S31) (h : ∀ x ∈ l, x.f0 ≠ c.f0) : insv c l = (l.takeWhile (fun x => decide (x.f0 < c.f0)) ++ c :: l.dropWhile (fun x => decide (x.f0 < c.f0)), true) := by
  induction l with
  | nil => rfl
  | cons x t ih =>
    have hx := h x (by simp)
    rw [insv]
    by_cases h1 : x.f0 < c.f0
    · rw [if_pos h1, ih (fun y hy => h y (by simp [hy])), List.takeWhile_cons_of_pos (by simpa using h1), List.dropWhile_cons_of_pos (by simpa using h1)]
      rfl
    · rw [if_neg h1, if_neg hx, List.takeWhile_cons_of_neg (by simpa using h1), List.dropWhile_cons_of_neg (by simpa using h1)]
      rfl
theorem l8Merge_done (c : S31) (l : List S31) (hl : l.length ≤ 100) (m : Nat) : ∀ (k i : Nat) (s : List S31), l.length - i = m → i ≤ l.length → m + 2 ≤ k → s.length ≤ 1000 + i → spec_l8Merge.l0 k l s true (i : Int) c.f0 c.f1 c.f2 c.f3 = some (s ++ l.drop i, true) := by
  induction m with
  | zero =>
    intro k i s hm hi hk hs
    obtain ⟨k, rfl⟩ : ∃ z, k = z + 1 := ⟨k - 1, by omega⟩
    obtain rfl : i = l.length := by omega
    rw [spec_l8Merge.l0, if_neg (by omega), if_pos rfl, List.drop_length, List.append_nil]
  | succ m ih =>
    intro k i s hm hi hk hs
    obtain ⟨k, rfl⟩ : ∃ z, k = z + 1 := ⟨k - 1, by omega⟩
    have hlt : i < l.length := by omega
    have hy : rd_T31 l (i : Int) = l[i] := by simp only [rd_T31, Int.toNat_natCast, getD_at _ _ _ hlt]
    rw [spec_l8Merge.l0, if_pos (by omega), if_pos rfl, if_pos (by omega), if_pos (by omega), hy, w64 (by omega) (by omega)]
    have e := ih k (i + 1) (s ++ [l[i]]) (by omega) (by omega) (by omega) (by rw [List.length_append, List.length_singleton]; omega)
    have e2 : ((i + 1 : Nat) : Int) = (i : Int) + 1 := by omega
    rw [e2] at e
    rw [drop_cons l i hlt]
    refine Eq.trans e ?_
    rw [List.append_assoc]
    rfl
theorem l8Merge_new (c : S31) (l : List S31) (hl : l.length ≤ 100) (hne : ∀ x ∈ l, x.f0 ≠ c.f0) (m : Nat) : ∀ (k i : Nat) (s : List S31), l.length - i = m → i ≤ l.length → m + 2 ≤ k → s.length ≤ i → spec_l8Merge.l0 k l s false (i : Int) c.f0 c.f1 c.f2 c.f3 = some (s ++ (insv c (l.drop i)).1, true) := by
  induction m with
  | zero =>
    intro k i s hm hi hk hs
    obtain ⟨k, rfl⟩ : ∃ z, k = z + 1 := ⟨k - 1, by omega⟩
    obtain rfl : i = l.length := by omega
    rw [spec_l8Merge.l0, if_neg (by omega), if_neg (by decide), if_pos (by omega), List.drop_length]
    rfl
  | succ m ih =>
    intro k i s hm hi hk hs
    obtain ⟨k, rfl⟩ : ∃ z, k = z + 1 := ⟨k - 1, by omega⟩
    have hlt : i < l.length := by omega
    have hy : rd_T31 l (i : Int) = l[i] := by simp only [rd_T31, Int.toNat_natCast, getD_at _ _ _ hlt]
    have hn := hne l[i] (List.getElem_mem hlt)
    have e2 : ((i + 1 : Nat) : Int) = (i : Int) + 1 := by omega
    rw [spec_l8Merge.l0, if_pos (by omega), if_neg (by decide), if_pos (by omega), hy, w64 (by omega) (by omega), drop_cons l i hlt, insv]
    by_cases h1 : l[i].f0 > c.f0
    · rw [if_pos h1, if_pos (by omega), if_neg (by omega), if_neg (by omega)]
      simp only [Option.bind_some]
      rw [if_pos (by rw [List.length_append, List.length_singleton]; omega)]
      have e := l8Merge_done c l hl _ k (i + 1) (s ++ [c] ++ [l[i]]) rfl (by omega) (by omega) (by simp; omega)
      rw [e2] at e
      refine Eq.trans e ?_
      simp
    · rw [if_neg h1, if_pos (by omega), if_pos (show l[i].f0 < c.f0 by omega)]
      have e := ih k (i + 1) (s ++ [l[i]]) (by omega) (by omega) (by omega) (by rw [List.length_append, List.length_singleton]; omega)
      rw [e2] at e
      refine Eq.trans e ?_
      rw [List.append_assoc]
      rfl
theorem spec_l8Merge_at (l : List S31) (c : S31) (h4 : l.length ≤ 4) (ha : ascv l = true) (k : Nat) (hk : 60 ≤ k) : spec_l8Merge.f k l c.f0 c.f1 c.f2 c.f3 = some (insv c l) := by
  unfold spec_l8Merge.f spec_l8Copy.f
  rcases spec_l8Find_at l (by omega) c.f0 k (by omega) with ⟨i, hi, e1, e2⟩ | ⟨e1, e2⟩
  · have hf : l[i].f0 = c.f0 := by
      have := List.find?_some e2
      simpa using this
    have hy : rd_T31 l (i : Int) = l[i] := by simp only [rd_T31, Int.toNat_natCast, getD_at _ _ _ hi]
    rw [e1]
    simp only [Option.bind_some]
    rw [if_pos (by omega), if_pos (by simp; omega)]
    simp only [Option.bind_some, List.nil_append]
    rw [if_pos (by omega), if_pos (by omega), hy, spec_Beats_at, insv_found c l ha i hi hf]
    simp only [Option.bind_some]
    by_cases h3 : btv c.f1 c.f2 l[i].f1 l[i].f2 = true
    · rw [if_pos h3, if_pos h3, if_pos (by omega), Int.toNat_natCast]
    · rw [if_neg h3, if_neg h3]
  · rw [e1]
    simp only [Option.bind_some]
    rw [if_neg (by omega)]
    have hne : ∀ x ∈ l, x.f0 ≠ c.f0 := by
      intro x hx hxe
      have := List.find?_eq_none.1 e2 x hx
      exact this (by simpa using hxe)
    have e := l8Merge_new c l (by omega) hne _ k 0 [] rfl (by omega) (by omega) (by simp)
    rw [show ((0 : Nat) : Int) = 0 from rfl] at e
    rw [e, List.drop_zero, List.nil_append, insv_new c l hne]
theorem spec_MergeClaim_at (l : List S31) (c : S31) (k : Nat) (hk : 60 ≤ k) : spec_MergeClaim.f k l c.f0 c.f1 c.f2 c.f3 = some (mcv l c) := by
  unfold spec_MergeClaim.f mcv
  rw [spec_ViewFault_at l _ (by omega)]
  simp only [Option.bind_some]
  by_cases h : vfv l = 0
  · obtain ⟨h4, _, ha⟩ := vfv_ok h
    rw [if_pos h, if_pos h, spec_ClaimFault_at]
    simp only [Option.bind_some]
    by_cases h2 : cfv c.f0 c.f1 c.f2 c.f3 = 0
    · rw [if_pos h2, if_pos h2, spec_l8Merge_at l c h4 ha k hk]
      rfl
    · rw [if_neg h2, if_neg h2]
  · rw [if_neg h, if_neg h]
def mfold : List S31 → List S31 → Bool → List S31 × Bool
  | [], s, b => (s, b)
  | c :: t, s, b => mfold t (insv c s).1 (b || (insv c s).2)
theorem okv_eq (c : S31) : okv c = true ↔ cfv c.f0 c.f1 c.f2 c.f3 = 0 := by
  unfold okv
  rw [decide_eq_true_eq]
theorem asc_len : ∀ (l : List S31) (a : Int), ascv l = true → (∀ x ∈ l, a ≤ x.f0 ∧ x.f0 ≤ 3) → (l.length : Int) ≤ 4 - a ∨ l = []
  | [], _, _, _ => .inr rfl
  | x :: t, a, h, hb => by
    obtain ⟨h1, h2⟩ := asc_head h
    have hx := hb x (by simp)
    rcases asc_len t (x.f0 + 1) h1 (fun y hy => ⟨by have := h2 y hy; omega, (hb y (by simp [hy])).2⟩) with h3 | rfl
    · exact .inl (by rw [List.length_cons]; omega)
    · exact .inl (by simp; omega)
theorem asc_cons {x : S31} {t : List S31} (h : ascv t = true) (h2 : ∀ y ∈ t, x.f0 < y.f0) : ascv (x :: t) = true := by
  cases t with
  | nil => rfl
  | cons y r =>
    show (decide (x.f0 < y.f0) && ascv (y :: r)) = true
    rw [Bool.and_eq_true, decide_eq_true_eq]
    exact ⟨h2 y (by simp), h⟩
theorem insv_mem (c : S31) (l : List S31) : ∀ y ∈ (insv c l).1, y = c ∨ y ∈ l := by
  induction l with
  | nil =>
    intro y hy
    exact .inl (by simpa [insv] using hy)
  | cons x t ih =>
    intro y hy
    rw [insv] at hy
    split at hy
    · rcases List.mem_cons.1 hy with rfl | hy
      · exact .inr (by simp)
      · rcases ih y hy with h | h
        · exact .inl h
        · exact .inr (by simp [h])
    · split at hy
      · split at hy
        · rcases List.mem_cons.1 hy with rfl | hy
          · exact .inl rfl
          · exact .inr (by simp [hy])
        · exact .inr hy
      · rcases List.mem_cons.1 hy with rfl | hy
        · exact .inl rfl
        · exact .inr hy
theorem insv_asc (c : S31) (l : List S31) (h : ascv l = true) : ascv (insv c l).1 = true := by
  induction l with
  | nil => rfl
  | cons x t ih =>
    obtain ⟨h1, h2⟩ := asc_head h
    rw [insv]
    split
    · rename_i h3
      refine asc_cons (ih h1) (fun y hy => ?_)
      rcases insv_mem c t y hy with rfl | hy
      · exact h3
      · exact h2 y hy
    · rename_i h3
      split
      · rename_i h4
        split
        · exact asc_cons h1 (fun y hy => by have := h2 y hy; omega)
        · exact h
      · rename_i h4
        refine asc_cons h (fun y hy => ?_)
        rcases List.mem_cons.1 hy with rfl | hy
        · omega
        · have := h2 y hy
          omega
theorem vfv_intro {l : List S31} (h1 : l.all okv = true) (h2 : ascv l = true) : vfv l = 0 := by
  have h3 : l.length ≤ 4 := by
    have hb : ∀ x ∈ l, 0 ≤ x.f0 ∧ x.f0 ≤ 3 := fun x hx => (cfv_ok ((okv_eq x).1 (List.all_eq_true.1 h1 x hx))).1
    rcases asc_len l 0 h2 hb with h | rfl
    · omega
    · simp
  unfold vfv
  rw [if_neg (by omega), if_pos h1, if_pos h2]
theorem insv_view (c : S31) (l : List S31) (hc : okv c = true) (h : vfv l = 0) : vfv (insv c l).1 = 0 := by
  obtain ⟨_, h1, h2⟩ := vfv_ok h
  refine vfv_intro (List.all_eq_true.2 fun y hy => ?_) (insv_asc c l h2)
  rcases insv_mem c l y hy with rfl | hy
  · exact hc
  · exact List.all_eq_true.1 h1 y hy
theorem mfold_view (l : List S31) (hl : l.all okv = true) : ∀ (s : List S31) (b : Bool), vfv s = 0 → vfv (mfold l s b).1 = 0 := by
  induction l with
  | nil => exact fun s b h => h
  | cons c t ih =>
    intro s b h
    rw [List.all_cons, Bool.and_eq_true] at hl
    exact ih hl.2 _ _ (insv_view c s hl.1 h)
def mvv (l m : List S31) : Int × List S31 × Bool := if vfv l = 0 then (if vfv m = 0 then (0, mfold m l false) else (vfv m, [], false)) else (vfv l, [], false)
theorem mvv_len (l m : List S31) : (mvv l m).2.1.length ≤ 5 := by
  unfold mvv
  split
  · rename_i h
    split
    · rename_i h2
      have := (vfv_ok (mfold_view m (vfv_ok h2).2.1 l false h)).1
      show (mfold m l false).1.length ≤ 5
      omega
    · simp
  · simp
theorem spec_MergeViews_l0 (l : List S31) (hl : l.length ≤ 4) (ho : l.all okv = true) (cc : Int) (m : Nat) : ∀ (k i : Nat) (s : List S31) (b : Bool), l.length - i = m → i ≤ l.length → m + 70 ≤ k → vfv s = 0 → spec_MergeViews.l0 k l (i : Int) cc s b = some (cc, mfold (l.drop i) s b) := by
  induction m with
  | zero =>
    intro k i s b hm hi hk hs
    obtain ⟨k, rfl⟩ : ∃ z, k = z + 1 := ⟨k - 1, by omega⟩
    obtain rfl : i = l.length := by omega
    rw [spec_MergeViews.l0, if_neg (by omega), List.drop_length]
    rfl
  | succ m ih =>
    intro k i s b hm hi hk hs
    obtain ⟨k, rfl⟩ : ∃ z, k = z + 1 := ⟨k - 1, by omega⟩
    have hlt : i < l.length := by omega
    have hy : rd_T31 l (i : Int) = l[i] := by simp only [rd_T31, Int.toNat_natCast, getD_at _ _ _ hlt]
    have e2 : ((i + 1 : Nat) : Int) = (i : Int) + 1 := by omega
    rw [spec_MergeViews.l0, if_pos (by omega), if_pos (by omega), hy, spec_l8Merge_at s l[i] (vfv_ok hs).1 (vfv_ok hs).2.2 k (by omega), drop_cons l i hlt, mfold, w64 (by omega) (by omega), ← e2]
    simp only [Option.bind_some]
    have hv := insv_view l[i] s (List.all_eq_true.1 ho _ (List.getElem_mem hlt)) hs
    rw [ih k (i + 1) _ true (by omega) (by omega) (by omega) hv, ih k (i + 1) _ (insv l[i] s).2 (by omega) (by omega) (by omega) hv]
    cases b <;> simp
theorem impl_MergeViews_l0 (l : List S31) (hl : l.length ≤ 4) (ho : l.all okv = true) (cc : Int) (m : Nat) : ∀ (k i : Nat) (s : List S31) (b : Bool), l.length - i = m → i ≤ l.length → m + 70 ≤ k → vfv s = 0 → impl_MergeViews.l0 k l (l.length : Int) (i : Int) cc s b = some (cc, mfold (l.drop i) s b) := by
  induction m with
  | zero =>
    intro k i s b hm hi hk hs
    obtain ⟨k, rfl⟩ : ∃ z, k = z + 1 := ⟨k - 1, by omega⟩
    obtain rfl : i = l.length := by omega
    rw [impl_MergeViews.l0, if_neg (by omega), List.drop_length]
    rfl
  | succ m ih =>
    intro k i s b hm hi hk hs
    obtain ⟨k, rfl⟩ : ∃ z, k = z + 1 := ⟨k - 1, by omega⟩
    have hlt : i < l.length := by omega
    have hy : rd_T31 l (i : Int) = l[i] := by simp only [rd_T31, Int.toNat_natCast, getD_at _ _ _ hlt]
    have e2 : ((i + 1 : Nat) : Int) = (i : Int) + 1 := by omega
    have ho' := List.all_eq_true.1 ho _ (List.getElem_mem hlt)
    have em : mcv s l[i] = (0, insv l[i] s) := by
      unfold mcv
      rw [if_pos hs, if_pos ((okv_eq _).1 ho')]
    rw [impl_MergeViews.l0, if_pos (by omega), if_pos (by omega), if_pos (by omega), hy, impl_MergeClaim_at s l[i] k (by omega), em, drop_cons l i hlt, mfold, w64 (by omega) (by omega), ← e2]
    simp only [Option.bind_some]
    have hv := insv_view l[i] s ho' hs
    rw [ih k (i + 1) _ true (by omega) (by omega) (by omega) hv, ih k (i + 1) _ (insv l[i] s).2 (by omega) (by omega) (by omega) hv]
    cases b <;> simp
theorem spec_MergeViews_at (l m : List S31) (k : Nat) (hk : 100 ≤ k) : spec_MergeViews.f k l m = some (mvv l m) := by
  unfold spec_MergeViews.f mvv spec_l8Copy.f
  rw [spec_ViewFault_at l _ (by omega)]
  simp only [Option.bind_some]
  by_cases h : vfv l = 0
  · rw [if_pos h, if_pos h, spec_ViewFault_at m _ (by omega)]
    simp only [Option.bind_some]
    by_cases h2 : vfv m = 0
    · have h4 := (vfv_ok h).1
      have h5 := (vfv_ok h2).1
      rw [if_pos h2, if_pos h2, if_pos (by simp; omega)]
      simp only [Option.bind_some, List.nil_append]
      have e := spec_MergeViews_l0 m h5 (vfv_ok h2).2.1 0 _ k 0 l false rfl (by omega) (by omega) h
      rw [show ((0 : Nat) : Int) = 0 from rfl] at e
      rw [e, List.drop_zero]
    · rw [if_neg h2, if_neg h2]
  · rw [if_neg h, if_neg h]
theorem impl_MergeViews_at (l m : List S31) (k : Nat) (hk : 100 ≤ k) : impl_MergeViews.f k l m = some (mvv l m) := by
  obtain ⟨k, rfl⟩ : ∃ z, k = z + 1 := ⟨k - 1, by omega⟩
  unfold impl_MergeViews.f mvv
  rw [impl_ViewFault_at l _ (by omega)]
  simp only [Option.bind_some]
  by_cases h : vfv l = 0
  · rw [if_pos h, if_pos h, impl_ViewFault_at m _ (by omega)]
    simp only [Option.bind_some]
    rw [impl_MergeViews.j0]
    by_cases h2 : vfv m = 0
    · have h4 := (vfv_ok h).1
      have h5 := (vfv_ok h2).1
      rw [if_pos h2, if_pos h2]
      unfold impl_Claim_32.f
      rw [if_pos (by omega), Option.bind_some]
      have e := impl_MergeViews_l0 m h5 (vfv_ok h2).2.1 0 _ k 0 l false rfl (by omega) (by omega) h
      rw [show ((0 : Nat) : Int) = 0 from rfl] at e
      rw [e, List.drop_zero]
    · rw [if_neg h2, if_neg h2]
  · rw [if_neg h, if_neg h, impl_MergeViews.j0, if_neg h]
instance instDecC : DecidableEq S31 := fun x y => if h : x.f0 = y.f0 ∧ x.f1 = y.f1 ∧ x.f2 = y.f2 ∧ x.f3 = y.f3 then isTrue (by cases x; cases y; obtain ⟨h0, h1, h2, h3⟩ := h; simp only at h0 h1 h2 h3; subst h0 h1 h2 h3; rfl) else isFalse (fun e => h (e ▸ ⟨rfl, rfl, rfl, rfl⟩))
theorem eqC_bool (x y : S31) : (!(x.f0 == y.f0) || (!(x.f1 == y.f1) || (!(x.f2 == y.f2) || (!(x.f3 == y.f3))))) = !decide (x = y) := by
  cases x
  cases y
  rw [Bool.eq_iff_iff]
  simp
theorem equalC_at (a b : List S31) (hl : a.length ≤ 1000000) (k : Nat) (hk : a.length < k) : impl_Claim_45.f k a b = some (decide (a = b)) := by
  unfold impl_Claim_45.f
  by_cases hn : a.length = b.length
  rotate_left
  · rw [if_neg (by omega), decide_eq_false (fun e => hn (by rw [e]))]
  rw [if_pos (by omega)]
  have key := loop_up (fun k (_ : Unit) i => impl_Claim_45.l0 k a b (a.length : Int) i) a.length 0 (fun _ i => decide (a.drop i = b.drop i)) (fun _ _ => True) ?_ ?_ k () 0 0 rfl (Nat.zero_le _) trivial (by omega)
  · exact key
  · intro k _ _ _
    rw [impl_Claim_45.l0, if_neg (by omega), List.drop_length, hn, List.drop_length]
    rfl
  · intro k _ i hi _ _ ih
    have hi2 : i < b.length := by omega
    have hx : rd_T31 a (i : Int) = a[i] := by simp only [rd_T31, Int.toNat_natCast, getD_at _ _ _ hi]
    have hy : rd_T31 b (i : Int) = b[i] := by simp only [rd_T31, Int.toNat_natCast, getD_at _ _ _ hi2]
    rw [impl_Claim_45.l0, if_pos (by omega), if_pos (by omega), if_pos (by omega), if_pos (by omega), hx, hy, eqC_bool, w64 (by omega) (by omega), ih () trivial, drop_cons a i hi, drop_cons b i hi2]
    by_cases h : a[i] = b[i]
    · rw [decide_eq_true h, if_neg (by decide)]
      congr 1
      rw [decide_eq_decide, h, List.cons_inj_right]
    · rw [decide_eq_false h, if_pos (show (!false) = true from rfl), decide_eq_false (fun e => h (List.cons.inj e).1)]
theorem impl_SameViews_at2 (a b : List S31) (hl : a.length ≤ 1000000) (k : Nat) (hk : a.length < k) : impl_SameViews.f k a b = some (decide (a = b)) := by
  unfold impl_SameViews.f
  rw [equalC_at a b hl k hk]
  rfl
def fnd (l : List S31) (a : Int) : Option S31 := l.find? (fun c => decide (c.f0 = a))
theorem fnd_cons (x : S31) (t : List S31) (a : Int) : fnd (x :: t) a = if x.f0 = a then some x else fnd t a := by
  unfold fnd
  by_cases h : x.f0 = a
  · rw [if_pos h, List.find?_cons_of_pos (by simpa using h)]
  · rw [if_neg h, List.find?_cons_of_neg (by simpa using h)]
theorem fnd_none (t : List S31) (a : Int) (h : ∀ y ∈ t, a < y.f0) : fnd t a = none := by
  induction t with
  | nil => rfl
  | cons x t ih =>
    have := h x (by simp)
    rw [fnd_cons, if_neg (by omega)]
    exact ih (fun y hy => h y (by simp [hy]))
def bt (c e : S31) : Bool := btv c.f1 c.f2 e.f1 e.f2
theorem bt_iff (c e : S31) : bt c e = true ↔ c.f1 > e.f1 ∨ (c.f1 = e.f1 ∧ c.f2 > e.f2) := btv_iff _ _ _ _
theorem bt_self (c : S31) : bt c c = false := by
  rw [Bool.eq_false_iff]
  intro h
  have := (bt_iff _ _).1 h
  omega
theorem bt_asym {c e : S31} (h : bt c e = true) : bt e c = false := by
  rw [Bool.eq_false_iff]
  intro h2
  have h3 := (bt_iff _ _).1 h
  have h4 := (bt_iff _ _).1 h2
  omega
theorem bt_trans {a b c : S31} (h : bt a b = true) (h2 : bt b c = true) : bt a c = true := by
  have h3 := (bt_iff _ _).1 h
  have h4 := (bt_iff _ _).1 h2
  exact (bt_iff _ _).2 (by omega)
theorem insv_keep (c : S31) (l : List S31) (h : (insv c l).2 = false) : (insv c l).1 = l := by
  induction l with
  | nil => simp [insv] at h
  | cons x t ih =>
    rw [insv] at h ⊢
    split at h
    · rename_i h1
      rw [if_pos h1]
      show x :: (insv c t).1 = x :: t
      rw [ih h]
    · rename_i h1
      split at h
      · rename_i h2
        split at h
        · simp at h
        · rename_i h3
          rw [if_neg h1, if_pos h2, if_neg h3]
      · simp at h
theorem find_insv (c : S31) (l : List S31) (h : ascv l = true) (a : Int) : fnd (insv c l).1 a = (if a = c.f0 then (match fnd l c.f0 with | some e => (if bt c e then some c else some e) | none => some c) else fnd l a) ∧ (insv c l).2 = (match fnd l c.f0 with | some e => bt c e | none => true) := by
  induction l with
  | nil =>
    refine ⟨?_, rfl⟩
    show fnd [c] a = _
    rw [fnd_cons]
    by_cases e : c.f0 = a
    · rw [if_pos e, if_pos e.symm] <;> rfl
    · rw [if_neg e, if_neg (fun e2 => e e2.symm)] <;> rfl
  | cons x t ih =>
    obtain ⟨h1, h2⟩ := asc_head h
    obtain ⟨ih1, ih2⟩ := ih h1
    rw [insv]
    by_cases c1 : x.f0 < c.f0
    · rw [if_pos c1, fnd_cons, fnd_cons, fnd_cons, if_neg (show ¬ x.f0 = c.f0 by omega)]
      refine ⟨?_, ih2⟩
      by_cases e : x.f0 = a
      · rw [if_pos e, if_neg (show ¬ a = c.f0 by omega), if_pos e]
      · rw [if_neg e, if_neg e]
        exact ih1
    · rw [if_neg c1]
      by_cases c2 : x.f0 = c.f0
      · rw [if_pos c2, fnd_cons x t c.f0, if_pos c2]
        by_cases c3 : bt c x = true
        · have c3' : btv c.f1 c.f2 x.f1 x.f2 = true := c3
          rw [if_pos c3']
          simp only
          rw [if_pos c3]
          refine ⟨?_, c3.symm⟩
          rw [fnd_cons, fnd_cons]
          by_cases e : a = c.f0
          · rw [if_pos e, if_pos e.symm]
          · rw [if_neg e, if_neg (fun e2 => e e2.symm), if_neg (show ¬ x.f0 = a by omega)]
        · have c3' : ¬ btv c.f1 c.f2 x.f1 x.f2 = true := c3
          rw [if_neg c3']
          simp only
          rw [if_neg c3]
          refine ⟨?_, (Bool.eq_false_iff.2 c3).symm⟩
          by_cases e : a = c.f0
          · rw [if_pos e, fnd_cons, if_pos (show x.f0 = a by omega)]
          · rw [if_neg e]
      · rw [if_neg c2]
        have e0 : fnd (x :: t) c.f0 = none := fnd_none _ _ (fun y hy => by
          rcases List.mem_cons.1 hy with rfl | hy
          · omega
          · have := h2 y hy
            omega)
        rw [e0]
        refine ⟨?_, rfl⟩
        rw [fnd_cons]
        by_cases e : a = c.f0
        · rw [if_pos e, if_pos e.symm]
        · rw [if_neg e, if_neg (fun e2 => e e2.symm)]
theorem fnd_mem (l : List S31) (h : ascv l = true) (c : S31) (hc : c ∈ l) : fnd l c.f0 = some c := by
  induction l with
  | nil => simp at hc
  | cons x t ih =>
    obtain ⟨h1, h2⟩ := asc_head h
    rw [fnd_cons]
    rcases List.mem_cons.1 hc with rfl | hc
    · rw [if_pos rfl]
    · have := h2 c hc
      rw [if_neg (by omega), ih h1 hc]
def lev (l l' : List S31) : Prop := ∀ a e, fnd l a = some e → ∃ e', fnd l' a = some e' ∧ (e' = e ∨ bt e' e = true)
theorem lev_refl (l : List S31) : lev l l := fun _ e h => ⟨e, h, .inl rfl⟩
theorem lev_trans {a b c : List S31} (h : lev a b) (h2 : lev b c) : lev a c := by
  intro x e he
  obtain ⟨e', h3, h4⟩ := h x e he
  obtain ⟨e'', h5, h6⟩ := h2 x e' h3
  refine ⟨e'', h5, ?_⟩
  rcases h6 with rfl | h6
  · exact h4
  · rcases h4 with rfl | h4
    · exact .inr h6
    · exact .inr (bt_trans h6 h4)
theorem lev_insv (c : S31) (l : List S31) (h : ascv l = true) : lev l (insv c l).1 := by
  intro a e he
  rw [(find_insv c l h a).1]
  by_cases h1 : a = c.f0
  · subst h1
    rw [if_pos rfl, he]
    simp only
    by_cases h2 : bt c e = true
    · rw [if_pos h2]
      exact ⟨c, rfl, .inr h2⟩
    · rw [if_neg h2]
      exact ⟨e, rfl, .inl rfl⟩
  · rw [if_neg h1]
    exact ⟨e, he, .inl rfl⟩
theorem find_c (c : S31) (l : List S31) (h : ascv l = true) : ∃ e, fnd (insv c l).1 c.f0 = some e ∧ bt c e = false ∧ ((insv c l).2 = true → e = c) := by
  obtain ⟨h1, h2⟩ := find_insv c l h c.f0
  rw [h1, h2, if_pos rfl]
  cases fnd l c.f0 with
  | none => exact ⟨c, rfl, bt_self c, fun _ => rfl⟩
  | some e =>
    simp only
    by_cases h3 : bt c e = true
    · rw [if_pos h3]
      exact ⟨c, rfl, bt_self c, fun _ => rfl⟩
    · rw [if_neg h3]
      exact ⟨e, rfl, Bool.eq_false_iff.2 h3, fun h4 => absurd h4 h3⟩
theorem flag_ne (c : S31) (l : List S31) (h : ascv l = true) (hf : (insv c l).2 = true) (l' : List S31) (hl : lev (insv c l).1 l') : l' ≠ l := by
  rintro rfl
  obtain ⟨e, h1, h2, h3⟩ := find_c c l' h
  obtain rfl := h3 hf
  obtain ⟨e', h4, h5⟩ := hl _ _ h1
  rw [(find_insv e l' h e.f0).2, h4] at hf
  simp only at hf
  rcases h5 with rfl | h5
  · rw [bt_self] at hf
    cases hf
  · rw [bt_asym h5] at hf
    cases hf
theorem flag_eq (c : S31) (l : List S31) (h : ascv l = true) : (insv c l).2 = !decide ((insv c l).1 = l) := by
  cases hf : (insv c l).2 with
  | false => rw [decide_eq_true (insv_keep c l hf)]; rfl
  | true => rw [decide_eq_false (flag_ne c l h hf _ (lev_refl _))]; rfl
theorem mfold_lev (w : List S31) (hw : w.all okv = true) : ∀ (s : List S31) (b : Bool), vfv s = 0 → lev s (mfold w s b).1 := by
  induction w with
  | nil => exact fun s b h => lev_refl s
  | cons c t ih =>
    intro s b h
    rw [List.all_cons, Bool.and_eq_true] at hw
    exact lev_trans (lev_insv c s (vfv_ok h).2.2) (ih hw.2 _ _ (insv_view c s hw.1 h))
theorem mfold_find (w : List S31) (hw : w.all okv = true) : ∀ (s : List S31) (b : Bool), vfv s = 0 → ∀ c ∈ w, ∃ e, fnd (mfold w s b).1 c.f0 = some e ∧ bt c e = false := by
  induction w with
  | nil => intro s b h c hc; simp at hc
  | cons x t ih =>
    intro s b h c hc
    rw [List.all_cons, Bool.and_eq_true] at hw
    have hv := insv_view x s hw.1 h
    rcases List.mem_cons.1 hc with rfl | hc
    · obtain ⟨e, h1, h2, _⟩ := find_c c s (vfv_ok h).2.2
      obtain ⟨e', h3, h4⟩ := mfold_lev t hw.2 _ (b || (insv c s).2) hv _ _ h1
      refine ⟨e', h3, ?_⟩
      rcases h4 with rfl | h4
      · exact h2
      · rw [Bool.eq_false_iff] at h2 ⊢
        exact fun h5 => h2 (bt_trans h5 h4)
    · exact ih hw.2 _ _ hv c hc
theorem mfold_flag (w : List S31) (hw : w.all okv = true) : ∀ (s : List S31) (b : Bool), vfv s = 0 → (mfold w s b).2 = (b || !decide ((mfold w s b).1 = s)) := by
  induction w with
  | nil =>
    intro s b h
    simp [mfold]
  | cons c t ih =>
    intro s b h
    rw [List.all_cons, Bool.and_eq_true] at hw
    have hv := insv_view c s hw.1 h
    have e := ih hw.2 (insv c s).1 (b || (insv c s).2) hv
    rw [mfold, e]
    cases hf : (insv c s).2 with
    | false => rw [insv_keep c s hf, Bool.or_false]
    | true =>
      rw [decide_eq_false (flag_ne c s (vfv_ok h).2.2 hf _ (mfold_lev t hw.2 _ _ hv))]
      simp
theorem mfold_idem (w : List S31) : ∀ (s : List S31) (b : Bool), ascv s = true → (∀ c ∈ w, ∃ e, fnd s c.f0 = some e ∧ bt c e = false) → mfold w s b = (s, b) := by
  induction w with
  | nil => exact fun s b _ _ => rfl
  | cons c t ih =>
    intro s b h hc
    obtain ⟨e, h1, h2⟩ := hc c (by simp)
    have hf : (insv c s).2 = false := by
      rw [(find_insv c s h c.f0).2, h1]
      exact h2
    rw [mfold, hf, insv_keep c s hf, Bool.or_false]
    exact ih s b h (fun x hx => hc x (by simp [hx]))
theorem iav_lev {a b : List S31} (ha : vfv a = 0) (hb : vfv b = 0) (h : lev b a) : iav a b = true := by
  unfold iav
  rw [if_pos ha, if_pos hb, List.all_eq_true]
  intro c hc
  obtain ⟨e, h1, h2⟩ := h _ _ (fnd_mem b (vfv_ok hb).2.2 c hc)
  unfold overv
  have h1' : a.find? (fun x => decide (x.f0 = c.f0)) = some e := h1
  rw [h1']
  simp only
  rcases h2 with rfl | h2
  · simp [sameC]
  · have h2' : btv e.f1 e.f2 c.f1 c.f2 = true := h2
    rw [h2', Bool.or_true]
theorem fcv_fnd {l : List S31} (h : vfv l = 0) {a : Int} {e : S31} (hf : fnd l a = some e) : fcv l a = (0, [e], false) := by
  unfold fcv
  have hf' : l.find? (fun c => decide (c.f0 = a)) = some e := hf
  rw [if_pos h, hf']
theorem rd_one (e : S31) : rd_T31 [e] 0 = e := rfl
theorem merges_j3 (a : List S31) (c : S31) (k : Nat) (hk : 200 ≤ k) : laws_FnMerges.j3 k a c.f0 c.f1 c.f2 c.f3 (mcv a c).1 (mcv a c).2.1 (mcv a c).2.2 = some true := by
  obtain ⟨k, rfl⟩ : ∃ z, k = z + 1 := ⟨k - 1, by omega⟩
  rw [laws_FnMerges.j3]
  by_cases h : (mcv a c).1 = 0
  rotate_left
  · rw [if_neg h]
  rw [if_pos h]
  have hv : vfv a = 0 ∧ cfv c.f0 c.f1 c.f2 c.f3 = 0 := by
    unfold mcv at h
    by_cases h1 : vfv a = 0
    · rw [if_pos h1] at h
      by_cases h2 : cfv c.f0 c.f1 c.f2 c.f3 = 0
      · exact ⟨h1, h2⟩
      · rw [if_neg h2] at h
        exact absurd h h2
    · rw [if_neg h1] at h
      exact absurd h h1
  have e : mcv a c = (0, insv c a) := by
    unfold mcv
    rw [if_pos hv.1, if_pos hv.2]
  rw [e]
  simp only
  have ha := (vfv_ok hv.1).2.2
  have hw := insv_view c a ((okv_eq c).2 hv.2) hv.1
  obtain ⟨o, h1, h2, h3⟩ := find_c c a ha
  have h2' : btv c.f1 c.f2 o.f1 o.f2 = false := h2
  rw [impl_FindClaim_at _ _ k (by omega), fcv_fnd hw h1]
  simp only [Option.bind_some]
  rw [impl_ViewFault_at _ k (by omega), hw]
  simp only [Option.bind_some, ↓reduceIte, List.length_singleton, rd_one]
  rw [if_pos (by rfl), if_pos (by decide), impl_Beats_at, h2']
  simp only [Option.bind_some]
  rw [if_neg (by decide), impl_IsAbove_at _ _ k (by omega), iav_lev hw hv.1 (lev_insv c a ha)]
  simp only [Option.bind_some, ↓reduceIte]
  have hl1 := (vfv_ok hw).1
  rw [impl_SameViews_at2 _ _ (by omega) k (by omega)]
  simp only [Option.bind_some]
  rw [flag_eq c a ha]
  by_cases he : (insv c a).1 = a
  · rw [decide_eq_true he]
    simp
  · have hf : (insv c a).2 = true := by rw [flag_eq c a ha, decide_eq_false he]; rfl
    obtain rfl := h3 hf
    rw [decide_eq_false he]
    simp
theorem merges_l0 (a : List S31) (c : S31) (w m : List S31) (mc : Int) (mb : Bool) (hw : w.length ≤ 10) (hm : vfv m = 0) (hf : ∀ x ∈ w, ∃ e, fnd m x.f0 = some e ∧ bt x e = false) (d : Nat) : ∀ (k i : Nat), w.length - i = d → i ≤ w.length → d + 300 ≤ k → laws_FnMerges.l0 k a w (i : Int) c.f0 c.f1 c.f2 c.f3 (mcv a c).1 (mcv a c).2.1 (mcv a c).2.2 mc m mb = some true := by
  induction d with
  | zero =>
    intro k i hd hi hk
    obtain ⟨k, rfl⟩ : ∃ z, k = z + 1 := ⟨k - 1, by omega⟩
    obtain rfl : i = w.length := by omega
    rw [laws_FnMerges.l0, if_neg (by omega)]
    exact merges_j3 a c k (by omega)
  | succ d ih =>
    intro k i hd hi hk
    obtain ⟨k, rfl⟩ : ∃ z, k = z + 1 := ⟨k - 1, by omega⟩
    have hlt : i < w.length := by omega
    have hy : rd_T31 w (i : Int) = w[i] := by simp only [rd_T31, Int.toNat_natCast, getD_at _ _ _ hlt]
    have e2 : ((i + 1 : Nat) : Int) = (i : Int) + 1 := by omega
    obtain ⟨o, h1, h2⟩ := hf _ (List.getElem_mem hlt)
    have h2' : btv w[i].f1 w[i].f2 o.f1 o.f2 = false := h2
    rw [laws_FnMerges.l0, if_pos (by omega), if_pos (by omega), hy, impl_FindClaim_at _ _ k (by omega), fcv_fnd hm h1]
    simp only [Option.bind_some, ↓reduceIte, List.length_singleton, rd_one]
    rw [if_pos (by rfl), if_pos (by decide), impl_Beats_at, h2']
    simp only [Option.bind_some]
    rw [if_neg (by decide), w64 (by omega) (by omega), ← e2]
    exact ih k (i + 1) (by omega) (by omega) (by omega)
theorem merges_j0 (a v w : List S31) (c : S31) (k : Nat) (hk : 500 ≤ k) : laws_FnMerges.j0 k a v w false c.f0 c.f1 c.f2 c.f3 (mcv a c).1 (mcv a c).2.1 (mcv a c).2.2 (mvv v w).1 (mvv v w).2.1 (mvv v w).2.2 = some true := by
  obtain ⟨k, rfl⟩ : ∃ z, k = z + 2 := ⟨k - 2, by omega⟩
  rw [laws_FnMerges.j0, if_neg (by decide)]
  by_cases h : (mvv v w).1 = 0
  rotate_left
  · rw [if_neg h]
    exact merges_j3 a c _ (by omega)
  rw [if_pos h]
  have hv : vfv v = 0 ∧ vfv w = 0 := by
    unfold mvv at h
    by_cases h1 : vfv v = 0
    · rw [if_pos h1] at h
      by_cases h2 : vfv w = 0
      · exact ⟨h1, h2⟩
      · rw [if_neg h2] at h
        exact absurd h h2
    · rw [if_neg h1] at h
      exact absurd h h1
  have e : mvv v w = (0, mfold w v false) := by
    unfold mvv
    rw [if_pos hv.1, if_pos hv.2]
  have hwo := (vfv_ok hv.2).2.1
  have hw4 := (vfv_ok hv.2).1
  have hm := mfold_view w hwo v false hv.1
  have hm4 := (vfv_ok hm).1
  have hf := mfold_find w hwo v false hv.1
  have hi := mfold_idem w (mfold w v false).1 false (vfv_ok hm).2.2 hf
  have hfl := mfold_flag w hwo v false hv.1
  have hle := mfold_lev w hwo v false hv.1
  have em : mvv (mfold w v false).1 w = (0, (mfold w v false).1, false) := by
    unfold mvv
    rw [if_pos hm, if_pos hv.2, hi]
  rw [e]
  simp only
  rw [impl_MergeViews_at _ _ _ (by omega), em]
  simp only [Option.bind_some]
  rw [impl_ViewFault_at _ _ (by omega), hm]
  simp only [Option.bind_some, ↓reduceIte]
  rw [impl_IsAbove_at _ _ _ (by omega), iav_lev hm hv.1 hle]
  simp only [Option.bind_some, ↓reduceIte, Bool.false_eq_true]
  rw [impl_SameViews_at2 _ _ (by omega) _ (by omega)]
  simp only [Option.bind_some, decide_true, ↓reduceIte]
  rw [impl_SameViews_at2 _ _ (by omega) _ (by omega)]
  simp only [Option.bind_some]
  have eb : ((mfold w v false).2 == decide ((mfold w v false).1 = v)) = false := by
    rw [hfl]
    cases decide ((mfold w v false).1 = v) <;> rfl
  rw [eb, if_neg (by decide), spec_MergeViews_at _ _ _ (by omega), e]
  simp only [Option.bind_some]
  rw [impl_SameViews_at2 _ _ (by omega) _ (by omega)]
  simp only [Option.bind_some, decide_true, Bool.not_true, laws_FnMerges.j1, Bool.false_eq_true, ↓reduceIte]
  have := merges_l0 a c w (mfold w v false).1 0 (mfold w v false).2 (by omega) hm hf _ k 0 rfl (by omega) (by omega)
  rw [show ((0 : Nat) : Int) = 0 from rfl] at this
  exact this
theorem drawMergeClaim_at {code : List Int} (h : Bytes code) (k : Nat) (hk : 10 ≤ k) : ∃ l a b c d, spec_DrawMergeClaim.f k code = some (l, a, b, c, d) ∧ l.length ≤ 8 := by
  unfold spec_DrawMergeClaim.f spec_l1Source.f
  simp only [Option.bind_some]
  obtain ⟨l, q, e1, hl, hq, hq2⟩ := l8Bent_at h k 0 hk (by omega) (by omega)
  rw [e1]
  simp only [Option.bind_some]
  obtain ⟨b, e2⟩ := chance_at h q 7 (by omega) (by omega)
  rw [e2]
  simp only [Option.bind_some]
  by_cases hb : b = true
  · obtain ⟨x, y, z, u, e3⟩ := drawClaimFault_at h
    rw [if_pos hb, e3]
    exact ⟨_, _, _, _, _, rfl, hl⟩
  · obtain ⟨x, y, z, u, e3, _⟩ := claim_at h (q + 1) (by omega)
    rw [if_neg hb, e3]
    exact ⟨_, _, _, _, _, rfl, hl⟩
theorem drawMergeViews_at {code : List Int} (h : Bytes code) (k : Nat) (hk : 10 ≤ k) : ∃ l m, spec_DrawMergeViews.f k code = some (l, m) ∧ l.length ≤ 8 ∧ m.length ≤ 8 := by
  unfold spec_DrawMergeViews.f spec_l1Source.f
  simp only [Option.bind_some]
  obtain ⟨l, q, e1, hl, hq, hq2⟩ := l8Bent_at h k 0 hk (by omega) (by omega)
  rw [e1]
  simp only [Option.bind_some]
  obtain ⟨m, q', e2, hm, _, _⟩ := l8Bent_at h k q hk (by omega) (by omega)
  rw [e2]
  exact ⟨_, _, rfl, hl, hm⟩
theorem drawIsAbove2_at {code : List Int} (h : Bytes code) (k : Nat) (hk : 200 ≤ k) : ∃ l m, spec_DrawIsAbove.f k code = some (l, m) := by
  unfold spec_DrawIsAbove.f spec_l1Source.f
  simp only [Option.bind_some]
  obtain ⟨l, q, e1, hl, hq, hq2⟩ := l8Bent_at h k 0 (by omega) (by omega) (by omega)
  rw [e1]
  simp only [Option.bind_some]
  obtain ⟨m, q', e2, hm, _, _⟩ := l8Bent_at h k q (by omega) (by omega) (by omega)
  rw [e2]
  simp only [Option.bind_some]
  obtain ⟨b, e3⟩ := chance_at h q' 2 (by omega) (by omega)
  rw [e3]
  simp only [Option.bind_some]
  rw [spec_ViewFault_at l k (by omega)]
  simp only [Option.bind_some]
  rw [spec_ViewFault_at m k (by omega)]
  simp only [Option.bind_some]
  rw [spec_MergeViews_at l m k (by omega)]
  simp only [Option.bind_some]
  repeat' split
  all_goals exact ⟨_, _, rfl⟩
end Go.Proofs.Ytejodgcojcombaa.Pure
