/- What the printed functions of the law FnTargets answer, as plain Lean. -/
import Derived.Test.YtpinapnhohjipaaStFnTargets
import Derived.Test.YtpinapnhohjipaaBaFnTargets
namespace Go.Proofs.Ytpinapnhohjipaa.Pure
open Go.RowKit Go.Proofs.Ytpinapnhohjipaa.Open Go.Proofs.Ytpinapnhohjipaa.Base Go.Proofs.Ytpinapnhohjipaa.MFnTargets Go.Proofs.YtpinapnhohjipaaW.PrintWords Go.Proofs.YtpinapnhohjipaaW.PrintLast
set_option linter.unusedVariables false
set_option linter.unusedSimpArgs false
theorem impl_in_at (a b c : Int) : impl_in.f a b c = some (decide (b ≤ a ∧ a ≤ c)) := by
  unfold impl_in.f
  by_cases h : a ≥ b
  · rw [if_pos h]
    have h' : b ≤ a := h
    simp [h']
  · rw [if_neg h]
    have h' : ¬ b ≤ a := h
    simp [h']
theorem spec_in_at (a b c : Int) : spec_l1In.f a b c = some (decide (b ≤ a ∧ a ≤ c)) := by
  unfold spec_l1In.f
  by_cases h : a ≥ b
  · rw [if_pos h]
    have h' : b ≤ a := h
    simp [h']
  · rw [if_neg h]
    have h' : ¬ b ≤ a := h
    simp [h']
def cfv (a b c d : Int) : Int := if (0 ≤ a ∧ a ≤ 3) ∧ (0 ≤ b ∧ b ≤ 1000000) ∧ (0 ≤ c ∧ c ≤ 2) ∧ (0 ≤ d ∧ d ≤ 9999999) then 0 else 3
theorem cfv_or (a b c d : Int) : cfv a b c d = 0 ∨ cfv a b c d = 3 := by
  unfold cfv
  split
  · exact .inl rfl
  · exact .inr rfl
theorem cfv_ok {a b c d : Int} (h : cfv a b c d = 0) : (0 ≤ a ∧ a ≤ 3) ∧ (0 ≤ b ∧ b ≤ 1000000) ∧ (0 ≤ c ∧ c ≤ 2) ∧ (0 ≤ d ∧ d ≤ 9999999) := by
  unfold cfv at h
  split at h
  · assumption
  · omega
theorem impl_ClaimFault_at (a b c d : Int) : impl_ClaimFault.f a b c d = some (cfv a b c d) := by
  simp only [impl_ClaimFault.f, impl_isNode.f, impl_isStatus.f, impl_in_at, Option.bind_some, decide_eq_true_eq]
  unfold cfv
  repeat' split
  all_goals first | rfl | (exfalso; omega)
theorem spec_ClaimFault_at (a b c d : Int) : spec_ClaimFault.f a b c d = some (cfv a b c d) := by
  simp only [spec_ClaimFault.f, spec_in_at, Option.bind_some, decide_eq_true_eq]
  unfold cfv
  repeat' split
  all_goals first | rfl | (exfalso; omega)
def okv (c : S51) : Bool := decide (cfv c.f0 c.f1 c.f2 c.f3 = 0)
def ascv : List S51 → Bool
  | [] => true
  | [_] => true
  | x :: y :: t => decide (x.f0 < y.f0) && ascv (y :: t)
def vfv (l : List S51) : Int := if l.length > 4 then 2 else if l.all okv then (if ascv l then 0 else 1) else 3
theorem ascv_drop (l : List S51) (i : Nat) (h1 : 1 ≤ i) (h : i < l.length) : ascv (l.drop (i - 1)) = (decide ((l[i - 1]).f0 < l[i].f0) && ascv (l.drop i)) := by
  have e : i - 1 + 1 = i := by omega
  rw [drop_cons l (i - 1) (by omega)]
  simp only [e]
  rw [drop_cons l i h]
  rfl
theorem ascv_last (l : List S51) (h : 0 < l.length) : ascv (l.drop (l.length - 1)) = true := by
  have e : l.length - 1 + 1 = l.length := by omega
  rw [drop_cons l (l.length - 1) (by omega)]
  simp only [e]
  rw [List.drop_length]
  rfl
theorem spec_ViewFault_l1 (l : List S51) (hl : l.length ≤ 4) (k : Nat) (hk : 10 ≤ k) : spec_ViewFault.l1 k l 1 = some (if ascv l then 0 else 1) := by
  by_cases h0 : l.length = 0
  · obtain ⟨k, rfl⟩ : ∃ m, k = m + 1 := ⟨k - 1, by omega⟩
    rw [List.eq_nil_of_length_eq_zero h0]
    rfl
  refine loop_up (fun k (_ : Unit) i => spec_ViewFault.l1 k l i) l.length 0 (fun _ i => if ascv (l.drop (i - 1)) then 0 else 1) (fun _ i => 1 ≤ i) ?_ ?_ k () 1 1 rfl (by omega) (by omega) (by omega)
  · intro k _ _ _
    simp only [spec_ViewFault.l1]
    rw [if_neg (by omega), ascv_last l (by omega), if_pos rfl]
  · intro k _ i hi h1 _ ih
    have e1 : wrap64 ((i : Int) - 1) = ((i - 1 : Nat) : Int) := by rw [w64 (by omega) (by omega)]; omega
    have e2 : wrap64 ((i : Int) + 1) = (i : Int) + 1 := w64 (by omega) (by omega)
    have hx : rd_T51 l ((i - 1 : Nat) : Int) = l[i - 1] := by simp only [rd_T51, Int.toNat_natCast, getD_at _ _ _ (show i - 1 < l.length by omega)]
    have hy : rd_T51 l (i : Int) = l[i] := by simp only [rd_T51, Int.toNat_natCast, getD_at _ _ _ hi]
    simp only [spec_ViewFault.l1, e1, e2]
    rw [if_pos (by omega), if_pos (by omega), if_pos (by omega), if_pos (by omega), hx, hy, ascv_drop l i h1 hi]
    by_cases h : l[i].f0 ≤ l[i - 1].f0
    · rw [if_pos h, decide_eq_false (by omega), Bool.false_and]
      rfl
    · rw [if_neg h, decide_eq_true (by omega), Bool.true_and]
      exact ih () (by omega)
theorem impl_ViewFault_l1 (l : List S51) (hl : l.length ≤ 4) (k : Nat) (hk : 10 ≤ k) : impl_ViewFault.l1 k l 1 = some (if ascv l then 0 else 1) := by
  by_cases h0 : l.length = 0
  · obtain ⟨k, rfl⟩ : ∃ m, k = m + 1 := ⟨k - 1, by omega⟩
    rw [List.eq_nil_of_length_eq_zero h0]
    rfl
  refine loop_up (fun k (_ : Unit) i => impl_ViewFault.l1 k l i) l.length 0 (fun _ i => if ascv (l.drop (i - 1)) then 0 else 1) (fun _ i => 1 ≤ i) ?_ ?_ k () 1 1 rfl (by omega) (by omega) (by omega)
  · intro k _ _ _
    simp only [impl_ViewFault.l1]
    rw [if_neg (by omega), ascv_last l (by omega), if_pos rfl]
  · intro k _ i hi h1 _ ih
    have e1 : wrap64 ((i : Int) - 1) = ((i - 1 : Nat) : Int) := by rw [w64 (by omega) (by omega)]; omega
    have e2 : wrap64 ((i : Int) + 1) = (i : Int) + 1 := w64 (by omega) (by omega)
    have hx : rd_T51 l ((i - 1 : Nat) : Int) = l[i - 1] := by simp only [rd_T51, Int.toNat_natCast, getD_at _ _ _ (show i - 1 < l.length by omega)]
    have hy : rd_T51 l (i : Int) = l[i] := by simp only [rd_T51, Int.toNat_natCast, getD_at _ _ _ hi]
    simp only [impl_ViewFault.l1, e1, e2]
    rw [if_pos (by omega), if_pos (by omega), if_pos (by omega), if_pos (by omega), hx, hy, ascv_drop l i h1 hi]
    by_cases h : l[i - 1].f0 ≥ l[i].f0
    · rw [if_pos h, decide_eq_false (by omega), Bool.false_and]
      rfl
    · rw [if_neg h, decide_eq_true (by omega), Bool.true_and]
      exact ih () (by omega)
theorem okv_cases (c : S51) : (okv c = true ∧ cfv c.f0 c.f1 c.f2 c.f3 = 0) ∨ (okv c = false ∧ cfv c.f0 c.f1 c.f2 c.f3 = 3) := by
  rcases cfv_or c.f0 c.f1 c.f2 c.f3 with h | h
  · exact .inl ⟨by simp [okv, h], h⟩
  · exact .inr ⟨by simp [okv, h], h⟩
theorem spec_ViewFault_at (l : List S51) (k : Nat) (hk : 20 ≤ k) : spec_ViewFault.f k l = some (vfv l) := by
  unfold spec_ViewFault.f vfv
  by_cases hl : l.length > 4
  · rw [if_pos (by omega), if_pos hl]
  rw [if_neg (by omega), if_neg hl]
  refine loop_up (fun k (_ : Unit) i => spec_ViewFault.l0 k l i) l.length 10 (fun _ i => if (l.drop i).all okv then (if ascv l then 0 else 1) else 3) (fun _ i => True) ?_ ?_ k () 0 0 rfl (by omega) trivial (by omega)
  · intro k _ _ hm
    simp only [spec_ViewFault.l0]
    rw [if_neg (by omega), spec_ViewFault_l1 l (by omega) k (by omega), List.drop_length]
    rfl
  · intro k _ i hi _ _ ih
    have e2 : wrap64 ((i : Int) + 1) = (i : Int) + 1 := w64 (by omega) (by omega)
    have hy : rd_T51 l (i : Int) = l[i] := by simp only [rd_T51, Int.toNat_natCast, getD_at _ _ _ hi]
    simp only [spec_ViewFault.l0, e2, spec_ClaimFault_at, Option.bind_some]
    rw [if_pos (by omega), if_pos (by omega), hy, drop_cons l i hi, List.all_cons]
    rcases okv_cases l[i] with ⟨h, h'⟩ | ⟨h, h'⟩
    · rw [h, h', if_pos rfl, Bool.true_and]
      exact ih () trivial
    · rw [h, h', if_neg (by omega), Bool.false_and]
      rfl
theorem impl_ViewFault_at (l : List S51) (k : Nat) (hk : 20 ≤ k) : impl_ViewFault.f k l = some (vfv l) := by
  unfold impl_ViewFault.f vfv
  by_cases hl : l.length > 4
  · rw [if_pos (by omega), if_pos hl]
  rw [if_neg (by omega), if_neg hl]
  refine loop_up (fun k (_ : Unit) i => impl_ViewFault.l0 k l l (l.length : Int) i) l.length 10 (fun _ i => if (l.drop i).all okv then (if ascv l then 0 else 1) else 3) (fun _ i => True) ?_ ?_ k () 0 0 rfl (by omega) trivial (by omega)
  · intro k _ _ hm
    simp only [impl_ViewFault.l0]
    rw [if_neg (by omega), impl_ViewFault_l1 l (by omega) k (by omega), List.drop_length]
    rfl
  · intro k _ i hi _ _ ih
    have e2 : wrap64 ((i : Int) + 1) = (i : Int) + 1 := w64 (by omega) (by omega)
    have hy : rd_T51 l (i : Int) = l[i] := by simp only [rd_T51, Int.toNat_natCast, getD_at _ _ _ hi]
    simp only [impl_ViewFault.l0, e2, impl_ClaimFault_at, Option.bind_some]
    rw [if_pos (by omega), if_pos (by omega), if_pos (by omega), hy, drop_cons l i hi, List.all_cons]
    rcases okv_cases l[i] with ⟨h, h'⟩ | ⟨h, h'⟩
    · rw [h, h', if_pos rfl, Bool.true_and]
      exact ih () trivial
    · rw [h, h', if_neg (by omega), Bool.false_and]
      rfl
theorem vfv_ok {l : List S51} (h : vfv l = 0) : l.length ≤ 4 ∧ l.all okv = true ∧ ascv l = true := by
  unfold vfv at h
  split at h
  · omega
  · split at h
    · split at h
      · exact ⟨by omega, by assumption, by assumption⟩
      · omega
    · omega
theorem vfv_le {l : List S51} (h : ¬ vfv l = 0) : True := trivial
theorem tmod_in (a n : Int) (ha : 0 ≤ a) (hn : 0 < n) : 0 ≤ Int.tmod a n ∧ Int.tmod a n < n := ⟨Int.tmod_nonneg n ha, Int.tmod_lt_of_pos a hn⟩
def Bytes (code : List Int) : Prop := code.length ≤ 1048576 ∧ ∀ x ∈ code, 0 ≤ x ∧ x ≤ 255
theorem bytes_of {code : List Int} (hl : code.length ≤ 1048576) (h : ∀ x ∈ code, (Lit.int .u8 x).wf = true) : Bytes code := by
  refine ⟨hl, fun x hx => ?_⟩
  have h2 : (decide ((IntKind.u8).min ≤ x) && decide (x ≤ (IntKind.u8).max)) = true := h x hx
  rw [Bool.and_eq_true, decide_eq_true_eq, decide_eq_true_eq] at h2
  have e1 : (IntKind.u8).min = 0 := by decide
  have e2 : (IntKind.u8).max = 255 := by decide
  rw [e1, e2] at h2
  exact h2
theorem byte_in {code : List Int} (h : Bytes code) (i : Int) (h0 : 0 ≤ i) (h1 : i < code.length) : 0 ≤ rd code i ∧ rd code i ≤ 255 := by
  have e : rd code i = code[i.toNat]'(by omega) := by
    simp only [rd, List.getD_eq_getElem?_getD]
    rw [List.getElem?_eq_getElem (by omega)]
    rfl
  rw [e]
  exact h.2 _ (List.getElem_mem _)
theorem next_at {code : List Int} (h : Bytes code) (p n : Int) (hp : 0 ≤ p ∧ p ≤ 1000000) (hn : n ≤ 1000000000) : ∃ v, spec_l1Next.f code p n = some (v, p + 1) ∧ 0 ≤ v ∧ (1 ≤ n → v < n) ∧ (n < 1 → v = 0) := by
  have hl := h.1
  unfold spec_l1Next.f
  have e0 : wrap64 (p + 1) = p + 1 := w64 (by omega) (by omega)
  have e1 : wrap64 (p + 1 - 1) = p := by rw [w64 (by omega) (by omega)]; omega
  have e2 : wrap64 (p + 2) = p + 2 := w64 (by omega) (by omega)
  simp only [e0, e1, e2]
  by_cases hn1 : n < 1
  · rw [if_pos hn1]
    exact ⟨0, rfl, by omega, by omega, fun _ => rfl⟩
  rw [if_neg hn1]
  by_cases hz : (code.length : Int) = 0
  · rw [if_pos hz, if_neg (by omega), w64 (x := p * 7) (by omega) (by omega)]
    exact ⟨_, rfl, (tmod_in _ _ (by omega) (by omega)).1, fun _ => (tmod_in _ _ (by omega) (by omega)).2, by omega⟩
  rw [if_neg hz]
  have hL : 0 < (code.length : Int) := by omega
  have j0 := tmod_in p _ hp.1 hL
  have j1 := tmod_in (p + 1) _ (by omega) hL
  have j2 := tmod_in (p + 2) _ (by omega) hL
  have b0 := byte_in h _ j0.1 j0.2
  have b1 := byte_in h _ j1.1 j1.2
  have b2 := byte_in h _ j2.1 j2.2
  have q0 : 0 ≤ Int.tdiv p (code.length : Int) := Int.tdiv_nonneg hp.1 (by omega)
  have q1 : Int.tdiv p (code.length : Int) ≤ p := Int.tdiv_le_self _ hp.1
  generalize Int.tdiv p (code.length : Int) = q at *
  generalize rd code (Int.tmod p (code.length : Int)) = c0 at *
  generalize rd code (Int.tmod (p + 1) (code.length : Int)) = c1 at *
  generalize rd code (Int.tmod (p + 2) (code.length : Int)) = c2 at *
  rw [if_pos j0.1, if_pos j0.2]
  by_cases h2 : n > 200
  · rw [if_pos h2, if_pos j1.1, if_pos j1.2]
    by_cases h6 : n > 60000
    · rw [if_pos h6, if_pos j2.1, if_pos j2.2, if_neg (by omega)]
      simp (disch := omega) only [w64]
      exact ⟨_, rfl, (tmod_in _ _ (by omega) (by omega)).1, fun _ => (tmod_in _ _ (by omega) (by omega)).2, by omega⟩
    · rw [if_neg h6, if_neg (by omega)]
      simp (disch := omega) only [w64]
      exact ⟨_, rfl, (tmod_in _ _ (by omega) (by omega)).1, fun _ => (tmod_in _ _ (by omega) (by omega)).2, by omega⟩
  · rw [if_neg h2, if_neg (by omega), if_neg (by omega)]
    simp (disch := omega) only [w64]
    exact ⟨_, rfl, (tmod_in _ _ (by omega) (by omega)).1, fun _ => (tmod_in _ _ (by omega) (by omega)).2, by omega⟩
theorem lwBig_at (l : List Int) : laws_lwBig.f l = some (decide ((l.length : Int) > 1048576)) := rfl
theorem pick_at {code : List Int} (h : Bytes code) (p : Int) (hp : 0 ≤ p ∧ p ≤ 1000000) (l : List Int) (hl : 0 < l.length) (hm : l.length ≤ 1000000) : ∃ v, spec_l1Pick.f code p l = some (v, p + 1) ∧ v ∈ l := by
  obtain ⟨i, e, h0, h1, _⟩ := next_at h p (l.length : Int) hp (by omega)
  have h2 := h1 (by omega)
  unfold spec_l1Pick.f
  rw [e]
  simp only [Option.bind_some]
  rw [if_pos h0, if_pos h2]
  refine ⟨_, rfl, ?_⟩
  have e : rd l i = l[i.toNat]'(by omega) := by
    simp only [rd, List.getD_eq_getElem?_getD]
    rw [List.getElem?_eq_getElem (by omega)]
    rfl
  rw [e]
  exact List.getElem_mem _
theorem chance_at {code : List Int} (h : Bytes code) (p n : Int) (hp : 0 ≤ p ∧ p ≤ 1000000) (hn : n ≤ 1000000000) : ∃ b, spec_l1Chance.f code p n = some (b, p + 1) := by
  obtain ⟨v, e, _⟩ := next_at h p n hp hn
  unfold spec_l1Chance.f
  rw [e]
  exact ⟨_, rfl⟩
theorem claim_at {code : List Int} (h : Bytes code) (p : Int) (hp : 0 ≤ p ∧ p ≤ 999990) : ∃ a b c d, spec_l7Claim.f code p = some (a, b, c, d, p + 4) ∧ (0 ≤ a ∧ a ≤ 3) ∧ (0 ≤ b ∧ b ≤ 1000000) ∧ (0 ≤ c ∧ c ≤ 2) ∧ (0 ≤ d ∧ d ≤ 9999999) := by
  obtain ⟨a, e1, a0, a1, _⟩ := next_at h p 4 (by omega) (by omega)
  obtain ⟨b, e2, b1⟩ := pick_at h (p + 1) (by omega) [0, 1, 2, 3, 1000000] (by decide) (by decide)
  obtain ⟨c, e3, c0, c1, _⟩ := next_at h (p + 1 + 1) 3 (by omega) (by omega)
  obtain ⟨d, e4, d1⟩ := pick_at h (p + 1 + 1 + 1) (by omega) [0, 80, 65616, 9999999] (by decide) (by decide)
  unfold spec_l7Claim.f
  rw [e1]
  simp only [Option.bind_some]
  rw [e2]
  simp only [Option.bind_some]
  rw [e3]
  simp only [Option.bind_some]
  rw [e4]
  simp only [Option.bind_some]
  have a2 := a1 (by omega)
  have c2 := c1 (by omega)
  simp only [List.mem_cons, List.not_mem_nil, or_false] at b1 d1
  have e5 : p + 1 + 1 + 1 + 1 = p + 4 := by omega
  rw [e5]
  exact ⟨a, b, c, d, rfl, by omega, by omega, by omega, by omega⟩
theorem impl_claimOf_at (l : List S51) (hl : l.length ≤ 10) (a : Int) (k : Nat) (hk : 20 ≤ k) : impl_claimOf.f k l a = some (match l.find? (fun c => decide (c.f0 = a)) with | some c => (c.f0, c.f1, c.f2, c.f3, true) | none => (0, 0, 0, 0, false)) := by
  unfold impl_claimOf.f
  refine loop_up (fun k (_ : Unit) i => impl_claimOf.l0 k a l (l.length : Int) i) l.length 0 (fun _ i => match (l.drop i).find? (fun c => decide (c.f0 = a)) with | some c => (c.f0, c.f1, c.f2, c.f3, true) | none => (0, 0, 0, 0, false)) (fun _ i => True) ?_ ?_ k () 0 0 rfl (by omega) trivial (by omega)
  · intro k _ _ _
    simp only [impl_claimOf.l0]
    rw [if_neg (by omega), List.drop_length]
    rfl
  · intro k _ i hi _ _ ih
    have e2 : wrap64 ((i : Int) + 1) = (i : Int) + 1 := w64 (by omega) (by omega)
    have hy : rd_T51 l (i : Int) = l[i] := by simp only [rd_T51, Int.toNat_natCast, getD_at _ _ _ hi]
    simp only [impl_claimOf.l0, e2]
    rw [if_pos (by omega), if_pos (by omega), if_pos (by omega), hy, drop_cons l i hi]
    by_cases h : l[i].f0 = a
    · rw [if_pos h, List.find?_cons_of_pos (by simpa using h)]
    · rw [if_neg h, List.find?_cons_of_neg (by simpa using h)]
      exact ih () trivial
def fcv (l : List S51) (a : Int) : Int × List S51 × Bool := if vfv l = 0 then (match l.find? (fun c => decide (c.f0 = a)) with | some c => (0, [c], false) | none => (4, [], false)) else (vfv l, [], false)
theorem fcv_len (l : List S51) (a : Int) : (fcv l a).2.1.length ≤ 1 := by
  unfold fcv
  split
  · split <;> simp
  · simp
theorem impl_FindClaim_at (l : List S51) (a : Int) (k : Nat) (hk : 20 ≤ k) : impl_FindClaim.f k l a = some (fcv l a) := by
  unfold impl_FindClaim.f fcv
  rw [impl_ViewFault_at l k hk]
  simp only [Option.bind_some]
  by_cases h : vfv l = 0
  · rw [if_pos h, if_pos h, impl_claimOf_at l (by have := (vfv_ok h).1; omega) a k hk]
    simp only [Option.bind_some]
    cases l.find? (fun c => decide (c.f0 = a)) <;> simp
  · rw [if_neg h, if_neg h]
def helpv (self target most : Int) : List S51 → List Int → List Int
  | [], s => s
  | c :: t, s => if c.f2 = 0 ∧ c.f0 ≠ self ∧ c.f0 ≠ target ∧ (s.length : Int) < most then helpv self target most t (s ++ [c.f0]) else helpv self target most t s
theorem helpv_full (self target most : Int) (l : List S51) (s : List Int) (h : ¬ (s.length : Int) < most) : helpv self target most l s = s := by
  induction l with
  | nil => rfl
  | cons c t ih => simp [helpv, h, ih]
theorem helpv_len (self target most : Int) (l : List S51) (s : List Int) : (helpv self target most l s).length ≤ s.length + l.length := by
  induction l generalizing s with
  | nil => simp [helpv]
  | cons c t ih =>
    unfold helpv
    split
    · have := ih (s ++ [c.f0])
      simp at this ⊢
      omega
    · have := ih s
      simp at this ⊢
      omega
theorem helpv_most (self target most : Int) (l : List S51) (s : List Int) (h : (s.length : Int) ≤ most) : ((helpv self target most l s).length : Int) ≤ most := by
  induction l generalizing s with
  | nil => simpa [helpv] using h
  | cons c t ih =>
    unfold helpv
    split
    · exact ih _ (by simp; omega)
    · exact ih _ h
theorem impl_HelpersFor_l0 (l : List S51) (hl : l.length ≤ 10) (a b m c : Int) (k : Nat) (hk : 20 ≤ k) : impl_HelpersFor.l0 k a b m l (l.length : Int) 0 c [] = some (c, helpv a b m l []) := by
  refine loop_up (fun k s i => impl_HelpersFor.l0 k a b m l (l.length : Int) i c s) l.length 0 (fun s i => (c, helpv a b m (l.drop i) s)) (fun s i => s.length ≤ i) ?_ ?_ k [] 0 0 rfl (by omega) (by simp) (by omega)
  · intro k s _ _
    simp only [impl_HelpersFor.l0]
    rw [if_neg (by omega), List.drop_length]
    rfl
  · intro k s i hi hs _ ih
    have e2 : wrap64 ((i : Int) + 1) = (i : Int) + 1 := w64 (by omega) (by omega)
    have hy : rd_T51 l (i : Int) = l[i] := by simp only [rd_T51, Int.toNat_natCast, getD_at _ _ _ hi]
    simp only [impl_HelpersFor.l0, e2]
    rw [if_pos (by omega), if_pos (by omega), if_pos (by omega), hy, drop_cons l i hi]
    by_cases h1 : l[i].f2 = 0
    rotate_left
    · rw [if_neg h1, ih _ (by omega)]
      simp [helpv, h1]
    by_cases h2 : l[i].f0 = a
    · rw [if_pos h1, if_pos h2, ih _ (by omega)]
      simp [helpv, h2]
    by_cases h3 : l[i].f0 = b
    · rw [if_pos h1, if_neg h2, if_pos h3, ih _ (by omega)]
      simp [helpv, h3]
    by_cases h4 : (s.length : Int) < m
    · rw [if_pos h1, if_neg h2, if_neg h3, if_pos h4, if_pos (by omega), ih _ (by simp; omega)]
      simp [helpv, h1, h2, h3, h4]
    · rw [if_pos h1, if_neg h2, if_neg h3, if_neg h4, ih _ (by omega)]
      simp [helpv, h4]
theorem spec_l9Helpers_at (l : List S51) (hl : l.length ≤ 10) (a b m : Int) (k : Nat) (hk : 50 ≤ k) : spec_l9Helpers.f k l a b m = some (helpv a b m l []) := by
  unfold spec_l9Helpers.f
  refine loop_upc 2 (by omega) (fun k s i => spec_l9Helpers.l0 k l a b m s i) l.length 0 (fun s i => helpv a b m (l.drop i) s) (fun s i => s.length ≤ i) ?_ ?_ l.length k [] 0 0 rfl (by omega) (by omega) (by simp) (by omega)
  · intro k s _ _
    simp only [spec_l9Helpers.l0, spec_l9Helpers.j1]
    rw [if_neg (by omega), List.drop_length]
    simp [helpv]
  · intro k s i hi hs _ ih
    have e2 : wrap64 ((i : Int) + 1) = (i : Int) + 1 := w64 (by omega) (by omega)
    have hy : rd_T51 l (i : Int) = l[i] := by simp only [rd_T51, Int.toNat_natCast, getD_at _ _ _ hi]
    simp only [spec_l9Helpers.l0, spec_l9Helpers.j1, e2]
    rw [if_pos (by omega)]
    by_cases h4 : (s.length : Int) < m
    rotate_left
    · rw [helpv_full _ _ _ _ _ h4]
      simp [h4]
    rw [if_pos (decide_eq_true h4), if_pos (by omega), if_pos (by omega), hy, drop_cons l i hi]
    by_cases h1 : l[i].f2 = 0
    rotate_left
    · rw [if_neg h1, ih _ (by omega)]
      simp [helpv, h1]
    by_cases h2 : l[i].f0 = a
    · rw [if_pos h1, if_pos h2, ih _ (by omega)]
      simp [helpv, h2]
    by_cases h3 : l[i].f0 = b
    · rw [if_pos h1, if_neg h2, if_pos h3, ih _ (by omega)]
      simp [helpv, h3]
    rw [if_pos h1, if_neg h2, if_neg h3, if_pos (by omega), ih _ (by simp; omega)]
    simp [helpv, h1, h2, h3, h4]
def hfv (l : List S51) (a b m : Int) : Int × List Int := if vfv l = 0 then (if (0 ≤ a ∧ a ≤ 3) ∧ (0 ≤ b ∧ b ≤ 3) ∧ (0 ≤ m ∧ m ≤ 4) then (0, helpv a b m l []) else (3, [])) else (vfv l, [])
theorem hfv_len (l : List S51) (a b m : Int) : (hfv l a b m).2.length ≤ 4 := by
  unfold hfv
  split
  · rename_i h
    have h4 := (vfv_ok h).1
    split
    · have := helpv_len a b m l []
      simp at this ⊢
      omega
    · simp
  · simp
theorem spec_HelpersFor_at (l : List S51) (a b m : Int) (k : Nat) (hk : 60 ≤ k) : spec_HelpersFor.f k l a b m = some (hfv l a b m) := by
  unfold spec_HelpersFor.f hfv spec_l9Node.f
  rw [spec_ViewFault_at l k (by omega)]
  simp only [Option.bind_some, spec_in_at, decide_eq_true_eq]
  by_cases h : vfv l = 0
  rotate_left
  · rw [if_neg h, if_neg h]
  rw [if_pos h, if_pos h, spec_l9Helpers_at l (by have := (vfv_ok h).1; omega) a b m k (by omega)]
  simp only [Option.bind_some]
  repeat' split
  all_goals first | rfl | (exfalso; omega)
theorem impl_HelpersFor_at (l : List S51) (a b m : Int) (k : Nat) (hk : 60 ≤ k) : impl_HelpersFor.f k l a b m = some (hfv l a b m) := by
  obtain ⟨k, rfl⟩ : ∃ x, k = x + 1 := ⟨k - 1, by omega⟩
  unfold impl_HelpersFor.f hfv impl_isNode.f
  rw [impl_ViewFault_at l (k + 1) (by omega)]
  simp only [Option.bind_some, impl_in_at, decide_eq_true_eq, impl_HelpersFor.j0]
  by_cases h : vfv l = 0
  rotate_left
  · rw [if_neg h, if_neg h]
  rw [if_pos h, if_pos h, impl_HelpersFor_l0 l (by have := (vfv_ok h).1; omega) a b m 0 k (by omega)]
  by_cases h1 : 0 ≤ a ∧ a ≤ 3
  rotate_left
  · simp only [h1, if_false, false_and, if_true, and_self]
  by_cases h2 : 0 ≤ b ∧ b ≤ 3
  rotate_left
  · simp only [h1, h2, if_false, and_false, false_and, if_true, true_and, and_self]
  by_cases h3 : 0 ≤ m ∧ m ≤ 4
  · simp only [h1, h2, h3, if_true, and_true, and_self, decide_true, Bool.not_true, Bool.false_eq_true, if_false]
  · simp only [h1, h2, h3, if_true, and_false, and_self, true_and, decide_false, Bool.not_false, if_false]
def stepv (self last : Int) (c : S51) (s : Int × Int) : Int × Int := if c.f0 = self then s else if c.f0 > last then (c.f0, c.f0) else (c.f0, s.2)
theorem stepv_fold (self last : Int) (l : List S51) : l.foldr (stepv self last) (-1, -1) = ((match l.find? (fun c => decide (c.f0 ≠ self)) with | some c => c.f0 | none => -1), (match l.find? (fun c => decide (c.f0 ≠ self ∧ c.f0 > last)) with | some c => c.f0 | none => -1)) := by
  induction l with
  | nil => rfl
  | cons c t ih =>
    rw [List.foldr_cons, ih]
    unfold stepv
    by_cases h1 : c.f0 = self
    · rw [if_pos h1, List.find?_cons_of_neg (by simp [h1]), List.find?_cons_of_neg (by simp [h1])]
    · rw [if_neg h1, List.find?_cons_of_pos (p := fun c : S51 => decide (c.f0 ≠ self)) (by simp [h1])]
      by_cases h2 : c.f0 > last
      · rw [if_pos h2, List.find?_cons_of_pos (by simp [h1, h2])]
      · rw [if_neg h2, List.find?_cons_of_neg (by simp [h2])]
def finv (s : Int × Int) : Int := if s.2 ≥ 0 then s.2 else s.1
def nextv (l : List S51) (self last : Int) : Int :=
  match l.find? (fun c => decide (c.f0 ≠ self ∧ c.f0 > last)) with
  | some c => c.f0
  | none => (match l.find? (fun c => decide (c.f0 ≠ self)) with | some c => c.f0 | none => -1)
theorem spec_l9Next_at (l : List S51) (hl : l.length ≤ 10) (hp : ∀ c ∈ l, 0 ≤ c.f0) (a b : Int) (k : Nat) (hk : 20 ≤ k) : spec_l9Next.f k l a b = some (nextv l a b) := by
  unfold spec_l9Next.f
  rw [w64 (by omega) (by omega)]
  have h := loop_down (fun k (s : Int × Int) i => spec_l9Next.l0 k l a b s.1 s.2 i) l.length (fun s j => finv ((l.take j).foldr (stepv a b) s)) ?_ ?_ l.length k (-1, -1) (by omega) (by omega)
  · simp only at h
    rw [h, List.take_length, stepv_fold]
    unfold nextv finv
    cases h1 : l.find? (fun c => decide (c.f0 ≠ a ∧ c.f0 > b)) with
    | none => simp
    | some c =>
      have := hp c (List.mem_of_find?_eq_some h1)
      simp [this]
  · rintro k ⟨x, y⟩
    simp only [spec_l9Next.l0]
    rw [if_neg (by omega)]
    show _ = some (if y ≥ 0 then y else x)
    by_cases h : y ≥ 0
    · rw [if_pos h, if_pos h]
    · rw [if_neg h, if_neg h]
  · rintro k ⟨x, y⟩ i hi ih
    have e2 : wrap64 ((i : Int) - 1) = (i : Int) - 1 := w64 (by omega) (by omega)
    have hy : rd_T51 l (i : Int) = l[i] := by simp only [rd_T51, Int.toNat_natCast, getD_at _ _ _ hi]
    simp only [spec_l9Next.l0, e2]
    rw [if_pos (by omega), if_pos (by omega), if_pos (by omega), hy, take_succ l i hi]
    simp only [List.foldr_append, List.foldr_cons, List.foldr_nil]
    unfold stepv
    by_cases h1 : l[i].f0 = a
    · rw [if_pos h1, if_pos h1]
      exact ih (x, y)
    · rw [if_neg h1, if_neg h1]
      by_cases h2 : l[i].f0 > b
      · rw [if_pos h2, if_pos h2]
        exact ih (l[i].f0, l[i].f0)
      · rw [if_neg h2, if_neg h2]
        exact ih (l[i].f0, y)
def fstv (l : List S51) (self : Int) : Int := match l.find? (fun c => decide (c.f0 ≠ self)) with | some c => c.f0 | none => -1
def lov (l : List S51) (self s : Int) : Int := if s = -1 then fstv l self else s
def endv (lo : Int) : Int × Int := if lo = -1 then (4, 0) else (0, lo)
def lowv (l : List S51) (self last s : Int) : Int × Int :=
  match l.find? (fun c => decide (c.f0 ≠ self ∧ c.f0 > last)) with
  | some c => (0, c.f0)
  | none => endv (lov l self s)
theorem impl_NextTarget_l0 (l : List S51) (hl : l.length ≤ 10) (hp : ∀ c ∈ l, 0 ≤ c.f0) (a b : Int) (k : Nat) (hk : 20 ≤ k) : impl_NextTarget.l0 k a b (-1) l (l.length : Int) 0 = some (lowv l a b (-1)) := by
  refine loop_up (fun k s i => impl_NextTarget.l0 k a b s l (l.length : Int) i) l.length 0 (fun s i => lowv (l.drop i) a b s) (fun s i => True) ?_ ?_ k (-1) 0 0 rfl (by omega) trivial (by omega)
  · intro k s _ _
    simp only [impl_NextTarget.l0, impl_noInt.f, Option.bind_some]
    rw [if_neg (by omega), List.drop_length]
    by_cases h : s = -1
    · subst h
      rfl
    · rw [if_neg h]
      have e : lov [] a s = s := if_neg h
      have e3 : endv s = (0, s) := if_neg h
      show _ = some (endv (lov [] a s))
      rw [e, e3]
  · intro k s i hi _ _ ih
    have e2 : wrap64 ((i : Int) + 1) = (i : Int) + 1 := w64 (by omega) (by omega)
    have hy : rd_T51 l (i : Int) = l[i] := by simp only [rd_T51, Int.toNat_natCast, getD_at _ _ _ hi]
    have hq := hp l[i] (List.getElem_mem _)
    simp only [impl_NextTarget.l0, e2]
    rw [if_pos (by omega), if_pos (by omega), if_pos (by omega), hy, drop_cons l i hi]
    by_cases h1 : l[i].f0 = a
    · rw [if_pos h1, ih _ trivial]
      unfold lowv lov fstv
      rw [List.find?_cons_of_neg (by simp [h1]), List.find?_cons_of_neg (by simp [h1])]
    · rw [if_neg h1]
      by_cases h2 : l[i].f0 > b
      · rw [if_pos h2]
        unfold lowv
        rw [List.find?_cons_of_pos (by simp [h1, h2])]
      · rw [if_neg h2]
        by_cases h3 : s = -1
        · rw [if_pos h3, ih _ trivial]
          have e1 : lov (l.drop (i + 1)) a l[i].f0 = l[i].f0 := if_neg (by omega)
          have e3 : lov (l[i] :: l.drop (i + 1)) a s = l[i].f0 := by
            unfold lov fstv
            rw [if_pos h3, List.find?_cons_of_pos (by simp [h1])]
          unfold lowv
          rw [List.find?_cons_of_neg (by simp [h2]), e1, e3]
        · rw [if_neg h3, ih _ trivial]
          have e1 : lov (l.drop (i + 1)) a s = s := if_neg h3
          have e3 : lov (l[i] :: l.drop (i + 1)) a s = s := if_neg h3
          unfold lowv
          rw [List.find?_cons_of_neg (by simp [h2]), e1, e3]
theorem okv_node {l : List S51} (h : l.all okv = true) : ∀ c ∈ l, 0 ≤ c.f0 ∧ c.f0 ≤ 3 := by
  intro c hc
  have h1 := List.all_eq_true.1 h c hc
  have h2 := cfv_ok (of_decide_eq_true h1)
  exact h2.1
def ntv (l : List S51) (a b : Int) : Int × Int := if vfv l = 0 then (if (0 ≤ a ∧ a ≤ 3) ∧ (-1 ≤ b ∧ b ≤ 3) then (if nextv l a b < 0 then (4, 0) else (0, nextv l a b)) else (3, 0)) else (vfv l, 0)
theorem lowv_eq (l : List S51) (hp : ∀ c ∈ l, 0 ≤ c.f0) (a b : Int) : lowv l a b (-1) = if nextv l a b < 0 then (4, 0) else (0, nextv l a b) := by
  have e0 : lov l a (-1) = fstv l a := if_pos rfl
  unfold lowv nextv
  rw [e0]
  cases h1 : l.find? (fun c => decide (c.f0 ≠ a ∧ c.f0 > b)) with
  | some c =>
    have := hp c (List.mem_of_find?_eq_some h1)
    simp only
    rw [if_neg (by omega)]
  | none =>
    simp only
    unfold fstv endv
    cases h2 : l.find? (fun c => decide (c.f0 ≠ a)) with
    | some c =>
      have := hp c (List.mem_of_find?_eq_some h2)
      simp only
      rw [if_neg (by omega), if_neg (by omega)]
    | none => simp
theorem spec_NextTarget_at (l : List S51) (a b : Int) (k : Nat) (hk : 60 ≤ k) : spec_NextTarget.f k l a b = some (ntv l a b) := by
  obtain ⟨k, rfl⟩ : ∃ x, k = x + 1 := ⟨k - 1, by omega⟩
  unfold spec_NextTarget.f ntv spec_l9Node.f
  rw [spec_ViewFault_at l (k + 1) (by omega)]
  simp only [Option.bind_some, spec_in_at, decide_eq_true_eq, spec_NextTarget.j0]
  by_cases h : vfv l = 0
  rotate_left
  · rw [if_neg h, if_neg h]
  have hv := vfv_ok h
  rw [if_pos h, if_pos h, spec_l9Next_at l (by omega) (fun c hc => (okv_node hv.2.1 c hc).1) a b k (by omega)]
  by_cases h1 : 0 ≤ a ∧ a ≤ 3
  rotate_left
  · simp only [h1, if_false, false_and, if_true, and_self]
  by_cases h2 : -1 ≤ b ∧ b ≤ 3
  · simp only [h1, h2, if_true, and_true, and_self, decide_true, Bool.not_true, Bool.false_eq_true, if_false, Option.bind_some]
    split <;> rfl
  · simp only [h1, h2, if_true, and_false, and_self, decide_false, Bool.not_false, if_false]
theorem impl_NextTarget_at (l : List S51) (a b : Int) (k : Nat) (hk : 60 ≤ k) : impl_NextTarget.f k l a b = some (ntv l a b) := by
  obtain ⟨k, rfl⟩ : ∃ x, k = x + 1 := ⟨k - 1, by omega⟩
  unfold impl_NextTarget.f ntv impl_isNode.f
  rw [impl_ViewFault_at l (k + 1) (by omega)]
  simp only [Option.bind_some, impl_in_at, decide_eq_true_eq, impl_NextTarget.j0, impl_noInt.f]
  by_cases h : vfv l = 0
  rotate_left
  · rw [if_neg h, if_neg h]
  have hv := vfv_ok h
  rw [if_pos h, if_pos h, impl_NextTarget_l0 l (by omega) (fun c hc => (okv_node hv.2.1 c hc).1) a b k (by omega), lowv_eq l (fun c hc => (okv_node hv.2.1 c hc).1)]
  by_cases h1 : 0 ≤ a ∧ a ≤ 3
  rotate_left
  · simp only [h1, if_false, false_and, if_true, and_self]
  by_cases h2 : -1 ≤ b ∧ b ≤ 3
  · simp only [h1, h2, if_true, and_true, and_self, decide_true, Bool.not_true, Bool.false_eq_true, if_false]
  · simp only [h1, h2, if_true, and_false, and_self, decide_false, Bool.not_false, if_false]
theorem lwNums_at (a b : List Int) (hl : a.length ≤ 1000000000) (k : Nat) (hk : a.length < k) : laws_lwNums.f k a b = some (decide (a = b)) := by
  unfold laws_lwNums.f
  by_cases hn : a.length = b.length
  rotate_left
  · rw [if_neg (by omega), decide_eq_false (fun h => hn (by rw [h]))]
  rw [if_pos (by omega)]
  refine loop_up (fun k (_ : Unit) i => laws_lwNums.l0 k a b i) a.length 0 (fun _ i => decide (a.drop i = b.drop i)) (fun _ _ => True) ?_ ?_ k () 0 0 rfl (Nat.zero_le _) trivial (by omega)
  · intro k _ _ _
    simp only [laws_lwNums.l0]
    rw [if_neg (by omega), List.drop_length, hn, List.drop_length]
    rfl
  · intro k _ i hi _ _ ih
    have hj : i < b.length := by omega
    simp only [laws_lwNums.l0]
    rw [if_pos (by omega), if_pos (by omega), if_pos (by omega), w64 (by omega) (by omega)]
    have hx : rd a (i : Int) = a[i] := by simp only [rd, Int.toNat_natCast, getD_at _ _ _ hi]
    have hy : rd b (i : Int) = b[i] := by simp only [rd, Int.toNat_natCast, getD_at _ _ _ hj]
    rw [hx, hy, drop_cons a i hi, drop_cons b i hj]
    by_cases h : a[i] = b[i]
    · rw [if_pos h, ih () trivial, h]
      exact congrArg some (by simp only [List.cons.injEq, true_and])
    · rw [if_neg h]
      exact congrArg some (decide_eq_false (fun e => h (List.cons.inj e).1)).symm
theorem l8Draw_l0 {code : List Int} (h : Bytes code) (d : Nat) : ∀ (k : Nat) (l : List S51) (i p : Int), i = 4 - (d : Int) → 0 ≤ i → d < k → (l.length : Int) ≤ i → 0 ≤ p → p + 10 * d ≤ 900000 →
    ∃ l' p', spec_l8Draw.l0 k l i code p = some (l', p') ∧ l'.length ≤ 4 ∧ p ≤ p' ∧ p' ≤ p + 5 * d := by
  induction d with
  | zero =>
    intro k l i p hi h0 hk hl hp hp2
    obtain ⟨k, rfl⟩ : ∃ m, k = m + 1 := ⟨k - 1, by omega⟩
    simp only [spec_l8Draw.l0]
    rw [if_neg (by omega)]
    exact ⟨l, p, rfl, by omega, by omega, by omega⟩
  | succ d ih =>
    intro k l i p hi h0 hk hl hp hp2
    obtain ⟨k, rfl⟩ : ∃ m, k = m + 1 := ⟨k - 1, by omega⟩
    have e2 : wrap64 (i + 1) = i + 1 := w64 (by omega) (by omega)
    obtain ⟨b, e1⟩ := chance_at h p 4 (by omega) (by omega)
    obtain ⟨a, b', c, x, e3, _⟩ := claim_at h (p + 1) (by omega)
    simp only [spec_l8Draw.l0, e2]
    rw [if_pos (by omega), e1]
    simp only [Option.bind_some]
    cases b with
    | true =>
      rw [if_pos rfl]
      obtain ⟨l', p', f1, f2, f3, f4⟩ := ih k l (i + 1) (p + 1) (by omega) (by omega) (by omega) (by omega) (by omega) (by omega)
      exact ⟨l', p', f1, f2, by omega, by omega⟩
    | false =>
      rw [if_neg (by decide), e3]
      simp only [Option.bind_some]
      rw [if_pos (by omega)]
      obtain ⟨l', p', f1, f2, f3, f4⟩ := ih k (l ++ [⟨i, b', c, x⟩]) (i + 1) (p + 1 + 4) (by omega) (by omega) (by omega) (by simp; omega) (by omega) (by omega)
      exact ⟨l', p', f1, f2, by omega, by omega⟩
theorem l8Draw_at {code : List Int} (h : Bytes code) (k : Nat) (p : Int) (hk : 10 ≤ k) (hp : 0 ≤ p) (hp2 : p ≤ 800000) : ∃ l p', spec_l8Draw.f k code p = some (l, p') ∧ l.length ≤ 4 ∧ p ≤ p' ∧ p' ≤ p + 20 := by
  obtain ⟨l, p', f1, f2, f3, f4⟩ := l8Draw_l0 h 4 k [] 0 p (by omega) (by omega) (by omega) (by simp) hp (by omega)
  exact ⟨l, p', f1, f2, f3, by omega⟩
theorem l8Bent_at {code : List Int} (h : Bytes code) (k : Nat) (p : Int) (hk : 10 ≤ k) (hp : 0 ≤ p) (hp2 : p ≤ 700000) : ∃ l p', spec_l8Bent.f k code p = some (l, p') ∧ l.length ≤ 8 ∧ p ≤ p' ∧ p' ≤ p + 30 := by
  obtain ⟨l, q, e1, hl, hq, hq2⟩ := l8Draw_at h k p hk hp (by omega)
  obtain ⟨v, e2, _⟩ := next_at h q 14 (by omega) (by omega)
  obtain ⟨a, b, c, d, e3, _⟩ := claim_at h (q + 1) (by omega)
  obtain ⟨x, e4, _⟩ := pick_at h (q + 1) (by omega) [3, 4] (by decide) (by decide)
  obtain ⟨y, e5, _⟩ := pick_at h (q + 1) (by omega) [3, -1, 2] (by decide) (by decide)
  unfold spec_l8Bent.f
  simp only [e1, e2, e3, e4, e5, Option.bind_some]
  rw [if_pos (show l.length < 4398046511104 by omega), if_pos (show l.length < 4398046511104 by omega), if_pos (show l.length + l.length < 4398046511104 by omega)]
  repeat' split
  all_goals first | exact ⟨_, _, rfl, by omega, by omega, by omega⟩ | exact ⟨_, _, rfl, by simp; omega, by omega, by omega⟩ | (exfalso; omega)
theorem drawNextTarget_at {code : List Int} (h : Bytes code) (k : Nat) (hk : 10 ≤ k) : ∃ l a b, spec_DrawNextTarget.f k code = some (l, a, b) ∧ l.length ≤ 8 := by
  obtain ⟨l, q, e1, hl, hq, hq2⟩ := l8Bent_at h k 0 hk (by omega) (by omega)
  obtain ⟨x, e4, _⟩ := pick_at h q (by omega) [0, 1, 2, 3, 4] (by decide) (by decide)
  obtain ⟨y, e5, _⟩ := pick_at h (q + 1) (by omega) [-1, 0, 1, 2, 3, 4, -2] (by decide) (by decide)
  unfold spec_DrawNextTarget.f spec_l1Source.f
  simp only [e1, e4, e5, Option.bind_some]
  exact ⟨_, _, _, rfl, hl⟩
theorem drawHelpersFor_at {code : List Int} (h : Bytes code) (k : Nat) (hk : 10 ≤ k) : ∃ l a b c, spec_DrawHelpersFor.f k code = some (l, a, b, c) ∧ l.length ≤ 8 := by
  obtain ⟨l, q, e1, hl, hq, hq2⟩ := l8Bent_at h k 0 hk (by omega) (by omega)
  obtain ⟨x, e4, _⟩ := pick_at h q (by omega) [0, 1, 2, 3, -1] (by decide) (by decide)
  obtain ⟨y, e5, _⟩ := pick_at h (q + 1) (by omega) [0, 1, 2, 3, 4] (by decide) (by decide)
  obtain ⟨z, e6, _⟩ := pick_at h (q + 1 + 1) (by omega) [0, 1, 2, 4, 5] (by decide) (by decide)
  unfold spec_DrawHelpersFor.f spec_l1Source.f
  simp only [e1, e4, e5, e6, Option.bind_some]
  exact ⟨_, _, _, _, rfl, hl⟩
def nvn (ns : List Int) (a b : Int) : Int :=
  match ns.find? (fun x => decide (x ≠ a ∧ x > b)) with
  | some x => x
  | none => (match ns.find? (fun x => decide (x ≠ a)) with | some x => x | none => -1)
theorem nextv_nodes (l : List S51) (a b : Int) : nextv l a b = nvn (l.map (·.f0)) a b := by
  unfold nextv nvn
  rw [List.find?_map, List.find?_map]
  show _ = (match Option.map (fun c : S51 => c.f0) (l.find? (fun c : S51 => decide (c.f0 ≠ a ∧ c.f0 > b))) with | some x => x | none => (match Option.map (fun c : S51 => c.f0) (l.find? (fun c : S51 => decide (c.f0 ≠ a))) with | some x => x | none => -1))
  cases l.find? (fun c => decide (c.f0 ≠ a ∧ c.f0 > b)) with
  | some c => rfl
  | none =>
    cases l.find? (fun c => decide (c.f0 ≠ a)) with
    | some c => rfl
    | none => rfl
def cyc (ns : List Int) (self : Int) : Nat → List Int → Int → Bool
  | 0, seen, now => (match seen with | [] => false | s :: _ => nvn ns self now == s)
  | d + 1, seen, now => decide (0 ≤ nvn ns self now) && (decide (nvn ns self now ≠ self) && (ns.contains (nvn ns self now) && (!seen.contains (nvn ns self now) && cyc ns self d (seen ++ [nvn ns self now]) (nvn ns self now))))
def subs : List (List Int) := [[], [0], [1], [2], [3], [0, 1], [0, 2], [0, 3], [1, 2], [1, 3], [2, 3], [0, 1, 2], [0, 1, 3], [0, 2, 3], [1, 2, 3], [0, 1, 2, 3]]
theorem cyc_all : ∀ ns ∈ subs, ∀ self ∈ [(0 : Int), 1, 2, 3], ∀ last ∈ [(-1 : Int), 0, 1, 2, 3], (ns.filter (fun x => decide (x ≠ self))).length = 0 ∨ cyc ns self (ns.filter (fun x => decide (x ≠ self))).length [] last = true := by decide +kernel
theorem one_of {x : Int} (h : 0 ≤ x ∧ x ≤ 3) : x = 0 ∨ x = 1 ∨ x = 2 ∨ x = 3 := by omega
theorem nodes_subs (l : List S51) (h4 : l.length ≤ 4) (ha : ascv l = true) (hp : ∀ c ∈ l, 0 ≤ c.f0 ∧ c.f0 ≤ 3) : l.map (·.f0) ∈ subs := by
  match l, h4, ha, hp with
  | [], _, _, _ => simp [subs]
  | [a], _, _, hp =>
    have h1 := hp a (by simp)
    rcases one_of h1 with h | h | h | h <;> simp [subs, h]
  | [a, b], _, ha, hp =>
    have h1 := hp a (by simp)
    have h2 := hp b (by simp)
    simp only [ascv, Bool.and_true, decide_eq_true_eq] at ha
    rcases one_of h1 with h | h | h | h <;> rcases one_of h2 with g | g | g | g <;> first | (exfalso; omega) | simp [subs, h, g]
  | [a, b, c], _, ha, hp =>
    have h1 := hp a (by simp)
    have h2 := hp b (by simp)
    have h3 := hp c (by simp)
    simp only [ascv, Bool.and_true, Bool.and_eq_true, decide_eq_true_eq] at ha
    rcases one_of h1 with h | h | h | h <;> rcases one_of h2 with g | g | g | g <;> first | (exfalso; omega) | (rcases one_of h3 with f | f | f | f <;> first | (exfalso; omega) | simp [subs, h, g, f])
  | [a, b, c, d], _, ha, hp =>
    have h1 := hp a (by simp)
    have h2 := hp b (by simp)
    have h3 := hp c (by simp)
    have h4 := hp d (by simp)
    simp only [ascv, Bool.and_true, Bool.and_eq_true, decide_eq_true_eq] at ha
    have e1 : a.f0 = 0 := by omega
    have e2 : b.f0 = 1 := by omega
    have e3 : c.f0 = 2 := by omega
    have e4 : d.f0 = 3 := by omega
    simp [subs, e1, e2, e3, e4]
  | _ :: _ :: _ :: _ :: _ :: _, h4, _, _ => simp at h4 <;> omega
theorem fcv_code (l : List S51) (hv : vfv l = 0) (a : Int) (h : (l.map (·.f0)).contains a = true) : (fcv l a).1 = 0 := by
  unfold fcv
  rw [if_pos hv]
  cases e : l.find? (fun c => decide (c.f0 = a)) with
  | some c => rfl
  | none =>
    exfalso
    rw [List.find?_eq_none] at e
    simp only [List.contains_iff_mem, List.mem_map] at h
    obtain ⟨c, hc, hca⟩ := h
    exact e c hc (by simpa using hca)
theorem ntv_ok (l : List S51) (hv : vfv l = 0) (a b : Int) (ha : 0 ≤ a ∧ a ≤ 3) (hb : -1 ≤ b ∧ b ≤ 3) (hn : 0 ≤ nextv l a b) : ntv l a b = (0, nextv l a b) := by
  unfold ntv
  rw [if_pos hv, if_pos ⟨ha, hb⟩, if_neg (by omega)]
theorem targets_l2 (v : List S51) (self n : Int) (seen : List Int) (i c x : Int) (hs : seen.length ≤ 10) (hx : seen.contains x = false) (k : Nat) (hk : 20 ≤ k)
    (hl : ∀ k', k ≤ k' + 15 → laws_FnTargets.l1 k' v self n (seen ++ [x]) x (wrap64 (i + 1)) = some true) : laws_FnTargets.l2 k v self n seen i 0 c x = some true := by
  have hno : ∀ (j : Nat) (hj : j < seen.length), seen[j] ≠ x := by
    intro j hj e
    have hm : x ∈ seen := e ▸ List.getElem_mem hj
    rw [List.contains_iff_mem.2 hm] at hx
    cases hx
  have key : ∀ (d j : Nat) (k' : Nat), j + d = seen.length → k ≤ k' + j → laws_FnTargets.l2 k' v self n seen i (j : Int) c x = some true := by
    intro d
    induction d with
    | zero =>
      intro j k' hj hk'
      obtain ⟨k', rfl⟩ : ∃ m, k' = m + 1 := ⟨k' - 1, by omega⟩
      simp only [laws_FnTargets.l2]
      rw [if_neg (by omega), if_pos (by omega)]
      exact hl k' (by omega)
    | succ d ih =>
      intro j k' hj hk'
      obtain ⟨k', rfl⟩ : ∃ m, k' = m + 1 := ⟨k' - 1, by omega⟩
      have e2 : wrap64 ((j : Int) + 1) = ((j + 1 : Nat) : Int) := by rw [w64 (by omega) (by omega)]; omega
      have hy : rd seen (j : Int) = seen[j]'(by omega) := by simp only [rd, Int.toNat_natCast, getD_at _ _ _ (show j < seen.length by omega)]
      simp only [laws_FnTargets.l2, e2]
      rw [if_pos (by omega), if_pos (by omega), hy, if_neg (hno j (by omega))]
      exact ih (j + 1) k' (by omega) (by omega)
  exact key seen.length 0 k (by omega) (by omega)
theorem targets_l1 (v : List S51) (hv : vfv v = 0) (self : Int) (hself : 0 ≤ self ∧ self ≤ 3) (d : Nat) : ∀ (k : Nat) (n : Int) (seen : List Int) (now i : Int), n = i + d → 0 < n → (seen.length : Int) = i → n ≤ 4 → -1 ≤ now ∧ now ≤ 3 → (∀ y ∈ seen, 0 ≤ y) → 40 * d + 100 ≤ k →
    cyc (v.map (·.f0)) self d seen now = true → laws_FnTargets.l1 k v self n seen now i = some true := by
  have hok := vfv_ok hv
  induction d with
  | zero =>
    intro k n seen now i hn hn0 hs hn4 hnow hpos hk hc
    obtain ⟨k, rfl⟩ : ∃ m, k = m + 1 := ⟨k - 1, by omega⟩
    simp only [laws_FnTargets.l1]
    rw [if_neg (by omega), if_pos (by omega), impl_NextTarget_at v self now k (by omega)]
    simp only [Option.bind_some]
    rw [if_pos (by omega)]
    match seen, hs, hc, hpos with
    | [], hs, hc, _ => simp at hs; omega
    | s :: t, hs, hc, hpos =>
      have h1 : nvn (v.map (·.f0)) self now = s := by simpa [cyc] using hc
      rw [← nextv_nodes] at h1
      have h0 := hpos s (by simp)
      rw [ntv_ok v hv self now hself hnow (by omega)]
      have hr : rd (s :: t) 0 = s := rfl
      rw [hr, h1]
      simp
  | succ d ih =>
    intro k n seen now i hn hn0 hs hn4 hnow hpos hk hc
    obtain ⟨k, rfl⟩ : ∃ m, k = m + 2 := ⟨k - 2, by omega⟩
    simp only [cyc, Bool.and_eq_true, decide_eq_true_eq, Bool.not_eq_true'] at hc
    obtain ⟨c1, c2, c3, c4, c5⟩ := hc
    rw [← nextv_nodes] at c1 c2 c3 c4 c5
    have hx3 : nextv v self now ≤ 3 := by
      simp only [List.contains_iff_mem, List.mem_map] at c3
      obtain ⟨c, hc, hca⟩ := c3
      have := okv_node hok.2.1 c hc
      omega
    simp only [laws_FnTargets.l1]
    rw [if_pos (by omega), impl_NextTarget_at v self now (k + 1) (by omega), ntv_ok v hv self now hself hnow c1]
    simp only [Option.bind_some, ↓reduceIte]
    rw [if_neg c2, impl_FindClaim_at v _ (k + 1) (by omega)]
    simp only [Option.bind_some]
    rw [fcv_code v hv _ c3]
    have e0 : ((0 : Int) != 0) = false := rfl
    simp only [e0, laws_FnTargets.j4, Bool.false_eq_true, ↓reduceIte]
    refine targets_l2 v self n seen i 0 (nextv v self now) (by omega) c4 k (by omega) ?_
    intro k' hk'
    rw [w64 (by omega) (by omega)]
    exact ih k' n (seen ++ [nextv v self now]) (nextv v self now) (i + 1) (by omega) hn0 (by simp; omega) hn4 ⟨by omega, hx3⟩ (by
      intro y hy
      rcases List.mem_append.1 hy with h | h
      · exact hpos y h
      · rw [List.mem_singleton.1 h]
        exact c1) (by omega) c5
def cnt (self : Int) (l : List S51) : Nat := (l.filter (fun c => decide (c.f0 ≠ self))).length
theorem cnt_nodes (self : Int) (l : List S51) : ((l.map (·.f0)).filter (fun x => decide (x ≠ self))).length = cnt self l := by
  rw [List.filter_map, List.length_map]
  rfl
theorem cnt_succ (self : Int) (l : List S51) (i : Nat) (h : i < l.length) : cnt self (l.take (i + 1)) = if l[i].f0 = self then cnt self (l.take i) else cnt self (l.take i) + 1 := by
  unfold cnt
  rw [take_succ l i h, List.filter_append, List.length_append]
  by_cases e : l[i].f0 = self
  · rw [if_pos e, List.filter_cons_of_neg (by simp [e])]
    rfl
  · rw [if_neg e, List.filter_cons_of_pos (by simp [e])]
    rfl
theorem targets_l0 (v : List S51) (hv : vfv v = 0) (self last : Int) (hself : 0 ≤ self ∧ self ≤ 3) (hlast : -1 ≤ last ∧ last ≤ 3) (hn : 0 ≤ nextv v self last) (k : Nat) (hk : 500 ≤ k) : laws_FnTargets.l0 k v self last 0 0 = some true := by
  have hok := vfv_ok hv
  refine loop_up (fun k (c : Int) i => laws_FnTargets.l0 k v self last c i) v.length 300 (fun _ _ => true) (fun c i => c = cnt self (v.take i)) ?_ ?_ k 0 0 0 rfl (by omega) rfl (by omega)
  · intro k c hc hm
    simp only [laws_FnTargets.l0]
    rw [if_neg (by omega)]
    rw [List.take_length] at hc
    subst hc
    have hs := nodes_subs v hok.1 hok.2.2 (okv_node hok.2.1)
    have h4 : cnt self v ≤ 4 := by
      have := List.length_filter_le (fun c : S51 => decide (c.f0 ≠ self)) v
      unfold cnt
      omega
    have hself' : self ∈ [(0 : Int), 1, 2, 3] := by
      rcases one_of hself with h | h | h | h <;> simp [h]
    have hlast' : last ∈ [(-1 : Int), 0, 1, 2, 3] := by
      by_cases e : last = -1
      · simp [e]
      · rcases one_of (show 0 ≤ last ∧ last ≤ 3 by omega) with h | h | h | h <;> simp [h]
    have hpos : 0 < cnt self v := by
      unfold nextv at hn
      have hex : ∃ c ∈ v, c.f0 ≠ self := by
        cases e1 : v.find? (fun c => decide (c.f0 ≠ self ∧ c.f0 > last)) with
        | some c => exact ⟨c, List.mem_of_find?_eq_some e1, (by have := List.find?_some e1; simp at this; exact this.1)⟩
        | none =>
          cases e2 : v.find? (fun c => decide (c.f0 ≠ self)) with
          | some c => exact ⟨c, List.mem_of_find?_eq_some e2, (by have := List.find?_some e2; simpa using this)⟩
          | none =>
            rw [e1, e2] at hn
            simp at hn
      obtain ⟨c, hc, hcs⟩ := hex
      exact List.length_pos_of_mem (List.mem_filter.2 ⟨hc, by simpa using hcs⟩)
    have h := cyc_all _ hs self hself' last hlast'
    rw [cnt_nodes] at h
    rcases h with h | h
    · omega
    · exact targets_l1 v hv self hself (cnt self v) k (cnt self v) [] last 0 (by omega) (by omega) rfl (by omega) hlast (by simp) (by omega) h
  · intro k c i hi hc _ ih
    have hle : cnt self (v.take i) ≤ 4 := by
      have h5 := List.length_filter_le (fun c : S51 => decide (c.f0 ≠ self)) (v.take i)
      have h6 : (v.take i).length ≤ v.length := List.length_take_le' i v
      exact Nat.le_trans h5 (Nat.le_trans h6 hok.1)
    have hcs := cnt_succ self v i hi
    have hi2 : (i : Int) < 100 := by
      have := hok.1
      omega
    have hy : rd_T51 v (i : Int) = v[i] := by simp only [rd_T51, Int.toNat_natCast, getD_at _ _ _ hi]
    have hi3 : (i : Int) < (v.length : Int) := by omega
    have hi4 : 0 ≤ (i : Int) := by omega
    simp only [laws_FnTargets.l0]
    rw [w64 (x := (i : Int) + 1) (by omega) (by omega), if_pos hi3, if_pos hi4, hy]
    generalize hz : cnt self (v.take i) = z at *
    by_cases e : v[i].f0 = self
    · rw [if_pos e]
      rw [if_pos e] at hcs
      exact ih c (by rw [hcs]; exact hc)
    · rw [if_neg e]
      rw [if_neg e] at hcs
      have hc2 : c + 1 = ((z + 1 : Nat) : Int) := by omega
      rw [w64 (by omega) (by omega)]
      exact ih (c + 1) (by rw [hcs]; exact hc2)
end Go.Proofs.Ytpinapnhohjipaa.Pure
