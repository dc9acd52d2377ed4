/- What the printed functions of the law FnExactViewFault answer, as plain Lean. -/
import Derived.Test.YtldhhghppgkeaaaStFnExactViewFault
import Derived.Test.YtldhhghppgkeaaaBase
namespace Go.Proofs.Ytldhhghppgkeaaa.Pure
open Go.RowKit Go.Proofs.Ytldhhghppgkeaaa.Open Go.Proofs.Ytldhhghppgkeaaa.Base Go.Proofs.Ytldhhghppgkeaaa.PFnExactViewFault Go.Proofs.YtldhhghppgkeaaaW.PrintWords Go.Proofs.YtldhhghppgkeaaaW.PrintLast
set_option linter.unusedVariables false
set_option linter.unusedSimpArgs false

theorem eqClaimS_self (l : List S25) (hl : l.length ≤ 1000000000) (k : Nat) (hk : l.length < k) : laws_eqClaimS.f k l l = some true := by
  unfold laws_eqClaimS.f
  rw [if_pos rfl]
  refine loop_up (fun k (_ : Unit) i => laws_eqClaimS.l0 k l l i) l.length 0 (fun _ _ => true) (fun _ _ => True) ?_ ?_ k () 0 0 rfl (Nat.zero_le _) trivial (by omega)
  · intro k _ _ _
    simp only [laws_eqClaimS.l0]
    rw [if_neg (by omega)]
  · intro k _ i hi _ _ ih
    simp only [laws_eqClaimS.l0, laws_eqClaim.f]
    rw [if_pos (by omega), if_pos (by omega), if_pos (by omega), w64 (by omega) (by omega)]
    simp only [eq_self, ↓reduceIte, Option.bind_some]
    exact ih () trivial

theorem szClaimS_at (l : List S23) (a : Int) (h0 : 0 ≤ a) (h1 : a ≤ 1048576) (hl : l.length ≤ maxLen) : laws_szClaimS.f l a = some (if a < l.length then -1 else a - l.length) := by
  unfold maxLen at hl
  unfold laws_szClaimS.f
  rw [w64 (by omega) (by omega)]
  by_cases h : a < l.length
  · rw [if_pos (by omega), if_pos h]
  · rw [if_neg (by omega), if_neg h]

def cvClaim (x : S23) : S25 := ⟨x.f0, x.f1, x.f2, x.f3⟩
theorem toClaimS_at (l : List S23) (hl : l.length ≤ 1000000000) (k : Nat) (hk : l.length < k) : laws_toClaimS.f k l = some (l.map cvClaim) := by
  unfold laws_toClaimS.f
  rw [if_pos (by omega), if_pos (by omega)]
  refine to_loop (fun k s i => laws_toClaimS.l0 k l s i) l cvClaim ?_ ?_ k _ (by simp) hk
  · intro k s hs
    simp only [laws_toClaimS.l0]
    rw [if_neg (by omega)]
  · intro k s i hi hs
    simp only [laws_toClaimS.l0, laws_toClaim.f]
    rw [if_pos (by omega), if_pos (by omega)]
    simp only [Option.bind_some]
    rw [if_pos (by omega), w64 (by omega) (by omega)]
    simp only [Int.toNat_natCast, rd_T23, getD_at _ _ _ hi, cvClaim]
theorem impl_in_at (a b c : Int) : impl_in.f a b c = some (decide (b ≤ a ∧ a ≤ c)) := by
  unfold impl_in.f
  by_cases h : a ≥ b
  · rw [if_pos h]
    have h' : b ≤ a := h
    simp [h']
  · rw [if_neg h]
    have h' : ¬ b ≤ a := h
    simp [h']
theorem spec_in_at (a b c : Int) : spec_l1In.f a b c = some (decide (b ≤ a ∧ a ≤ c)) := by
  unfold spec_l1In.f
  by_cases h : a ≥ b
  · rw [if_pos h]
    have h' : b ≤ a := h
    simp [h']
  · rw [if_neg h]
    have h' : ¬ b ≤ a := h
    simp [h']
def cfv (a b c d : Int) : Int := if (0 ≤ a ∧ a ≤ 3) ∧ (0 ≤ b ∧ b ≤ 1000000) ∧ (0 ≤ c ∧ c ≤ 2) ∧ (0 ≤ d ∧ d ≤ 9999999) then 0 else 3
theorem cfv_or (a b c d : Int) : cfv a b c d = 0 ∨ cfv a b c d = 3 := by
  unfold cfv
  split
  · exact .inl rfl
  · exact .inr rfl
theorem cfv_ok {a b c d : Int} (h : cfv a b c d = 0) : (0 ≤ a ∧ a ≤ 3) ∧ (0 ≤ b ∧ b ≤ 1000000) ∧ (0 ≤ c ∧ c ≤ 2) ∧ (0 ≤ d ∧ d ≤ 9999999) := by
  unfold cfv at h
  split at h
  · assumption
  · omega
theorem impl_ClaimFault_at (a b c d : Int) : impl_ClaimFault.f a b c d = some (cfv a b c d) := by
  simp only [impl_ClaimFault.f, impl_isNode.f, impl_isStatus.f, impl_in_at, Option.bind_some, decide_eq_true_eq]
  unfold cfv
  repeat' split
  all_goals first | rfl | (exfalso; omega)
theorem spec_ClaimFault_at (a b c d : Int) : spec_ClaimFault.f a b c d = some (cfv a b c d) := by
  simp only [spec_ClaimFault.f, spec_in_at, Option.bind_some, decide_eq_true_eq]
  unfold cfv
  repeat' split
  all_goals first | rfl | (exfalso; omega)
def okv (c : S25) : Bool := decide (cfv c.f0 c.f1 c.f2 c.f3 = 0)
def ascv : List S25 → Bool
  | [] => true
  | [_] => true
  | x :: y :: t => decide (x.f0 < y.f0) && ascv (y :: t)
def vfv (l : List S25) : Int := if l.length > 4 then 2 else if l.all okv then (if ascv l then 0 else 1) else 3
theorem ascv_drop (l : List S25) (i : Nat) (h1 : 1 ≤ i) (h : i < l.length) : ascv (l.drop (i - 1)) = (decide ((l[i - 1]).f0 < l[i].f0) && ascv (l.drop i)) := by
  have e : i - 1 + 1 = i := by omega
  rw [drop_cons l (i - 1) (by omega)]
  simp only [e]
  rw [drop_cons l i h]
  rfl
theorem ascv_last (l : List S25) (h : 0 < l.length) : ascv (l.drop (l.length - 1)) = true := by
  have e : l.length - 1 + 1 = l.length := by omega
  rw [drop_cons l (l.length - 1) (by omega)]
  simp only [e]
  rw [List.drop_length]
  rfl
theorem spec_ViewFault_l1 (l : List S25) (hl : l.length ≤ 4) (k : Nat) (hk : 10 ≤ k) : spec_ViewFault.l1 k l 1 = some (if ascv l then 0 else 1) := by
  by_cases h0 : l.length = 0
  · obtain ⟨k, rfl⟩ : ∃ m, k = m + 1 := ⟨k - 1, by omega⟩
    rw [List.eq_nil_of_length_eq_zero h0]
    rfl
  refine loop_up (fun k (_ : Unit) i => spec_ViewFault.l1 k l i) l.length 0 (fun _ i => if ascv (l.drop (i - 1)) then 0 else 1) (fun _ i => 1 ≤ i) ?_ ?_ k () 1 1 rfl (by omega) (by omega) (by omega)
  · intro k _ _ _
    simp only [spec_ViewFault.l1]
    rw [if_neg (by omega), ascv_last l (by omega), if_pos rfl]
  · intro k _ i hi h1 _ ih
    have e1 : wrap64 ((i : Int) - 1) = ((i - 1 : Nat) : Int) := by rw [w64 (by omega) (by omega)]; omega
    have e2 : wrap64 ((i : Int) + 1) = (i : Int) + 1 := w64 (by omega) (by omega)
    have hx : rd_T25 l ((i - 1 : Nat) : Int) = l[i - 1] := by simp only [rd_T25, Int.toNat_natCast, getD_at _ _ _ (show i - 1 < l.length by omega)]
    have hy : rd_T25 l (i : Int) = l[i] := by simp only [rd_T25, Int.toNat_natCast, getD_at _ _ _ hi]
    simp only [spec_ViewFault.l1, e1, e2]
    rw [if_pos (by omega), if_pos (by omega), if_pos (by omega), if_pos (by omega), hx, hy, ascv_drop l i h1 hi]
    by_cases h : l[i].f0 ≤ l[i - 1].f0
    · rw [if_pos h, decide_eq_false (by omega), Bool.false_and]
      rfl
    · rw [if_neg h, decide_eq_true (by omega), Bool.true_and]
      exact ih () (by omega)
theorem impl_ViewFault_l1 (l : List S25) (hl : l.length ≤ 4) (k : Nat) (hk : 10 ≤ k) : impl_ViewFault.l1 k l 1 = some (if ascv l then 0 else 1) := by
  by_cases h0 : l.length = 0
  · obtain ⟨k, rfl⟩ : ∃ m, k = m + 1 := ⟨k - 1, by omega⟩
    rw [List.eq_nil_of_length_eq_zero h0]
    rfl
  refine loop_up (fun k (_ : Unit) i => impl_ViewFault.l1 k l i) l.length 0 (fun _ i => if ascv (l.drop (i - 1)) then 0 else 1) (fun _ i => 1 ≤ i) ?_ ?_ k () 1 1 rfl (by omega) (by omega) (by omega)
  · intro k _ _ _
    simp only [impl_ViewFault.l1]
    rw [if_neg (by omega), ascv_last l (by omega), if_pos rfl]
  · intro k _ i hi h1 _ ih
    have e1 : wrap64 ((i : Int) - 1) = ((i - 1 : Nat) : Int) := by rw [w64 (by omega) (by omega)]; omega
    have e2 : wrap64 ((i : Int) + 1) = (i : Int) + 1 := w64 (by omega) (by omega)
    have hx : rd_T25 l ((i - 1 : Nat) : Int) = l[i - 1] := by simp only [rd_T25, Int.toNat_natCast, getD_at _ _ _ (show i - 1 < l.length by omega)]
    have hy : rd_T25 l (i : Int) = l[i] := by simp only [rd_T25, Int.toNat_natCast, getD_at _ _ _ hi]
    simp only [impl_ViewFault.l1, e1, e2]
    rw [if_pos (by omega), if_pos (by omega), if_pos (by omega), if_pos (by omega), hx, hy, ascv_drop l i h1 hi]
    by_cases h : l[i - 1].f0 ≥ l[i].f0
    · rw [if_pos h, decide_eq_false (by omega), Bool.false_and]
      rfl
    · rw [if_neg h, decide_eq_true (by omega), Bool.true_and]
      exact ih () (by omega)
theorem okv_cases (c : S25) : (okv c = true ∧ cfv c.f0 c.f1 c.f2 c.f3 = 0) ∨ (okv c = false ∧ cfv c.f0 c.f1 c.f2 c.f3 = 3) := by
  rcases cfv_or c.f0 c.f1 c.f2 c.f3 with h | h
  · exact .inl ⟨by simp [okv, h], h⟩
  · exact .inr ⟨by simp [okv, h], h⟩
theorem spec_ViewFault_at (l : List S25) (k : Nat) (hk : 20 ≤ k) : spec_ViewFault.f k l = some (vfv l) := by
  unfold spec_ViewFault.f vfv
  by_cases hl : l.length > 4
  · rw [if_pos (by omega), if_pos hl]
  rw [if_neg (by omega), if_neg hl]
  refine loop_up (fun k (_ : Unit) i => spec_ViewFault.l0 k l i) l.length 10 (fun _ i => if (l.drop i).all okv then (if ascv l then 0 else 1) else 3) (fun _ i => True) ?_ ?_ k () 0 0 rfl (by omega) trivial (by omega)
  · intro k _ _ hm
    simp only [spec_ViewFault.l0]
    rw [if_neg (by omega), spec_ViewFault_l1 l (by omega) k (by omega), List.drop_length]
    rfl
  · intro k _ i hi _ _ ih
    have e2 : wrap64 ((i : Int) + 1) = (i : Int) + 1 := w64 (by omega) (by omega)
    have hy : rd_T25 l (i : Int) = l[i] := by simp only [rd_T25, Int.toNat_natCast, getD_at _ _ _ hi]
    simp only [spec_ViewFault.l0, e2, spec_ClaimFault_at, Option.bind_some]
    rw [if_pos (by omega), if_pos (by omega), hy, drop_cons l i hi, List.all_cons]
    rcases okv_cases l[i] with ⟨h, h'⟩ | ⟨h, h'⟩
    · rw [h, h', if_pos rfl, Bool.true_and]
      exact ih () trivial
    · rw [h, h', if_neg (by omega), Bool.false_and]
      rfl
theorem impl_ViewFault_at (l : List S25) (k : Nat) (hk : 20 ≤ k) : impl_ViewFault.f k l = some (vfv l) := by
  unfold impl_ViewFault.f vfv
  by_cases hl : l.length > 4
  · rw [if_pos (by omega), if_pos hl]
  rw [if_neg (by omega), if_neg hl]
  refine loop_up (fun k (_ : Unit) i => impl_ViewFault.l0 k l l (l.length : Int) i) l.length 10 (fun _ i => if (l.drop i).all okv then (if ascv l then 0 else 1) else 3) (fun _ i => True) ?_ ?_ k () 0 0 rfl (by omega) trivial (by omega)
  · intro k _ _ hm
    simp only [impl_ViewFault.l0]
    rw [if_neg (by omega), impl_ViewFault_l1 l (by omega) k (by omega), List.drop_length]
    rfl
  · intro k _ i hi _ _ ih
    have e2 : wrap64 ((i : Int) + 1) = (i : Int) + 1 := w64 (by omega) (by omega)
    have hy : rd_T25 l (i : Int) = l[i] := by simp only [rd_T25, Int.toNat_natCast, getD_at _ _ _ hi]
    simp only [impl_ViewFault.l0, e2, impl_ClaimFault_at, Option.bind_some]
    rw [if_pos (by omega), if_pos (by omega), if_pos (by omega), hy, drop_cons l i hi, List.all_cons]
    rcases okv_cases l[i] with ⟨h, h'⟩ | ⟨h, h'⟩
    · rw [h, h', if_pos rfl, Bool.true_and]
      exact ih () trivial
    · rw [h, h', if_neg (by omega), Bool.false_and]
      rfl
theorem vfv_ok {l : List S25} (h : vfv l = 0) : l.length ≤ 4 ∧ l.all okv = true ∧ ascv l = true := by
  unfold vfv at h
  split at h
  · omega
  · split at h
    · split at h
      · exact ⟨by omega, by assumption, by assumption⟩
      · omega
    · omega
theorem vfv_le {l : List S25} (h : ¬ vfv l = 0) : True := trivial
end Go.Proofs.Ytldhhghppgkeaaa.Pure
