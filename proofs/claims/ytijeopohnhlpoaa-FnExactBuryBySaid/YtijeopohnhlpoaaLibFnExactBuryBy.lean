/- What the printed functions of the law FnExactBuryBy answer, as plain Lean. -/
import Derived.Test.YtijeopohnhlpoaaStFnExactBuryBy
import Derived.Test.YtijeopohnhlpoaaBaFnExactBuryBy
namespace Go.Proofs.Ytijeopohnhlpoaa.Pure
open Go.RowKit Go.Proofs.Ytijeopohnhlpoaa.Open Go.Proofs.Ytijeopohnhlpoaa.Base Go.Proofs.Ytijeopohnhlpoaa.MFnExactBuryBy Go.Proofs.YtijeopohnhlpoaaW.PrintWords Go.Proofs.YtijeopohnhlpoaaW.PrintLast
set_option linter.unusedVariables false
set_option linter.unusedSimpArgs false

theorem eqClaimS_self (l : List S41) (hl : l.length ≤ 1000000000) (k : Nat) (hk : l.length < k) : laws_eqClaimS.f k l l = some true := by
  unfold laws_eqClaimS.f
  rw [if_pos rfl]
  refine loop_up (fun k (_ : Unit) i => laws_eqClaimS.l0 k l l i) l.length 0 (fun _ _ => true) (fun _ _ => True) ?_ ?_ k () 0 0 rfl (Nat.zero_le _) trivial (by omega)
  · intro k _ _ _
    simp only [laws_eqClaimS.l0]
    rw [if_neg (by omega)]
  · intro k _ i hi _ _ ih
    simp only [laws_eqClaimS.l0, laws_eqClaim.f]
    rw [if_pos (by omega), if_pos (by omega), if_pos (by omega), w64 (by omega) (by omega)]
    simp only [eq_self, ↓reduceIte, Option.bind_some]
    exact ih () trivial

theorem szClaimS_at (l : List S64) (a : Int) (h0 : 0 ≤ a) (h1 : a ≤ 1048576) (hl : l.length ≤ maxLen) : laws_szClaimS.f l a = some (if a < l.length then -1 else a - l.length) := by
  unfold maxLen at hl
  unfold laws_szClaimS.f
  rw [w64 (by omega) (by omega)]
  by_cases h : a < l.length
  · rw [if_pos (by omega), if_pos h]
  · rw [if_neg (by omega), if_neg h]

def cvClaim (x : S64) : S41 := ⟨x.f0, x.f1, x.f2, x.f3⟩
theorem toClaimS_at (l : List S64) (hl : l.length ≤ 1000000000) (k : Nat) (hk : l.length < k) : laws_toClaimS.f k l = some (l.map cvClaim) := by
  unfold laws_toClaimS.f
  rw [if_pos (by omega), if_pos (by omega)]
  refine to_loop (fun k s i => laws_toClaimS.l0 k l s i) l cvClaim ?_ ?_ k _ (by simp) hk
  · intro k s hs
    simp only [laws_toClaimS.l0]
    rw [if_neg (by omega)]
  · intro k s i hi hs
    simp only [laws_toClaimS.l0, laws_toClaim.f]
    rw [if_pos (by omega), if_pos (by omega)]
    simp only [Option.bind_some]
    rw [if_pos (by omega), w64 (by omega) (by omega)]
    simp only [Int.toNat_natCast, rd_T64, getD_at _ _ _ hi, cvClaim]
theorem impl_in_at (a b c : Int) : impl_in.f a b c = some (decide (b ≤ a ∧ a ≤ c)) := by
  unfold impl_in.f
  by_cases h : a ≥ b
  · rw [if_pos h]
    have h' : b ≤ a := h
    simp [h']
  · rw [if_neg h]
    have h' : ¬ b ≤ a := h
    simp [h']
theorem spec_in_at (a b c : Int) : spec_l1In.f a b c = some (decide (b ≤ a ∧ a ≤ c)) := by
  unfold spec_l1In.f
  by_cases h : a ≥ b
  · rw [if_pos h]
    have h' : b ≤ a := h
    simp [h']
  · rw [if_neg h]
    have h' : ¬ b ≤ a := h
    simp [h']
def cfv (a b c d : Int) : Int := if (0 ≤ a ∧ a ≤ 3) ∧ (0 ≤ b ∧ b ≤ 1000000) ∧ (0 ≤ c ∧ c ≤ 2) ∧ (0 ≤ d ∧ d ≤ 9999999) then 0 else 3
theorem cfv_or (a b c d : Int) : cfv a b c d = 0 ∨ cfv a b c d = 3 := by
  unfold cfv
  split
  · exact .inl rfl
  · exact .inr rfl
theorem cfv_ok {a b c d : Int} (h : cfv a b c d = 0) : (0 ≤ a ∧ a ≤ 3) ∧ (0 ≤ b ∧ b ≤ 1000000) ∧ (0 ≤ c ∧ c ≤ 2) ∧ (0 ≤ d ∧ d ≤ 9999999) := by
  unfold cfv at h
  split at h
  · assumption
  · omega
theorem impl_ClaimFault_at (a b c d : Int) : impl_ClaimFault.f a b c d = some (cfv a b c d) := by
  simp only [impl_ClaimFault.f, impl_isNode.f, impl_isStatus.f, impl_in_at, Option.bind_some, decide_eq_true_eq]
  unfold cfv
  repeat' split
  all_goals first | rfl | (exfalso; omega)
theorem spec_ClaimFault_at (a b c d : Int) : spec_ClaimFault.f a b c d = some (cfv a b c d) := by
  simp only [spec_ClaimFault.f, spec_in_at, Option.bind_some, decide_eq_true_eq]
  unfold cfv
  repeat' split
  all_goals first | rfl | (exfalso; omega)
def okv (c : S41) : Bool := decide (cfv c.f0 c.f1 c.f2 c.f3 = 0)
def ascv : List S41 → Bool
  | [] => true
  | [_] => true
  | x :: y :: t => decide (x.f0 < y.f0) && ascv (y :: t)
def vfv (l : List S41) : Int := if l.length > 4 then 2 else if l.all okv then (if ascv l then 0 else 1) else 3
theorem ascv_drop (l : List S41) (i : Nat) (h1 : 1 ≤ i) (h : i < l.length) : ascv (l.drop (i - 1)) = (decide ((l[i - 1]).f0 < l[i].f0) && ascv (l.drop i)) := by
  have e : i - 1 + 1 = i := by omega
  rw [drop_cons l (i - 1) (by omega)]
  simp only [e]
  rw [drop_cons l i h]
  rfl
theorem ascv_last (l : List S41) (h : 0 < l.length) : ascv (l.drop (l.length - 1)) = true := by
  have e : l.length - 1 + 1 = l.length := by omega
  rw [drop_cons l (l.length - 1) (by omega)]
  simp only [e]
  rw [List.drop_length]
  rfl
theorem spec_ViewFault_l1 (l : List S41) (hl : l.length ≤ 4) (k : Nat) (hk : 10 ≤ k) : spec_ViewFault.l1 k l 1 = some (if ascv l then 0 else 1) := by
  by_cases h0 : l.length = 0
  · obtain ⟨k, rfl⟩ : ∃ m, k = m + 1 := ⟨k - 1, by omega⟩
    rw [List.eq_nil_of_length_eq_zero h0]
    rfl
  refine loop_up (fun k (_ : Unit) i => spec_ViewFault.l1 k l i) l.length 0 (fun _ i => if ascv (l.drop (i - 1)) then 0 else 1) (fun _ i => 1 ≤ i) ?_ ?_ k () 1 1 rfl (by omega) (by omega) (by omega)
  · intro k _ _ _
    simp only [spec_ViewFault.l1]
    rw [if_neg (by omega), ascv_last l (by omega), if_pos rfl]
  · intro k _ i hi h1 _ ih
    have e1 : wrap64 ((i : Int) - 1) = ((i - 1 : Nat) : Int) := by rw [w64 (by omega) (by omega)]; omega
    have e2 : wrap64 ((i : Int) + 1) = (i : Int) + 1 := w64 (by omega) (by omega)
    have hx : rd_T41 l ((i - 1 : Nat) : Int) = l[i - 1] := by simp only [rd_T41, Int.toNat_natCast, getD_at _ _ _ (show i - 1 < l.length by omega)]
    have hy : rd_T41 l (i : Int) = l[i] := by simp only [rd_T41, Int.toNat_natCast, getD_at _ _ _ hi]
    simp only [spec_ViewFault.l1, e1, e2]
    rw [if_pos (by omega), if_pos (by omega), if_pos (by omega), if_pos (by omega), hx, hy, ascv_drop l i h1 hi]
    by_cases h : l[i].f0 ≤ l[i - 1].f0
    · rw [if_pos h, decide_eq_false (by omega), Bool.false_and]
      rfl
    · rw [if_neg h, decide_eq_true (by omega), Bool.true_and]
      exact ih () (by omega)
theorem impl_ViewFault_l1 (l : List S41) (hl : l.length ≤ 4) (k : Nat) (hk : 10 ≤ k) : impl_ViewFault.l1 k l 1 = some (if ascv l then 0 else 1) := by
  by_cases h0 : l.length = 0
  · obtain ⟨k, rfl⟩ : ∃ m, k = m + 1 := ⟨k - 1, by omega⟩
    rw [List.eq_nil_of_length_eq_zero h0]
    rfl
  refine loop_up (fun k (_ : Unit) i => impl_ViewFault.l1 k l i) l.length 0 (fun _ i => if ascv (l.drop (i - 1)) then 0 else 1) (fun _ i => 1 ≤ i) ?_ ?_ k () 1 1 rfl (by omega) (by omega) (by omega)
  · intro k _ _ _
    simp only [impl_ViewFault.l1]
    rw [if_neg (by omega), ascv_last l (by omega), if_pos rfl]
  · intro k _ i hi h1 _ ih
    have e1 : wrap64 ((i : Int) - 1) = ((i - 1 : Nat) : Int) := by rw [w64 (by omega) (by omega)]; omega
    have e2 : wrap64 ((i : Int) + 1) = (i : Int) + 1 := w64 (by omega) (by omega)
    have hx : rd_T41 l ((i - 1 : Nat) : Int) = l[i - 1] := by simp only [rd_T41, Int.toNat_natCast, getD_at _ _ _ (show i - 1 < l.length by omega)]
    have hy : rd_T41 l (i : Int) = l[i] := by simp only [rd_T41, Int.toNat_natCast, getD_at _ _ _ hi]
    simp only [impl_ViewFault.l1, e1, e2]
    rw [if_pos (by omega), if_pos (by omega), if_pos (by omega), if_pos (by omega), hx, hy, ascv_drop l i h1 hi]
    by_cases h : l[i - 1].f0 ≥ l[i].f0
    · rw [if_pos h, decide_eq_false (by omega), Bool.false_and]
      rfl
    · rw [if_neg h, decide_eq_true (by omega), Bool.true_and]
      exact ih () (by omega)
theorem okv_cases (c : S41) : (okv c = true ∧ cfv c.f0 c.f1 c.f2 c.f3 = 0) ∨ (okv c = false ∧ cfv c.f0 c.f1 c.f2 c.f3 = 3) := by
  rcases cfv_or c.f0 c.f1 c.f2 c.f3 with h | h
  · exact .inl ⟨by simp [okv, h], h⟩
  · exact .inr ⟨by simp [okv, h], h⟩
theorem spec_ViewFault_at (l : List S41) (k : Nat) (hk : 20 ≤ k) : spec_ViewFault.f k l = some (vfv l) := by
  unfold spec_ViewFault.f vfv
  by_cases hl : l.length > 4
  · rw [if_pos (by omega), if_pos hl]
  rw [if_neg (by omega), if_neg hl]
  refine loop_up (fun k (_ : Unit) i => spec_ViewFault.l0 k l i) l.length 10 (fun _ i => if (l.drop i).all okv then (if ascv l then 0 else 1) else 3) (fun _ i => True) ?_ ?_ k () 0 0 rfl (by omega) trivial (by omega)
  · intro k _ _ hm
    simp only [spec_ViewFault.l0]
    rw [if_neg (by omega), spec_ViewFault_l1 l (by omega) k (by omega), List.drop_length]
    rfl
  · intro k _ i hi _ _ ih
    have e2 : wrap64 ((i : Int) + 1) = (i : Int) + 1 := w64 (by omega) (by omega)
    have hy : rd_T41 l (i : Int) = l[i] := by simp only [rd_T41, Int.toNat_natCast, getD_at _ _ _ hi]
    simp only [spec_ViewFault.l0, e2, spec_ClaimFault_at, Option.bind_some]
    rw [if_pos (by omega), if_pos (by omega), hy, drop_cons l i hi, List.all_cons]
    rcases okv_cases l[i] with ⟨h, h'⟩ | ⟨h, h'⟩
    · rw [h, h', if_pos rfl, Bool.true_and]
      exact ih () trivial
    · rw [h, h', if_neg (by omega), Bool.false_and]
      rfl
theorem impl_ViewFault_at (l : List S41) (k : Nat) (hk : 20 ≤ k) : impl_ViewFault.f k l = some (vfv l) := by
  unfold impl_ViewFault.f vfv
  by_cases hl : l.length > 4
  · rw [if_pos (by omega), if_pos hl]
  rw [if_neg (by omega), if_neg hl]
  refine loop_up (fun k (_ : Unit) i => impl_ViewFault.l0 k l l (l.length : Int) i) l.length 10 (fun _ i => if (l.drop i).all okv then (if ascv l then 0 else 1) else 3) (fun _ i => True) ?_ ?_ k () 0 0 rfl (by omega) trivial (by omega)
  · intro k _ _ hm
    simp only [impl_ViewFault.l0]
    rw [if_neg (by omega), impl_ViewFault_l1 l (by omega) k (by omega), List.drop_length]
    rfl
  · intro k _ i hi _ _ ih
    have e2 : wrap64 ((i : Int) + 1) = (i : Int) + 1 := w64 (by omega) (by omega)
    have hy : rd_T41 l (i : Int) = l[i] := by simp only [rd_T41, Int.toNat_natCast, getD_at _ _ _ hi]
    simp only [impl_ViewFault.l0, e2, impl_ClaimFault_at, Option.bind_some]
    rw [if_pos (by omega), if_pos (by omega), if_pos (by omega), hy, drop_cons l i hi, List.all_cons]
    rcases okv_cases l[i] with ⟨h, h'⟩ | ⟨h, h'⟩
    · rw [h, h', if_pos rfl, Bool.true_and]
      exact ih () trivial
    · rw [h, h', if_neg (by omega), Bool.false_and]
      rfl
theorem vfv_ok {l : List S41} (h : vfv l = 0) : l.length ≤ 4 ∧ l.all okv = true ∧ ascv l = true := by
  unfold vfv at h
  split at h
  · omega
  · split at h
    · split at h
      · exact ⟨by omega, by assumption, by assumption⟩
      · omega
    · omega
theorem vfv_le {l : List S41} (h : ¬ vfv l = 0) : True := trivial
theorem impl_claimOf_at (l : List S41) (hl : l.length ≤ 10) (a : Int) (k : Nat) (hk : 20 ≤ k) : impl_claimOf.f k l a = some (match l.find? (fun c => decide (c.f0 = a)) with | some c => (c.f0, c.f1, c.f2, c.f3, true) | none => (0, 0, 0, 0, false)) := by
  unfold impl_claimOf.f
  refine loop_up (fun k (_ : Unit) i => impl_claimOf.l0 k a l (l.length : Int) i) l.length 0 (fun _ i => match (l.drop i).find? (fun c => decide (c.f0 = a)) with | some c => (c.f0, c.f1, c.f2, c.f3, true) | none => (0, 0, 0, 0, false)) (fun _ i => True) ?_ ?_ k () 0 0 rfl (by omega) trivial (by omega)
  · intro k _ _ _
    simp only [impl_claimOf.l0]
    rw [if_neg (by omega), List.drop_length]
    rfl
  · intro k _ i hi _ _ ih
    have e2 : wrap64 ((i : Int) + 1) = (i : Int) + 1 := w64 (by omega) (by omega)
    have hy : rd_T41 l (i : Int) = l[i] := by simp only [rd_T41, Int.toNat_natCast, getD_at _ _ _ hi]
    simp only [impl_claimOf.l0, e2]
    rw [if_pos (by omega), if_pos (by omega), if_pos (by omega), hy, drop_cons l i hi]
    by_cases h : l[i].f0 = a
    · rw [if_pos h, List.find?_cons_of_pos (by simpa using h)]
    · rw [if_neg h, List.find?_cons_of_neg (by simpa using h)]
      exact ih () trivial
def posv (a : Int) : List S41 → Nat → Int
  | [], _ => -1
  | c :: t, i => if c.f0 = a then (i : Int) else posv a t (i + 1)
theorem posv_find (a : Int) (l : List S41) (i : Nat) : (∃ (j : Nat) (h : j < l.length), posv a l i = ((i + j : Nat) : Int) ∧ l.find? (fun c => decide (c.f0 = a)) = some l[j]) ∨ (posv a l i = -1 ∧ l.find? (fun c => decide (c.f0 = a)) = none) := by
  induction l generalizing i with
  | nil => exact .inr ⟨rfl, rfl⟩
  | cons c t ih =>
    by_cases h : c.f0 = a
    · exact .inl ⟨0, by simp, by simp [posv, h], by rw [List.find?_cons_of_pos (by simpa using h)]; rfl⟩
    · rw [List.find?_cons_of_neg (by simpa using h)]
      have e : posv a (c :: t) i = posv a t (i + 1) := by simp [posv, h]
      rw [e]
      rcases ih (i + 1) with ⟨j, hj, e1, e2⟩ | ⟨e1, e2⟩
      · exact .inl ⟨j + 1, by simp; omega, by rw [e1]; omega, e2⟩
      · exact .inr ⟨e1, e2⟩
theorem spec_l8Find_at (l : List S41) (hl : l.length ≤ 10) (a : Int) (k : Nat) (hk : 20 ≤ k) : (∃ (i : Nat) (h : i < l.length), spec_l8Find.f k l a = some (i : Int) ∧ l.find? (fun c => decide (c.f0 = a)) = some l[i]) ∨ (spec_l8Find.f k l a = some (-1) ∧ l.find? (fun c => decide (c.f0 = a)) = none) := by
  have e : spec_l8Find.f k l a = some (posv a l 0) := by
    unfold spec_l8Find.f
    refine loop_up (fun k (_ : Unit) i => spec_l8Find.l0 k l a i) l.length 0 (fun _ i => posv a (l.drop i) i) (fun _ i => True) ?_ ?_ k () 0 0 rfl (by omega) trivial (by omega)
    · intro k _ _ _
      simp only [spec_l8Find.l0]
      rw [if_neg (by omega), List.drop_length]
      rfl
    · intro k _ i hi _ _ ih
      have e2 : wrap64 ((i : Int) + 1) = (i : Int) + 1 := w64 (by omega) (by omega)
      have hy : rd_T41 l (i : Int) = l[i] := by simp only [rd_T41, Int.toNat_natCast, getD_at _ _ _ hi]
      simp only [spec_l8Find.l0, e2]
      rw [if_pos (by omega), if_pos (by omega), hy, drop_cons l i hi]
      by_cases h : l[i].f0 = a
      · simp [posv, h]
      · rw [if_neg h, ih () trivial]
        simp [posv, h]
  rcases posv_find a l 0 with ⟨j, hj, e1, e2⟩ | ⟨e1, e2⟩
  · exact .inl ⟨j, hj, by rw [e, e1]; simp, e2⟩
  · exact .inr ⟨by rw [e, e1], e2⟩
theorem eqClaimResult_self (a b c d e : Int) (f : Bool) : laws_eqClaimResult.f a b c d e f a b c d e f = some true := by
  simp [laws_eqClaimResult.f, laws_eqClaim.f]
def wok (b c d e f g : Int) : Bool := decide ((0 ≤ b ∧ b ≤ 1000000) ∧ (0 ≤ c ∧ c ≤ 3) ∧ (0 ≤ d ∧ d ≤ 1000000) ∧ (1 ≤ e ∧ e ≤ 9) ∧ (0 ≤ f ∧ f ≤ 3) ∧ (0 ≤ g ∧ g ≤ 1000000))
def wtv (a b c d e f g : Int) : Int := if (1 ≤ a ∧ a ≤ 4) ∧ (a = 4 ∨ (f = 0 ∧ g = 0)) then (if wok b c d e f g = true then 0 else 3) else 1
theorem spec_l9Wait_j0 (k : Nat) (x : Bool) (a b c d e f g : Int) : spec_l9Wait.j0 (k + 1) x a b c d e f g = some (if x = true then 1 else if wok b c d e f g = true then 0 else 3, a, b, c, d, e, f, g) := by
  cases x
  · simp only [spec_l9Wait.j0, spec_l9Node.f, spec_in_at, Option.bind_some, wok, decide_eq_true_eq, Bool.false_eq_true, if_false]
    repeat' split
    all_goals first | rfl | (exfalso; omega)
  · rfl
theorem spec_l9Wait_at (k : Nat) (a b c d e f g : Int) : spec_l9Wait.f (k + 1) a b c d e f g = some (wtv a b c d e f g, a, b, c, d, e, f, g) := by
  simp only [spec_l9Wait.f, spec_l9Wait_j0, spec_in_at, Option.bind_some, decide_eq_true_eq, wtv, bne_iff_ne, ne_eq]
  repeat' split
  all_goals first | rfl | (exfalso; omega) | (exfalso; simp_all; omega) | (exfalso; simp_all)
theorem spec_l9WaitAt_at (k : Nat) (a b c d e f g : Int) : spec_l9WaitAt.f (k + 1) a b c d e f g = some (wtv a b c d e f g) := by
  unfold spec_l9WaitAt.f
  rw [spec_l9Wait_at]
  rfl
def wof (c : S47) : Int := wtv c.f0 c.f1 c.f2 c.f3 c.f4 c.f5 c.f6
def wffv : List S47 → Int
  | [] => 0
  | c :: t => if wof c = 0 then wffv t else wof c
def wfv (l : List S47) : Int := if l.length > 40 then 2 else wffv l
theorem impl_WaitsFault_j1 (k : Nat) (l : List S47) (n i : Int) (x : Bool) (a b c d e f g : Int) : impl_WaitsFault.j1 (k + 1) l n i x a b c d e f g = if x = true then some 1 else if wok b c d e f g = true then impl_WaitsFault.l0 k l n (wrap64 (i + 1)) else some 3 := by
  rw [impl_WaitsFault.j1]
  cases x
  · simp only [impl_isSeq.f, impl_isNode.f, impl_in_at, Option.bind_some, wok, decide_eq_true_eq, Bool.false_eq_true, if_false]
    repeat' split
    all_goals first | rfl | (exfalso; omega)
  · rfl
theorem impl_WaitsFault_at (l : List S47) (k : Nat) (hk : 200 ≤ k) : impl_WaitsFault.f k l = some (wfv l) := by
  unfold impl_WaitsFault.f wfv
  by_cases hl : l.length > 40
  · rw [if_pos (by omega), if_pos hl]
  rw [if_neg (by omega), if_neg hl]
  refine loop_upc 2 (by omega) (fun k (_ : Unit) i => impl_WaitsFault.l0 k l (l.length : Int) i) l.length 10 (fun _ i => wffv (l.drop i)) (fun _ i => True) ?_ ?_ l.length k () 0 0 rfl (by omega) (by omega) trivial (by omega)
  · intro k _ _ hm
    rw [impl_WaitsFault.l0]
    rw [if_neg (by omega), List.drop_length]
    rfl
  · intro k _ i hi _ hm ih
    have e2 : wrap64 ((i : Int) + 1) = (i : Int) + 1 := w64 (by omega) (by omega)
    have hy : rd_T47 l (i : Int) = l[i] := by simp only [rd_T47, Int.toNat_natCast, getD_at _ _ _ hi]
    rw [impl_WaitsFault.l0]
    simp only [impl_WaitsFault_j1, e2, impl_in_at, Option.bind_some, decide_eq_true_eq]
    rw [if_pos (by omega), if_pos (by omega), if_pos (by omega), hy, drop_cons l i hi]
    have ih' := ih () trivial
    simp only [wffv]
    rw [show impl_WaitsFault.l0 k l (l.length : Int) ((i : Int) + 1) = _ from ih']
    generalize wffv (l.drop (i + 1)) = z
    unfold wof wtv
    simp only [bne_iff_ne, ne_eq]
    repeat' split
    all_goals first | rfl | (exfalso; omega) | (exfalso; simp_all; omega) | (exfalso; simp_all)
def bbv (l : List S41) (a b c d e f g : Int) : Int × Int × Int × Int × Int × Bool := if vfv l = 0 then (if wtv a b c d e f g = 0 then (match l.find? (fun x => decide (x.f0 = c)) with | some x => if a = 3 ∧ x.f2 = 1 ∧ x.f1 = d then (0, x.f0, x.f1, 2, x.f3, true) else (0, x.f0, x.f1, x.f2, x.f3, false) | none => (4, 0, 0, 0, 0, false)) else (wtv a b c d e f g, 0, 0, 0, 0, false)) else (vfv l, 0, 0, 0, 0, false)
theorem spec_BuryBy_j0 (k : Nat) (t : Bool) (a b c d e : Int) (x : Bool) : spec_BuryBy.j0 (k + 1) t a b c d e x = some (if t = true then (a, b, c, 2, e, true) else (a, b, c, d, e, x)) := by
  rw [spec_BuryBy.j0]
  cases t <;> rfl
theorem spec_BuryBy_at (l : List S41) (a b c d e f g : Int) (k : Nat) (hk : 30 ≤ k) : spec_BuryBy.f k l a b c d e f g = some (bbv l a b c d e f g) := by
  obtain ⟨k, rfl⟩ : ∃ x, k = x + 1 := ⟨k - 1, by omega⟩
  unfold spec_BuryBy.f bbv
  rw [spec_ViewFault_at l (k + 1) (by omega)]
  simp only [Option.bind_some]
  by_cases h : vfv l = 0
  · rw [if_pos h, if_pos h, spec_l9WaitAt_at]
    simp only [Option.bind_some]
    by_cases hw : wtv a b c d e f g = 0
    · rw [if_pos hw, if_pos hw]
      rcases spec_l8Find_at l (by have := (vfv_ok h).1; omega) c (k + 1) (by omega) with ⟨i, hi, e1, e2⟩ | ⟨e1, e2⟩
      · have hy : rd_T41 l (i : Int) = l[i] := by simp only [rd_T41, Int.toNat_natCast, getD_at _ _ _ hi]
        rw [e1, e2]
        simp only [Option.bind_some]
        rw [if_neg (by omega), if_pos (by omega), if_pos (by omega), hy]
        simp only [spec_BuryBy_j0]
        by_cases h1 : a = 3
        · by_cases h2 : l[i].f2 = 1
          · by_cases h3 : l[i].f1 = d
            · simp [h1, h2, h3]
            · simp [h1, h2, h3]
          · simp [h1, h2]
        · simp [h1]
      · rw [e1, e2]
        simp
    · rw [if_neg hw, if_neg hw]
  · rw [if_neg h, if_neg h]
theorem impl_BuryBy_at (l : List S41) (a b c d e f g : Int) (k : Nat) (hk : 300 ≤ k) : impl_BuryBy.f k l a b c d e f g = some (bbv l a b c d e f g) := by
  obtain ⟨k, rfl⟩ : ∃ x, k = x + 1 := ⟨k - 1, by omega⟩
  unfold impl_BuryBy.f bbv
  rw [impl_ViewFault_at l (k + 1) (by omega)]
  simp only [Option.bind_some]
  by_cases h : vfv l = 0
  · have hw1 : wfv [(⟨a, b, c, d, e, f, g⟩ : S47)] = wtv a b c d e f g := by
      have e0 : wof (⟨a, b, c, d, e, f, g⟩ : S47) = wtv a b c d e f g := rfl
      show (if (1 : Nat) > 40 then (2 : Int) else if wof (⟨a, b, c, d, e, f, g⟩ : S47) = 0 then 0 else wof (⟨a, b, c, d, e, f, g⟩ : S47)) = _
      rw [if_neg (by omega), e0]
      by_cases h0 : wtv a b c d e f g = 0
      · rw [if_pos h0, h0]
      · rw [if_neg h0]
    rw [if_pos h, if_pos h, impl_WaitsFault_at _ _ (by omega), hw1]
    simp only [Option.bind_some, impl_BuryBy.j0]
    by_cases hw : wtv a b c d e f g = 0
    · rw [if_pos hw, if_pos hw, impl_claimOf_at l (by have := (vfv_ok h).1; omega) c k (by omega)]
      simp only [Option.bind_some]
      cases l.find? (fun x => decide (x.f0 = c)) with
      | some x =>
        by_cases h1 : a = 3
        · by_cases h2 : x.f2 = 1
          · by_cases h3 : x.f1 = d
            · simp [h1, h2, h3]
            · simp [h1, h2, h3]
          · simp [h1, h2]
        · simp [h1]
      | none => simp
    · rw [if_neg hw, if_neg hw]
  · rw [if_neg h, if_neg h]
    simp only [impl_BuryBy.j0]
    rw [if_neg h]
end Go.Proofs.Ytijeopohnhlpoaa.Pure
