/- What the printed functions of the law FnExactMergeViews answer, as plain Lean. -/
import Derived.Test.YtejodgcojcombaaStFnExactMergeViews
import Derived.Test.YtejodgcojcombaaBaFnExactMergeViews
namespace Go.Proofs.Ytejodgcojcombaa.Pure
open Go.RowKit Go.Proofs.Ytejodgcojcombaa.Open Go.Proofs.Ytejodgcojcombaa.Base Go.Proofs.Ytejodgcojcombaa.MFnExactMergeViews Go.Proofs.YtejodgcojcombaaW.PrintWords Go.Proofs.YtejodgcojcombaaW.PrintLast
set_option linter.unusedVariables false
set_option linter.unusedSimpArgs false

theorem eqClaimS_self (l : List S31) (hl : l.length ≤ 1000000000) (k : Nat) (hk : l.length < k) : laws_eqClaimS.f k l l = some true := by
  unfold laws_eqClaimS.f
  rw [if_pos rfl]
  refine loop_up (fun k (_ : Unit) i => laws_eqClaimS.l0 k l l i) l.length 0 (fun _ _ => true) (fun _ _ => True) ?_ ?_ k () 0 0 rfl (Nat.zero_le _) trivial (by omega)
  · intro k _ _ _
    simp only [laws_eqClaimS.l0]
    rw [if_neg (by omega)]
  · intro k _ i hi _ _ ih
    simp only [laws_eqClaimS.l0, laws_eqClaim.f]
    rw [if_pos (by omega), if_pos (by omega), if_pos (by omega), w64 (by omega) (by omega)]
    simp only [eq_self, ↓reduceIte, Option.bind_some]
    exact ih () trivial

theorem szClaimS_at (l : List S24) (a : Int) (h0 : 0 ≤ a) (h1 : a ≤ 1048576) (hl : l.length ≤ maxLen) : laws_szClaimS.f l a = some (if a < l.length then -1 else a - l.length) := by
  unfold maxLen at hl
  unfold laws_szClaimS.f
  rw [w64 (by omega) (by omega)]
  by_cases h : a < l.length
  · rw [if_pos (by omega), if_pos h]
  · rw [if_neg (by omega), if_neg h]

def cvClaim (x : S24) : S31 := ⟨x.f0, x.f1, x.f2, x.f3⟩
theorem toClaimS_at (l : List S24) (hl : l.length ≤ 1000000000) (k : Nat) (hk : l.length < k) : laws_toClaimS.f k l = some (l.map cvClaim) := by
  unfold laws_toClaimS.f
  rw [if_pos (by omega), if_pos (by omega)]
  refine to_loop (fun k s i => laws_toClaimS.l0 k l s i) l cvClaim ?_ ?_ k _ (by simp) hk
  · intro k s hs
    simp only [laws_toClaimS.l0]
    rw [if_neg (by omega)]
  · intro k s i hi hs
    simp only [laws_toClaimS.l0, laws_toClaim.f]
    rw [if_pos (by omega), if_pos (by omega)]
    simp only [Option.bind_some]
    rw [if_pos (by omega), w64 (by omega) (by omega)]
    simp only [Int.toNat_natCast, rd_T24, getD_at _ _ _ hi, cvClaim]

def mkClaim (a : Int) : S31 := ⟨a, a + 1, a + 1 + 1, a + 1 + 1 + 1⟩
theorem markClaimS_at (l : List S31) (a : Int) (h0 : 0 ≤ a) (ha : a ≤ 1000000000000) (hl : l.length ≤ 1000000000) (k : Nat) (hk : l.length < k) : laws_markClaimS.f k l a = some (a + 4 * l.length, marks mkClaim 4 a l.length) := by
  unfold laws_markClaimS.f
  refine mark_loop (fun k s b i => laws_markClaimS.l0 k s b i) l.length 4 mkClaim a ?_ ?_ k l rfl hk
  · intro k s b hs
    simp only [laws_markClaimS.l0]
    rw [if_neg (by omega)]
  · intro k s i hi hs
    have hi' : i < s.length := by omega
    show laws_markClaimS.l0 (k + 1) s (a + 4 * (i : Int)) (i : Int) = laws_markClaimS.l0 k (s.set i (mkClaim (a + 4 * (i : Int)))) (a + 4 * (i : Int) + 4) ((i : Int) + 1)
    have c1 : (i : Int) < (s.length : Int) := by omega
    have c2 : 0 ≤ (i : Int) := by omega
    have ei : wrap64 ((i : Int) + 1) = (i : Int) + 1 := w64 (by omega) (by omega)
    have el : a + 4 * (i : Int) + 1 + 1 + 1 + 1 = a + 4 * (i : Int) + 4 := by omega
    have e1 : wrap64 (a + 4 * (i : Int) + 1) = a + 4 * (i : Int) + 1 := by clear c1 ; exact w64 (by omega) (by omega)
    have e2 : wrap64 (a + 4 * (i : Int) + 1 + 1) = a + 4 * (i : Int) + 1 + 1 := by clear c1 e1; exact w64 (by omega) (by omega)
    have e3 : wrap64 (a + 4 * (i : Int) + 1 + 1 + 1) = a + 4 * (i : Int) + 1 + 1 + 1 := by clear c1 e1 e2; exact w64 (by omega) (by omega)
    have e4 : wrap64 (a + 4 * (i : Int) + 1 + 1 + 1 + 1) = a + 4 * (i : Int) + 1 + 1 + 1 + 1 := by clear c1 e1 e2 e3; exact w64 (by omega) (by omega)
    simp only [laws_markClaimS.l0]
    rw [if_pos c1, if_pos c2]
    simp only [Option.bind_some, Int.toNat_natCast, e1, e2, e3, e4, ei, rd_T31, getD_set, List.length_set, hi', List.set_set, mkClaim]
    rw [el]

theorem heldClaimS_at (n : Nat) (a : Int) (h0 : 0 ≤ a) (ha : a ≤ 1000000000000) (hl : n ≤ 1000000000) (k : Nat) (hk : n < k) : laws_heldClaimS.f k (marks mkClaim 4 a n) a = some (a + 4 * n) := by
  unfold laws_heldClaimS.f
  refine held_loop (fun k b i => laws_heldClaimS.l0 k (marks mkClaim 4 a n) b i) n 4 a ?_ ?_ k hk
  · intro k b
    simp only [laws_heldClaimS.l0, marks_len]
    rw [if_neg (by omega)]
  · intro k i hi
    show laws_heldClaimS.l0 (k + 1) (marks mkClaim 4 a n) (a + 4 * (i : Int)) (i : Int) = laws_heldClaimS.l0 k (marks mkClaim 4 a n) (a + 4 * (i : Int) + 4) ((i : Int) + 1)
    have c1 : (i : Int) < (n : Int) := by omega
    have c2 : 0 ≤ (i : Int) := by omega
    have ei : wrap64 ((i : Int) + 1) = (i : Int) + 1 := w64 (by omega) (by omega)
    have el : a + 4 * (i : Int) + 1 + 1 + 1 + 1 = a + 4 * (i : Int) + 4 := by omega
    have e1 : wrap64 (a + 4 * (i : Int) + 1) = a + 4 * (i : Int) + 1 := by clear c1 ; exact w64 (by omega) (by omega)
    have e2 : wrap64 (a + 4 * (i : Int) + 1 + 1) = a + 4 * (i : Int) + 1 + 1 := by clear c1 e1; exact w64 (by omega) (by omega)
    have e3 : wrap64 (a + 4 * (i : Int) + 1 + 1 + 1) = a + 4 * (i : Int) + 1 + 1 + 1 := by clear c1 e1 e2; exact w64 (by omega) (by omega)
    have e4 : wrap64 (a + 4 * (i : Int) + 1 + 1 + 1 + 1) = a + 4 * (i : Int) + 1 + 1 + 1 + 1 := by clear c1 e1 e2 e3; exact w64 (by omega) (by omega)
    have eg : rd_T31 (marks mkClaim 4 a n) (i : Int) = mkClaim (a + 4 * (i : Int)) := by
      simp only [rd_T31, Int.toNat_natCast, List.getD_eq_getElem?_getD, marks_get _ _ _ _ _ hi, Option.getD_some]
      rfl
    simp only [laws_heldClaimS.l0, marks_len]
    rw [if_pos c1, if_pos c2]
    simp only [eg, mkClaim, e1, e2, e3, e4, ei, eq_self, ↓reduceIte]
    rw [el]
theorem impl_in_at (a b c : Int) : impl_in.f a b c = some (decide (b ≤ a ∧ a ≤ c)) := by
  unfold impl_in.f
  by_cases h : a ≥ b
  · rw [if_pos h]
    have h' : b ≤ a := h
    simp [h']
  · rw [if_neg h]
    have h' : ¬ b ≤ a := h
    simp [h']
theorem spec_in_at (a b c : Int) : spec_l1In.f a b c = some (decide (b ≤ a ∧ a ≤ c)) := by
  unfold spec_l1In.f
  by_cases h : a ≥ b
  · rw [if_pos h]
    have h' : b ≤ a := h
    simp [h']
  · rw [if_neg h]
    have h' : ¬ b ≤ a := h
    simp [h']
def cfv (a b c d : Int) : Int := if (0 ≤ a ∧ a ≤ 3) ∧ (0 ≤ b ∧ b ≤ 1000000) ∧ (0 ≤ c ∧ c ≤ 2) ∧ (0 ≤ d ∧ d ≤ 9999999) then 0 else 3
theorem cfv_or (a b c d : Int) : cfv a b c d = 0 ∨ cfv a b c d = 3 := by
  unfold cfv
  split
  · exact .inl rfl
  · exact .inr rfl
theorem cfv_ok {a b c d : Int} (h : cfv a b c d = 0) : (0 ≤ a ∧ a ≤ 3) ∧ (0 ≤ b ∧ b ≤ 1000000) ∧ (0 ≤ c ∧ c ≤ 2) ∧ (0 ≤ d ∧ d ≤ 9999999) := by
  unfold cfv at h
  split at h
  · assumption
  · omega
theorem impl_ClaimFault_at (a b c d : Int) : impl_ClaimFault.f a b c d = some (cfv a b c d) := by
  simp only [impl_ClaimFault.f, impl_isNode.f, impl_isStatus.f, impl_in_at, Option.bind_some, decide_eq_true_eq]
  unfold cfv
  repeat' split
  all_goals first | rfl | (exfalso; omega)
theorem spec_ClaimFault_at (a b c d : Int) : spec_ClaimFault.f a b c d = some (cfv a b c d) := by
  simp only [spec_ClaimFault.f, spec_in_at, Option.bind_some, decide_eq_true_eq]
  unfold cfv
  repeat' split
  all_goals first | rfl | (exfalso; omega)
def btv (b c b' c' : Int) : Bool := decide (b > b') || (decide (b = b') && decide (c > c'))
theorem impl_Beats_at (a b c d a' b' c' d' : Int) : impl_Beats.f a b c d a' b' c' d' = some (btv b c b' c') := by
  simp only [impl_Beats.f, btv]
  by_cases h : b > b'
  · rw [if_pos h]
    simp [h]
  · rw [if_neg h]
    by_cases h2 : b = b'
    · rw [if_pos h2]
      simp [h2]
    · rw [if_neg h2]
      simp [h, h2]
theorem spec_Beats_at (a b c d a' b' c' d' : Int) : spec_Beats.f a b c d a' b' c' d' = some (btv b c b' c') := by
  simp only [spec_Beats.f, btv]
  by_cases h : b > b'
  · rw [if_pos h]
    simp [h]
  · rw [if_neg h]
    by_cases h2 : b = b'
    · rw [if_pos h2]
      simp [h2]
    · rw [if_neg h2]
      simp [h, h2]
theorem btv_iff (b c b' c' : Int) : btv b c b' c' = true ↔ b > b' ∨ (b = b' ∧ c > c') := by simp [btv]
def okv (c : S31) : Bool := decide (cfv c.f0 c.f1 c.f2 c.f3 = 0)
def ascv : List S31 → Bool
  | [] => true
  | [_] => true
  | x :: y :: t => decide (x.f0 < y.f0) && ascv (y :: t)
def vfv (l : List S31) : Int := if l.length > 4 then 2 else if l.all okv then (if ascv l then 0 else 1) else 3
theorem ascv_drop (l : List S31) (i : Nat) (h1 : 1 ≤ i) (h : i < l.length) : ascv (l.drop (i - 1)) = (decide ((l[i - 1]).f0 < l[i].f0) && ascv (l.drop i)) := by
  have e : i - 1 + 1 = i := by omega
  rw [drop_cons l (i - 1) (by omega)]
  simp only [e]
  rw [drop_cons l i h]
  rfl
theorem ascv_last (l : List S31) (h : 0 < l.length) : ascv (l.drop (l.length - 1)) = true := by
  have e : l.length - 1 + 1 = l.length := by omega
  rw [drop_cons l (l.length - 1) (by omega)]
  simp only [e]
  rw [List.drop_length]
  rfl
theorem spec_ViewFault_l1 (l : List S31) (hl : l.length ≤ 4) (k : Nat) (hk : 10 ≤ k) : spec_ViewFault.l1 k l 1 = some (if ascv l then 0 else 1) := by
  by_cases h0 : l.length = 0
  · obtain ⟨k, rfl⟩ : ∃ m, k = m + 1 := ⟨k - 1, by omega⟩
    rw [List.eq_nil_of_length_eq_zero h0]
    rfl
  refine loop_up (fun k (_ : Unit) i => spec_ViewFault.l1 k l i) l.length 0 (fun _ i => if ascv (l.drop (i - 1)) then 0 else 1) (fun _ i => 1 ≤ i) ?_ ?_ k () 1 1 rfl (by omega) (by omega) (by omega)
  · intro k _ _ _
    simp only [spec_ViewFault.l1]
    rw [if_neg (by omega), ascv_last l (by omega), if_pos rfl]
  · intro k _ i hi h1 _ ih
    have e1 : wrap64 ((i : Int) - 1) = ((i - 1 : Nat) : Int) := by rw [w64 (by omega) (by omega)]; omega
    have e2 : wrap64 ((i : Int) + 1) = (i : Int) + 1 := w64 (by omega) (by omega)
    have hx : rd_T31 l ((i - 1 : Nat) : Int) = l[i - 1] := by simp only [rd_T31, Int.toNat_natCast, getD_at _ _ _ (show i - 1 < l.length by omega)]
    have hy : rd_T31 l (i : Int) = l[i] := by simp only [rd_T31, Int.toNat_natCast, getD_at _ _ _ hi]
    simp only [spec_ViewFault.l1, e1, e2]
    rw [if_pos (by omega), if_pos (by omega), if_pos (by omega), if_pos (by omega), hx, hy, ascv_drop l i h1 hi]
    by_cases h : l[i].f0 ≤ l[i - 1].f0
    · rw [if_pos h, decide_eq_false (by omega), Bool.false_and]
      rfl
    · rw [if_neg h, decide_eq_true (by omega), Bool.true_and]
      exact ih () (by omega)
theorem impl_ViewFault_l1 (l : List S31) (hl : l.length ≤ 4) (k : Nat) (hk : 10 ≤ k) : impl_ViewFault.l1 k l 1 = some (if ascv l then 0 else 1) := by
  by_cases h0 : l.length = 0
  · obtain ⟨k, rfl⟩ : ∃ m, k = m + 1 := ⟨k - 1, by omega⟩
    rw [List.eq_nil_of_length_eq_zero h0]
    rfl
  refine loop_up (fun k (_ : Unit) i => impl_ViewFault.l1 k l i) l.length 0 (fun _ i => if ascv (l.drop (i - 1)) then 0 else 1) (fun _ i => 1 ≤ i) ?_ ?_ k () 1 1 rfl (by omega) (by omega) (by omega)
  · intro k _ _ _
    simp only [impl_ViewFault.l1]
    rw [if_neg (by omega), ascv_last l (by omega), if_pos rfl]
  · intro k _ i hi h1 _ ih
    have e1 : wrap64 ((i : Int) - 1) = ((i - 1 : Nat) : Int) := by rw [w64 (by omega) (by omega)]; omega
    have e2 : wrap64 ((i : Int) + 1) = (i : Int) + 1 := w64 (by omega) (by omega)
    have hx : rd_T31 l ((i - 1 : Nat) : Int) = l[i - 1] := by simp only [rd_T31, Int.toNat_natCast, getD_at _ _ _ (show i - 1 < l.length by omega)]
    have hy : rd_T31 l (i : Int) = l[i] := by simp only [rd_T31, Int.toNat_natCast, getD_at _ _ _ hi]
    simp only [impl_ViewFault.l1, e1, e2]
    rw [if_pos (by omega), if_pos (by omega), if_pos (by omega), if_pos (by omega), hx, hy, ascv_drop l i h1 hi]
    by_cases h : l[i - 1].f0 ≥ l[i].f0
    · rw [if_pos h, decide_eq_false (by omega), Bool.false_and]
      rfl
    · rw [if_neg h, decide_eq_true (by omega), Bool.true_and]
      exact ih () (by omega)
theorem okv_cases (c : S31) : (okv c = true ∧ cfv c.f0 c.f1 c.f2 c.f3 = 0) ∨ (okv c = false ∧ cfv c.f0 c.f1 c.f2 c.f3 = 3) := by
  rcases cfv_or c.f0 c.f1 c.f2 c.f3 with h | h
  · exact .inl ⟨by simp [okv, h], h⟩
  · exact .inr ⟨by simp [okv, h], h⟩
theorem spec_ViewFault_at (l : List S31) (k : Nat) (hk : 20 ≤ k) : spec_ViewFault.f k l = some (vfv l) := by
  unfold spec_ViewFault.f vfv
  by_cases hl : l.length > 4
  · rw [if_pos (by omega), if_pos hl]
  rw [if_neg (by omega), if_neg hl]
  refine loop_up (fun k (_ : Unit) i => spec_ViewFault.l0 k l i) l.length 10 (fun _ i => if (l.drop i).all okv then (if ascv l then 0 else 1) else 3) (fun _ i => True) ?_ ?_ k () 0 0 rfl (by omega) trivial (by omega)
  · intro k _ _ hm
    simp only [spec_ViewFault.l0]
    rw [if_neg (by omega), spec_ViewFault_l1 l (by omega) k (by omega), List.drop_length]
    rfl
  · intro k _ i hi _ _ ih
    have e2 : wrap64 ((i : Int) + 1) = (i : Int) + 1 := w64 (by omega) (by omega)
    have hy : rd_T31 l (i : Int) = l[i] := by simp only [rd_T31, Int.toNat_natCast, getD_at _ _ _ hi]
    simp only [spec_ViewFault.l0, e2, spec_ClaimFault_at, Option.bind_some]
    rw [if_pos (by omega), if_pos (by omega), hy, drop_cons l i hi, List.all_cons]
    rcases okv_cases l[i] with ⟨h, h'⟩ | ⟨h, h'⟩
    · rw [h, h', if_pos rfl, Bool.true_and]
      exact ih () trivial
    · rw [h, h', if_neg (by omega), Bool.false_and]
      rfl
theorem impl_ViewFault_at (l : List S31) (k : Nat) (hk : 20 ≤ k) : impl_ViewFault.f k l = some (vfv l) := by
  unfold impl_ViewFault.f vfv
  by_cases hl : l.length > 4
  · rw [if_pos (by omega), if_pos hl]
  rw [if_neg (by omega), if_neg hl]
  refine loop_up (fun k (_ : Unit) i => impl_ViewFault.l0 k l l (l.length : Int) i) l.length 10 (fun _ i => if (l.drop i).all okv then (if ascv l then 0 else 1) else 3) (fun _ i => True) ?_ ?_ k () 0 0 rfl (by omega) trivial (by omega)
  · intro k _ _ hm
    simp only [impl_ViewFault.l0]
    rw [if_neg (by omega), impl_ViewFault_l1 l (by omega) k (by omega), List.drop_length]
    rfl
  · intro k _ i hi _ _ ih
    have e2 : wrap64 ((i : Int) + 1) = (i : Int) + 1 := w64 (by omega) (by omega)
    have hy : rd_T31 l (i : Int) = l[i] := by simp only [rd_T31, Int.toNat_natCast, getD_at _ _ _ hi]
    simp only [impl_ViewFault.l0, e2, impl_ClaimFault_at, Option.bind_some]
    rw [if_pos (by omega), if_pos (by omega), if_pos (by omega), hy, drop_cons l i hi, List.all_cons]
    rcases okv_cases l[i] with ⟨h, h'⟩ | ⟨h, h'⟩
    · rw [h, h', if_pos rfl, Bool.true_and]
      exact ih () trivial
    · rw [h, h', if_neg (by omega), Bool.false_and]
      rfl
theorem vfv_ok {l : List S31} (h : vfv l = 0) : l.length ≤ 4 ∧ l.all okv = true ∧ ascv l = true := by
  unfold vfv at h
  split at h
  · omega
  · split at h
    · split at h
      · exact ⟨by omega, by assumption, by assumption⟩
      · omega
    · omega
theorem vfv_le {l : List S31} (h : ¬ vfv l = 0) : True := trivial
def posv (a : Int) : List S31 → Nat → Int
  | [], _ => -1
  | c :: t, i => if c.f0 = a then (i : Int) else posv a t (i + 1)
theorem posv_find (a : Int) (l : List S31) (i : Nat) : (∃ (j : Nat) (h : j < l.length), posv a l i = ((i + j : Nat) : Int) ∧ l.find? (fun c => decide (c.f0 = a)) = some l[j]) ∨ (posv a l i = -1 ∧ l.find? (fun c => decide (c.f0 = a)) = none) := by
  induction l generalizing i with
  | nil => exact .inr ⟨rfl, rfl⟩
  | cons c t ih =>
    by_cases h : c.f0 = a
    · exact .inl ⟨0, by simp, by simp [posv, h], by rw [List.find?_cons_of_pos (by simpa using h)]; rfl⟩
    · rw [List.find?_cons_of_neg (by simpa using h)]
      have e : posv a (c :: t) i = posv a t (i + 1) := by simp [posv, h]
      rw [e]
      rcases ih (i + 1) with ⟨j, hj, e1, e2⟩ | ⟨e1, e2⟩
      · exact .inl ⟨j + 1, by simp; omega, by rw [e1]; omega, e2⟩
      · exact .inr ⟨e1, e2⟩
theorem spec_l8Find_at (l : List S31) (hl : l.length ≤ 10) (a : Int) (k : Nat) (hk : 20 ≤ k) : (∃ (i : Nat) (h : i < l.length), spec_l8Find.f k l a = some (i : Int) ∧ l.find? (fun c => decide (c.f0 = a)) = some l[i]) ∨ (spec_l8Find.f k l a = some (-1) ∧ l.find? (fun c => decide (c.f0 = a)) = none) := by
  have e : spec_l8Find.f k l a = some (posv a l 0) := by
    unfold spec_l8Find.f
    refine loop_up (fun k (_ : Unit) i => spec_l8Find.l0 k l a i) l.length 0 (fun _ i => posv a (l.drop i) i) (fun _ i => True) ?_ ?_ k () 0 0 rfl (by omega) trivial (by omega)
    · intro k _ _ _
      simp only [spec_l8Find.l0]
      rw [if_neg (by omega), List.drop_length]
      rfl
    · intro k _ i hi _ _ ih
      have e2 : wrap64 ((i : Int) + 1) = (i : Int) + 1 := w64 (by omega) (by omega)
      have hy : rd_T31 l (i : Int) = l[i] := by simp only [rd_T31, Int.toNat_natCast, getD_at _ _ _ hi]
      simp only [spec_l8Find.l0, e2]
      rw [if_pos (by omega), if_pos (by omega), hy, drop_cons l i hi]
      by_cases h : l[i].f0 = a
      · simp [posv, h]
      · rw [if_neg h, ih () trivial]
        simp [posv, h]
  rcases posv_find a l 0 with ⟨j, hj, e1, e2⟩ | ⟨e1, e2⟩
  · exact .inl ⟨j, hj, by rw [e, e1]; simp, e2⟩
  · exact .inr ⟨by rw [e, e1], e2⟩
theorem eqViewResult_self (c : Int) (l : List S31) (b : Bool) (hl : l.length ≤ 1000000000) (k : Nat) (hk : l.length < k) : laws_eqViewResult.f k c l b c l b = some true := by
  unfold laws_eqViewResult.f
  rw [if_pos rfl, eqClaimS_self l hl k hk]
  simp
theorem spec_l8Copy_at (l : List S31) (hl : l.length ≤ 1000000) : spec_l8Copy.f l = some l := by
  unfold spec_l8Copy.f
  simp only [Option.bind_some, List.length_nil, List.nil_append]
  rw [if_pos (by omega)]
def insv (c : S31) : List S31 → List S31 × Bool
  | [] => ([c], true)
  | x :: t => if x.f0 < c.f0 then (x :: (insv c t).1, (insv c t).2) else if x.f0 = c.f0 then (if btv c.f1 c.f2 x.f1 x.f2 then (c :: t, true) else (x :: t, false)) else (c :: x :: t, true)
theorem insv_len (c : S31) (l : List S31) : (insv c l).1.length ≤ l.length + 1 := by
  induction l with
  | nil => simp [insv]
  | cons x t ih =>
    rw [insv]
    split
    · simp only [List.length_cons]; omega
    · split
      · split <;> simp
      · simp
def mcv (l : List S31) (c : S31) : Int × List S31 × Bool := if vfv l = 0 then (if cfv c.f0 c.f1 c.f2 c.f3 = 0 then (0, insv c l) else (cfv c.f0 c.f1 c.f2 c.f3, [], false)) else (vfv l, [], false)
theorem mcv_len (l : List S31) (c : S31) : (mcv l c).2.1.length ≤ 5 := by
  unfold mcv
  split
  · rename_i h
    have := insv_len c l
    have := (vfv_ok h).1
    split
    · show (insv c l).1.length ≤ 5; omega
    · simp
  · simp
theorem insert_at (l : List S31) (c : S31) (i : Nat) (hi : i ≤ l.length) (hl : l.length ≤ 1000) : impl_Claim_33.f l (i : Int) [c] = some (l.take i ++ [c] ++ l.drop i) := by
  unfold impl_Claim_33.f
  rw [if_pos (by omega), if_pos (by omega), if_pos (show ([c] : List S31).length = 1 from rfl), if_pos (by omega), Int.toNat_natCast]
theorem set_at (l : List S31) (c : S31) (i : Nat) (h : i < l.length) : l.set i c = l.take i ++ c :: l.drop (i + 1) := by
  rw [List.set_eq_take_append_cons_drop, if_pos h]
theorem impl_MergeClaim_l0 (c : S31) (l : List S31) (hl : l.length ≤ 100) (cc : Int) (b : Bool) (m : Nat) : ∀ (k i : Nat), l.length - i = m → i ≤ l.length → m + 5 ≤ k → impl_MergeClaim.l0 k l (i : Int) c.f0 c.f1 c.f2 c.f3 cc l b = some (cc, l.take i ++ (insv c (l.drop i)).1, (insv c (l.drop i)).2 || (b && !(insv c (l.drop i)).2)) := by
  induction m with
  | zero =>
    intro k i hm hi hk
    obtain ⟨k, rfl⟩ : ∃ z, k = z + 3 := ⟨k - 3, by omega⟩
    obtain rfl : i = l.length := by omega
    rw [impl_MergeClaim.l0, if_neg (by omega), impl_MergeClaim.j2, if_pos rfl, impl_MergeClaim.j3, if_pos rfl, insert_at l ⟨c.f0, c.f1, c.f2, c.f3⟩ _ (by omega) (by omega), Option.bind_some, List.drop_length]
    simp [insv]
  | succ m ih =>
    intro k i hm hi hk
    obtain ⟨k, rfl⟩ : ∃ z, k = z + 3 := ⟨k - 3, by omega⟩
    have hlt : i < l.length := by omega
    have hy : rd_T31 l (i : Int) = l[i] := by simp only [rd_T31, Int.toNat_natCast, getD_at _ _ _ hlt]
    rw [impl_MergeClaim.l0, if_pos (by omega), if_pos (by omega), hy, drop_cons l i hlt, insv]
    by_cases h1 : l[i].f0 < c.f0
    · rw [if_pos h1, if_pos h1, w64 (by omega) (by omega)]
      have e := ih (k + 2) (i + 1) (by omega) (by omega) (by omega)
      have e2 : ((i + 1 : Nat) : Int) = (i : Int) + 1 := by omega
      rw [e2] at e
      have e4 : ∀ X, l.take (i+1) ++ X = l.take i ++ l[i] :: X := fun X => by rw [List.take_succ_eq_append_getElem hlt, List.append_assoc]; rfl
      rw [e, e4]
    · rw [if_neg h1, if_neg h1, impl_MergeClaim.j2, if_neg (by omega), if_pos (by omega), if_pos (by omega), hy]
      by_cases h2 : l[i].f0 = c.f0
      · rw [if_pos h2]
        have e : (l[i].f0 != c.f0) = false := by simp [h2]
        rw [e, impl_MergeClaim.j3, if_neg (by decide), if_pos (by omega), if_pos (by omega), hy, impl_Beats_at]
        simp only [Option.bind_some]
        by_cases h3 : btv c.f1 c.f2 l[i].f1 l[i].f2 = true
        · rw [if_pos h3, if_pos h3, if_pos (by omega), Int.toNat_natCast, set_at _ _ _ hlt]
          simp
        · rw [if_neg h3, if_neg h3]
          have e4 : l.take i ++ l[i] :: l.drop (i + 1) = l := by rw [← drop_cons l i hlt, List.take_append_drop]
          simp only [e4]
          simp
      · rw [if_neg h2]
        have e : (l[i].f0 != c.f0) = true := by simp [h2]
        rw [e, impl_MergeClaim.j3, if_pos rfl, insert_at l ⟨c.f0, c.f1, c.f2, c.f3⟩ _ (by omega) (by omega), Option.bind_some, drop_cons l i hlt]
        simp
theorem impl_MergeClaim_at (l : List S31) (c : S31) (k : Nat) (hk : 60 ≤ k) : impl_MergeClaim.f k l c.f0 c.f1 c.f2 c.f3 = some (mcv l c) := by
  obtain ⟨k, rfl⟩ : ∃ z, k = z + 1 := ⟨k - 1, by omega⟩
  unfold impl_MergeClaim.f mcv
  rw [impl_ViewFault_at l _ (by omega)]
  simp only [Option.bind_some]
  by_cases h : vfv l = 0
  · have h4 := (vfv_ok h).1
    rw [if_pos h, if_pos h, impl_ClaimFault_at]
    simp only [Option.bind_some]
    rw [impl_MergeClaim.j0]
    by_cases h2 : cfv c.f0 c.f1 c.f2 c.f3 = 0
    · rw [if_pos h2, if_pos h2]
      unfold impl_Claim_32.f
      rw [if_pos (by omega), Option.bind_some]
      have e := impl_MergeClaim_l0 c l (by omega) 0 false _ k 0 rfl (by omega) (by omega)
      rw [show ((0 : Nat) : Int) = 0 from rfl] at e
      rw [e]
      simp
    · rw [if_neg h2, if_neg h2]
  · rw [if_neg h, if_neg h, impl_MergeClaim.j0, if_neg h]
theorem asc_head {x : S31} {t : List S31} (h : ascv (x :: t) = true) : ascv t = true ∧ ∀ y ∈ t, x.f0 < y.f0 := by
  induction t generalizing x with
  | nil => exact ⟨rfl, by simp⟩
  | cons y r ih =>
    have h' : (decide (x.f0 < y.f0) && ascv (y :: r)) = true := h
    rw [Bool.and_eq_true, decide_eq_true_eq] at h'
    obtain ⟨h1, h2⟩ := h'
    refine ⟨h2, fun z hz => ?_⟩
    rcases List.mem_cons.1 hz with rfl | hz
    · exact h1
    · have := (ih h2).2 z hz
      omega
theorem insv_found (c : S31) (l : List S31) (h : ascv l = true) : ∀ (i : Nat) (hi : i < l.length), l[i].f0 = c.f0 → insv c l = if btv c.f1 c.f2 l[i].f1 l[i].f2 then (l.set i c, true) else (l, false) := by
  induction l with
  | nil => intro i hi; simp at hi
  | cons x t ih =>
    intro i hi he
    obtain ⟨h1, h2⟩ := asc_head h
    rw [insv]
    cases i with
    | zero =>
      simp only [List.getElem_cons_zero] at he ⊢
      rw [if_neg (by omega), if_pos he]
      simp
    | succ i =>
      simp only [List.getElem_cons_succ] at he ⊢
      have hi' : i < t.length := by simpa using hi
      have := h2 _ (List.getElem_mem hi')
      rw [if_pos (by omega), ih h1 i hi' he]
      split <;> simp
theorem insv_new (c : S31) (l : List S31) (h : ∀ x ∈ l, x.f0 ≠ c.f0) : insv c l = (l.takeWhile (fun x => decide (x.f0 < c.f0)) ++ c :: l.dropWhile (fun x => decide (x.f0 < c.f0)), true) := by
  induction l with
  | nil => rfl
  | cons x t ih =>
    have hx := h x (by simp)
    rw [insv]
    by_cases h1 : x.f0 < c.f0
    · rw [if_pos h1, ih (fun y hy => h y (by simp [hy])), List.takeWhile_cons_of_pos (by simpa using h1), List.dropWhile_cons_of_pos (by simpa using h1)]
      rfl
    · rw [if_neg h1, if_neg hx, List.takeWhile_cons_of_neg (by simpa using h1), List.dropWhile_cons_of_neg (by simpa using h1)]
      rfl
theorem l8Merge_done (c : S31) (l : List S31) (hl : l.length ≤ 100) (m : Nat) : ∀ (k i : Nat) (s : List S31), l.length - i = m → i ≤ l.length → m + 2 ≤ k → s.length ≤ 1000 + i → spec_l8Merge.l0 k l s true (i : Int) c.f0 c.f1 c.f2 c.f3 = some (s ++ l.drop i, true) := by
  induction m with
  | zero =>
    intro k i s hm hi hk hs
    obtain ⟨k, rfl⟩ : ∃ z, k = z + 1 := ⟨k - 1, by omega⟩
    obtain rfl : i = l.length := by omega
    rw [spec_l8Merge.l0, if_neg (by omega), if_pos rfl, List.drop_length, List.append_nil]
  | succ m ih =>
    intro k i s hm hi hk hs
    obtain ⟨k, rfl⟩ : ∃ z, k = z + 1 := ⟨k - 1, by omega⟩
    have hlt : i < l.length := by omega
    have hy : rd_T31 l (i : Int) = l[i] := by simp only [rd_T31, Int.toNat_natCast, getD_at _ _ _ hlt]
    rw [spec_l8Merge.l0, if_pos (by omega), if_pos rfl, if_pos (by omega), if_pos (by omega), hy, w64 (by omega) (by omega)]
    have e := ih k (i + 1) (s ++ [l[i]]) (by omega) (by omega) (by omega) (by rw [List.length_append, List.length_singleton]; omega)
    have e2 : ((i + 1 : Nat) : Int) = (i : Int) + 1 := by omega
    rw [e2] at e
    rw [drop_cons l i hlt]
    refine Eq.trans e ?_
    rw [List.append_assoc]
    rfl
theorem l8Merge_new (c : S31) (l : List S31) (hl : l.length ≤ 100) (hne : ∀ x ∈ l, x.f0 ≠ c.f0) (m : Nat) : ∀ (k i : Nat) (s : List S31), l.length - i = m → i ≤ l.length → m + 2 ≤ k → s.length ≤ i → spec_l8Merge.l0 k l s false (i : Int) c.f0 c.f1 c.f2 c.f3 = some (s ++ (insv c (l.drop i)).1, true) := by
  induction m with
  | zero =>
    intro k i s hm hi hk hs
    obtain ⟨k, rfl⟩ : ∃ z, k = z + 1 := ⟨k - 1, by omega⟩
    obtain rfl : i = l.length := by omega
    rw [spec_l8Merge.l0, if_neg (by omega), if_neg (by decide), if_pos (by omega), List.drop_length]
    rfl
  | succ m ih =>
    intro k i s hm hi hk hs
    obtain ⟨k, rfl⟩ : ∃ z, k = z + 1 := ⟨k - 1, by omega⟩
    have hlt : i < l.length := by omega
    have hy : rd_T31 l (i : Int) = l[i] := by simp only [rd_T31, Int.toNat_natCast, getD_at _ _ _ hlt]
    have hn := hne l[i] (List.getElem_mem hlt)
    have e2 : ((i + 1 : Nat) : Int) = (i : Int) + 1 := by omega
    rw [spec_l8Merge.l0, if_pos (by omega), if_neg (by decide), if_pos (by omega), hy, w64 (by omega) (by omega), drop_cons l i hlt, insv]
    by_cases h1 : l[i].f0 > c.f0
    · rw [if_pos h1, if_pos (by omega), if_neg (by omega), if_neg (by omega)]
      simp only [Option.bind_some]
      rw [if_pos (by rw [List.length_append, List.length_singleton]; omega)]
      have e := l8Merge_done c l hl _ k (i + 1) (s ++ [c] ++ [l[i]]) rfl (by omega) (by omega) (by simp; omega)
      rw [e2] at e
      refine Eq.trans e ?_
      simp
    · rw [if_neg h1, if_pos (by omega), if_pos (show l[i].f0 < c.f0 by omega)]
      have e := ih k (i + 1) (s ++ [l[i]]) (by omega) (by omega) (by omega) (by rw [List.length_append, List.length_singleton]; omega)
      rw [e2] at e
      refine Eq.trans e ?_
      rw [List.append_assoc]
      rfl
theorem spec_l8Merge_at (l : List S31) (c : S31) (h4 : l.length ≤ 4) (ha : ascv l = true) (k : Nat) (hk : 60 ≤ k) : spec_l8Merge.f k l c.f0 c.f1 c.f2 c.f3 = some (insv c l) := by
  unfold spec_l8Merge.f spec_l8Copy.f
  rcases spec_l8Find_at l (by omega) c.f0 k (by omega) with ⟨i, hi, e1, e2⟩ | ⟨e1, e2⟩
  · have hf : l[i].f0 = c.f0 := by
      have := List.find?_some e2
      simpa using this
    have hy : rd_T31 l (i : Int) = l[i] := by simp only [rd_T31, Int.toNat_natCast, getD_at _ _ _ hi]
    rw [e1]
    simp only [Option.bind_some]
    rw [if_pos (by omega), if_pos (by simp; omega)]
    simp only [Option.bind_some, List.nil_append]
    rw [if_pos (by omega), if_pos (by omega), hy, spec_Beats_at, insv_found c l ha i hi hf]
    simp only [Option.bind_some]
    by_cases h3 : btv c.f1 c.f2 l[i].f1 l[i].f2 = true
    · rw [if_pos h3, if_pos h3, if_pos (by omega), Int.toNat_natCast]
    · rw [if_neg h3, if_neg h3]
  · rw [e1]
    simp only [Option.bind_some]
    rw [if_neg (by omega)]
    have hne : ∀ x ∈ l, x.f0 ≠ c.f0 := by
      intro x hx hxe
      have := List.find?_eq_none.1 e2 x hx
      exact this (by simpa using hxe)
    have e := l8Merge_new c l (by omega) hne _ k 0 [] rfl (by omega) (by omega) (by simp)
    rw [show ((0 : Nat) : Int) = 0 from rfl] at e
    rw [e, List.drop_zero, List.nil_append, insv_new c l hne]
def mfold : List S31 → List S31 → Bool → List S31 × Bool
  | [], s, b => (s, b)
  | c :: t, s, b => mfold t (insv c s).1 (b || (insv c s).2)
theorem okv_eq (c : S31) : okv c = true ↔ cfv c.f0 c.f1 c.f2 c.f3 = 0 := by
  unfold okv
  rw [decide_eq_true_eq]
theorem asc_len : ∀ (l : List S31) (a : Int), ascv l = true → (∀ x ∈ l, a ≤ x.f0 ∧ x.f0 ≤ 3) → (l.length : Int) ≤ 4 - a ∨ l = []
  | [], _, _, _ => .inr rfl
  | x :: t, a, h, hb => by
    obtain ⟨h1, h2⟩ := asc_head h
    have hx := hb x (by simp)
    rcases asc_len t (x.f0 + 1) h1 (fun y hy => ⟨by have := h2 y hy; omega, (hb y (by simp [hy])).2⟩) with h3 | rfl
    · exact .inl (by rw [List.length_cons]; omega)
    · exact .inl (by simp; omega)
theorem asc_cons {x : S31} {t : List S31} (h : ascv t = true) (h2 : ∀ y ∈ t, x.f0 < y.f0) : ascv (x :: t) = true := by
  cases t with
  | nil => rfl
  | cons y r =>
    show (decide (x.f0 < y.f0) && ascv (y :: r)) = true
    rw [Bool.and_eq_true, decide_eq_true_eq]
    exact ⟨h2 y (by simp), h⟩
theorem insv_mem (c : S31) (l : List S31) : ∀ y ∈ (insv c l).1, y = c ∨ y ∈ l := by
  induction l with
  | nil =>
    intro y hy
    exact .inl (by simpa [insv] using hy)
  | cons x t ih =>
    intro y hy
    rw [insv] at hy
    split at hy
    · rcases List.mem_cons.1 hy with rfl | hy
      · exact .inr (by simp)
      · rcases ih y hy with h | h
        · exact .inl h
        · exact .inr (by simp [h])
    · split at hy
      · split at hy
        · rcases List.mem_cons.1 hy with rfl | hy
          · exact .inl rfl
          · exact .inr (by simp [hy])
        · exact .inr hy
      · rcases List.mem_cons.1 hy with rfl | hy
        · exact .inl rfl
        · exact .inr hy
theorem insv_asc (c : S31) (l : List S31) (h : ascv l = true) : ascv (insv c l).1 = true := by
  induction l with
  | nil => rfl
  | cons x t ih =>
    obtain ⟨h1, h2⟩ := asc_head h
    rw [insv]
    split
    · rename_i h3
      refine asc_cons (ih h1) (fun y hy => ?_)
      rcases insv_mem c t y hy with rfl | hy
      · exact h3
      · exact h2 y hy
    · rename_i h3
      split
      · rename_i h4
        split
        · exact asc_cons h1 (fun y hy => by have := h2 y hy; omega)
        · exact h
      · rename_i h4
        refine asc_cons h (fun y hy => ?_)
        rcases List.mem_cons.1 hy with rfl | hy
        · omega
        · have := h2 y hy
          omega
theorem vfv_intro {l : List S31} (h1 : l.all okv = true) (h2 : ascv l = true) : vfv l = 0 := by
  have h3 : l.length ≤ 4 := by
    have hb : ∀ x ∈ l, 0 ≤ x.f0 ∧ x.f0 ≤ 3 := fun x hx => (cfv_ok ((okv_eq x).1 (List.all_eq_true.1 h1 x hx))).1
    rcases asc_len l 0 h2 hb with h | rfl
    · omega
    · simp
  unfold vfv
  rw [if_neg (by omega), if_pos h1, if_pos h2]
theorem insv_view (c : S31) (l : List S31) (hc : okv c = true) (h : vfv l = 0) : vfv (insv c l).1 = 0 := by
  obtain ⟨_, h1, h2⟩ := vfv_ok h
  refine vfv_intro (List.all_eq_true.2 fun y hy => ?_) (insv_asc c l h2)
  rcases insv_mem c l y hy with rfl | hy
  · exact hc
  · exact List.all_eq_true.1 h1 y hy
theorem mfold_view (l : List S31) (hl : l.all okv = true) : ∀ (s : List S31) (b : Bool), vfv s = 0 → vfv (mfold l s b).1 = 0 := by
  induction l with
  | nil => exact fun s b h => h
  | cons c t ih =>
    intro s b h
    rw [List.all_cons, Bool.and_eq_true] at hl
    exact ih hl.2 _ _ (insv_view c s hl.1 h)
def mvv (l m : List S31) : Int × List S31 × Bool := if vfv l = 0 then (if vfv m = 0 then (0, mfold m l false) else (vfv m, [], false)) else (vfv l, [], false)
theorem mvv_len (l m : List S31) : (mvv l m).2.1.length ≤ 5 := by
  unfold mvv
  split
  · rename_i h
    split
    · rename_i h2
      have := (vfv_ok (mfold_view m (vfv_ok h2).2.1 l false h)).1
      show (mfold m l false).1.length ≤ 5
      omega
    · simp
  · simp
theorem spec_MergeViews_l0 (l : List S31) (hl : l.length ≤ 4) (ho : l.all okv = true) (cc : Int) (m : Nat) : ∀ (k i : Nat) (s : List S31) (b : Bool), l.length - i = m → i ≤ l.length → m + 70 ≤ k → vfv s = 0 → spec_MergeViews.l0 k l (i : Int) cc s b = some (cc, mfold (l.drop i) s b) := by
  induction m with
  | zero =>
    intro k i s b hm hi hk hs
    obtain ⟨k, rfl⟩ : ∃ z, k = z + 1 := ⟨k - 1, by omega⟩
    obtain rfl : i = l.length := by omega
    rw [spec_MergeViews.l0, if_neg (by omega), List.drop_length]
    rfl
  | succ m ih =>
    intro k i s b hm hi hk hs
    obtain ⟨k, rfl⟩ : ∃ z, k = z + 1 := ⟨k - 1, by omega⟩
    have hlt : i < l.length := by omega
    have hy : rd_T31 l (i : Int) = l[i] := by simp only [rd_T31, Int.toNat_natCast, getD_at _ _ _ hlt]
    have e2 : ((i + 1 : Nat) : Int) = (i : Int) + 1 := by omega
    rw [spec_MergeViews.l0, if_pos (by omega), if_pos (by omega), hy, spec_l8Merge_at s l[i] (vfv_ok hs).1 (vfv_ok hs).2.2 k (by omega), drop_cons l i hlt, mfold, w64 (by omega) (by omega), ← e2]
    simp only [Option.bind_some]
    have hv := insv_view l[i] s (List.all_eq_true.1 ho _ (List.getElem_mem hlt)) hs
    rw [ih k (i + 1) _ true (by omega) (by omega) (by omega) hv, ih k (i + 1) _ (insv l[i] s).2 (by omega) (by omega) (by omega) hv]
    cases b <;> simp
theorem impl_MergeViews_l0 (l : List S31) (hl : l.length ≤ 4) (ho : l.all okv = true) (cc : Int) (m : Nat) : ∀ (k i : Nat) (s : List S31) (b : Bool), l.length - i = m → i ≤ l.length → m + 70 ≤ k → vfv s = 0 → impl_MergeViews.l0 k l (l.length : Int) (i : Int) cc s b = some (cc, mfold (l.drop i) s b) := by
  induction m with
  | zero =>
    intro k i s b hm hi hk hs
    obtain ⟨k, rfl⟩ : ∃ z, k = z + 1 := ⟨k - 1, by omega⟩
    obtain rfl : i = l.length := by omega
    rw [impl_MergeViews.l0, if_neg (by omega), List.drop_length]
    rfl
  | succ m ih =>
    intro k i s b hm hi hk hs
    obtain ⟨k, rfl⟩ : ∃ z, k = z + 1 := ⟨k - 1, by omega⟩
    have hlt : i < l.length := by omega
    have hy : rd_T31 l (i : Int) = l[i] := by simp only [rd_T31, Int.toNat_natCast, getD_at _ _ _ hlt]
    have e2 : ((i + 1 : Nat) : Int) = (i : Int) + 1 := by omega
    have ho' := List.all_eq_true.1 ho _ (List.getElem_mem hlt)
    have em : mcv s l[i] = (0, insv l[i] s) := by
      unfold mcv
      rw [if_pos hs, if_pos ((okv_eq _).1 ho')]
    rw [impl_MergeViews.l0, if_pos (by omega), if_pos (by omega), if_pos (by omega), hy, impl_MergeClaim_at s l[i] k (by omega), em, drop_cons l i hlt, mfold, w64 (by omega) (by omega), ← e2]
    simp only [Option.bind_some]
    have hv := insv_view l[i] s ho' hs
    rw [ih k (i + 1) _ true (by omega) (by omega) (by omega) hv, ih k (i + 1) _ (insv l[i] s).2 (by omega) (by omega) (by omega) hv]
    cases b <;> simp
theorem spec_MergeViews_at (l m : List S31) (k : Nat) (hk : 100 ≤ k) : spec_MergeViews.f k l m = some (mvv l m) := by
  unfold spec_MergeViews.f mvv spec_l8Copy.f
  rw [spec_ViewFault_at l _ (by omega)]
  simp only [Option.bind_some]
  by_cases h : vfv l = 0
  · rw [if_pos h, if_pos h, spec_ViewFault_at m _ (by omega)]
    simp only [Option.bind_some]
    by_cases h2 : vfv m = 0
    · have h4 := (vfv_ok h).1
      have h5 := (vfv_ok h2).1
      rw [if_pos h2, if_pos h2, if_pos (by simp; omega)]
      simp only [Option.bind_some, List.nil_append]
      have e := spec_MergeViews_l0 m h5 (vfv_ok h2).2.1 0 _ k 0 l false rfl (by omega) (by omega) h
      rw [show ((0 : Nat) : Int) = 0 from rfl] at e
      rw [e, List.drop_zero]
    · rw [if_neg h2, if_neg h2]
  · rw [if_neg h, if_neg h]
theorem impl_MergeViews_at (l m : List S31) (k : Nat) (hk : 100 ≤ k) : impl_MergeViews.f k l m = some (mvv l m) := by
  obtain ⟨k, rfl⟩ : ∃ z, k = z + 1 := ⟨k - 1, by omega⟩
  unfold impl_MergeViews.f mvv
  rw [impl_ViewFault_at l _ (by omega)]
  simp only [Option.bind_some]
  by_cases h : vfv l = 0
  · rw [if_pos h, if_pos h, impl_ViewFault_at m _ (by omega)]
    simp only [Option.bind_some]
    rw [impl_MergeViews.j0]
    by_cases h2 : vfv m = 0
    · have h4 := (vfv_ok h).1
      have h5 := (vfv_ok h2).1
      rw [if_pos h2, if_pos h2]
      unfold impl_Claim_32.f
      rw [if_pos (by omega), Option.bind_some]
      have e := impl_MergeViews_l0 m h5 (vfv_ok h2).2.1 0 _ k 0 l false rfl (by omega) (by omega) h
      rw [show ((0 : Nat) : Int) = 0 from rfl] at e
      rw [e, List.drop_zero]
    · rw [if_neg h2, if_neg h2]
  · rw [if_neg h, if_neg h, impl_MergeViews.j0, if_neg h]
end Go.Proofs.Ytejodgcojcombaa.Pure
