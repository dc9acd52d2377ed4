/- What the printed functions of the law FnExactNodesIn answer, as plain Lean. -/
import Derived.Test.YtcpjcfblojoigaaStFnExactNodesIn
import Derived.Test.YtcpjcfblojoigaaBase
namespace Go.Proofs.Ytcpjcfblojoigaa.Pure
open Go.RowKit Go.Proofs.Ytcpjcfblojoigaa.Open Go.Proofs.Ytcpjcfblojoigaa.Base Go.Proofs.Ytcpjcfblojoigaa.PFnExactNodesIn Go.Proofs.YtcpjcfblojoigaaW.PrintWords Go.Proofs.YtcpjcfblojoigaaW.PrintLast
set_option linter.unusedVariables false
set_option linter.unusedSimpArgs false

theorem eqClaimS_self (l : List S40) (hl : l.length ≤ 1000000000) (k : Nat) (hk : l.length < k) : laws_eqClaimS.f k l l = some true := by
  unfold laws_eqClaimS.f
  rw [if_pos rfl]
  refine loop_up (fun k (_ : Unit) i => laws_eqClaimS.l0 k l l i) l.length 0 (fun _ _ => true) (fun _ _ => True) ?_ ?_ k () 0 0 rfl (Nat.zero_le _) trivial (by omega)
  · intro k _ _ _
    simp only [laws_eqClaimS.l0]
    rw [if_neg (by omega)]
  · intro k _ i hi _ _ ih
    simp only [laws_eqClaimS.l0, laws_eqClaim.f]
    rw [if_pos (by omega), if_pos (by omega), if_pos (by omega), w64 (by omega) (by omega)]
    simp only [eq_self, ↓reduceIte, Option.bind_some]
    exact ih () trivial

theorem szClaimS_at (l : List S71) (a : Int) (h0 : 0 ≤ a) (h1 : a ≤ 1048576) (hl : l.length ≤ maxLen) : laws_szClaimS.f l a = some (if a < l.length then -1 else a - l.length) := by
  unfold maxLen at hl
  unfold laws_szClaimS.f
  rw [w64 (by omega) (by omega)]
  by_cases h : a < l.length
  · rw [if_pos (by omega), if_pos h]
  · rw [if_neg (by omega), if_neg h]

def cvClaim (x : S71) : S40 := ⟨x.f0, x.f1, x.f2, x.f3⟩
theorem toClaimS_at (l : List S71) (hl : l.length ≤ 1000000000) (k : Nat) (hk : l.length < k) : laws_toClaimS.f k l = some (l.map cvClaim) := by
  unfold laws_toClaimS.f
  rw [if_pos (by omega), if_pos (by omega)]
  refine to_loop (fun k s i => laws_toClaimS.l0 k l s i) l cvClaim ?_ ?_ k _ (by simp) hk
  · intro k s hs
    simp only [laws_toClaimS.l0]
    rw [if_neg (by omega)]
  · intro k s i hi hs
    simp only [laws_toClaimS.l0, laws_toClaim.f]
    rw [if_pos (by omega), if_pos (by omega)]
    simp only [Option.bind_some]
    rw [if_pos (by omega), w64 (by omega) (by omega)]
    simp only [Int.toNat_natCast, rd_T71, getD_at _ _ _ hi, cvClaim]

def mkClaim (a : Int) : S40 := ⟨a, a + 1, a + 1 + 1, a + 1 + 1 + 1⟩
theorem markClaimS_at (l : List S40) (a : Int) (h0 : 0 ≤ a) (ha : a ≤ 1000000000000) (hl : l.length ≤ 1000000000) (k : Nat) (hk : l.length < k) : laws_markClaimS.f k l a = some (a + 4 * l.length, marks mkClaim 4 a l.length) := by
  unfold laws_markClaimS.f
  refine mark_loop (fun k s b i => laws_markClaimS.l0 k s b i) l.length 4 mkClaim a ?_ ?_ k l rfl hk
  · intro k s b hs
    simp only [laws_markClaimS.l0]
    rw [if_neg (by omega)]
  · intro k s i hi hs
    have hi' : i < s.length := by omega
    show laws_markClaimS.l0 (k + 1) s (a + 4 * (i : Int)) (i : Int) = laws_markClaimS.l0 k (s.set i (mkClaim (a + 4 * (i : Int)))) (a + 4 * (i : Int) + 4) ((i : Int) + 1)
    have e1 : wrap64 (a + 4 * (i : Int) + 1) = a + 4 * (i : Int) + 1 := w64 (by omega) (by omega)
    have e2 : wrap64 (a + 4 * (i : Int) + 1 + 1) = a + 4 * (i : Int) + 1 + 1 := w64 (by omega) (by omega)
    have e3 : wrap64 (a + 4 * (i : Int) + 1 + 1 + 1) = a + 4 * (i : Int) + 1 + 1 + 1 := w64 (by omega) (by omega)
    have e4 : wrap64 (a + 4 * (i : Int) + 1 + 1 + 1 + 1) = a + 4 * (i : Int) + 1 + 1 + 1 + 1 := w64 (by omega) (by omega)
    have ei : wrap64 ((i : Int) + 1) = (i : Int) + 1 := w64 (by omega) (by omega)
    have el : a + 4 * (i : Int) + 1 + 1 + 1 + 1 = a + 4 * (i : Int) + 4 := by omega
    simp only [laws_markClaimS.l0]
    rw [if_pos (by omega), if_pos (by omega)]
    simp only [Option.bind_some, Int.toNat_natCast, e1, e2, e3, e4, ei, rd_T40, getD_set, List.length_set, hi', List.set_set, mkClaim]
    rw [el]
theorem impl_in_at (a b c : Int) : impl_in.f a b c = some (decide (b ≤ a ∧ a ≤ c)) := by
  unfold impl_in.f
  by_cases h : a ≥ b
  · rw [if_pos h]
    have h' : b ≤ a := h
    simp [h']
  · rw [if_neg h]
    have h' : ¬ b ≤ a := h
    simp [h']
theorem spec_in_at (a b c : Int) : spec_l1In.f a b c = some (decide (b ≤ a ∧ a ≤ c)) := by
  unfold spec_l1In.f
  by_cases h : a ≥ b
  · rw [if_pos h]
    have h' : b ≤ a := h
    simp [h']
  · rw [if_neg h]
    have h' : ¬ b ≤ a := h
    simp [h']
def cfv (a b c d : Int) : Int := if (0 ≤ a ∧ a ≤ 3) ∧ (0 ≤ b ∧ b ≤ 1000000) ∧ (0 ≤ c ∧ c ≤ 2) ∧ (0 ≤ d ∧ d ≤ 9999999) then 0 else 3
theorem cfv_or (a b c d : Int) : cfv a b c d = 0 ∨ cfv a b c d = 3 := by
  unfold cfv
  split
  · exact .inl rfl
  · exact .inr rfl
theorem cfv_ok {a b c d : Int} (h : cfv a b c d = 0) : (0 ≤ a ∧ a ≤ 3) ∧ (0 ≤ b ∧ b ≤ 1000000) ∧ (0 ≤ c ∧ c ≤ 2) ∧ (0 ≤ d ∧ d ≤ 9999999) := by
  unfold cfv at h
  split at h
  · assumption
  · omega
theorem impl_ClaimFault_at (a b c d : Int) : impl_ClaimFault.f a b c d = some (cfv a b c d) := by
  simp only [impl_ClaimFault.f, impl_isNode.f, impl_isStatus.f, impl_in_at, Option.bind_some, decide_eq_true_eq]
  unfold cfv
  repeat' split
  all_goals first | rfl | (exfalso; omega)
theorem spec_ClaimFault_at (a b c d : Int) : spec_ClaimFault.f a b c d = some (cfv a b c d) := by
  simp only [spec_ClaimFault.f, spec_in_at, Option.bind_some, decide_eq_true_eq]
  unfold cfv
  repeat' split
  all_goals first | rfl | (exfalso; omega)
def okv (c : S40) : Bool := decide (cfv c.f0 c.f1 c.f2 c.f3 = 0)
def ascv : List S40 → Bool
  | [] => true
  | [_] => true
  | x :: y :: t => decide (x.f0 < y.f0) && ascv (y :: t)
def vfv (l : List S40) : Int := if l.length > 4 then 2 else if l.all okv then (if ascv l then 0 else 1) else 3
theorem ascv_drop (l : List S40) (i : Nat) (h1 : 1 ≤ i) (h : i < l.length) : ascv (l.drop (i - 1)) = (decide ((l[i - 1]).f0 < l[i].f0) && ascv (l.drop i)) := by
  have e : i - 1 + 1 = i := by omega
  rw [drop_cons l (i - 1) (by omega)]
  simp only [e]
  rw [drop_cons l i h]
  rfl
theorem ascv_last (l : List S40) (h : 0 < l.length) : ascv (l.drop (l.length - 1)) = true := by
  have e : l.length - 1 + 1 = l.length := by omega
  rw [drop_cons l (l.length - 1) (by omega)]
  simp only [e]
  rw [List.drop_length]
  rfl
theorem spec_ViewFault_l1 (l : List S40) (hl : l.length ≤ 4) (k : Nat) (hk : 10 ≤ k) : spec_ViewFault.l1 k l 1 = some (if ascv l then 0 else 1) := by
  by_cases h0 : l.length = 0
  · obtain ⟨k, rfl⟩ : ∃ m, k = m + 1 := ⟨k - 1, by omega⟩
    rw [List.eq_nil_of_length_eq_zero h0]
    rfl
  refine loop_up (fun k (_ : Unit) i => spec_ViewFault.l1 k l i) l.length 0 (fun _ i => if ascv (l.drop (i - 1)) then 0 else 1) (fun _ i => 1 ≤ i) ?_ ?_ k () 1 1 rfl (by omega) (by omega) (by omega)
  · intro k _ _ _
    simp only [spec_ViewFault.l1]
    rw [if_neg (by omega), ascv_last l (by omega), if_pos rfl]
  · intro k _ i hi h1 _ ih
    have e1 : wrap64 ((i : Int) - 1) = ((i - 1 : Nat) : Int) := by rw [w64 (by omega) (by omega)]; omega
    have e2 : wrap64 ((i : Int) + 1) = (i : Int) + 1 := w64 (by omega) (by omega)
    have hx : rd_T40 l ((i - 1 : Nat) : Int) = l[i - 1] := by simp only [rd_T40, Int.toNat_natCast, getD_at _ _ _ (show i - 1 < l.length by omega)]
    have hy : rd_T40 l (i : Int) = l[i] := by simp only [rd_T40, Int.toNat_natCast, getD_at _ _ _ hi]
    simp only [spec_ViewFault.l1, e1, e2]
    rw [if_pos (by omega), if_pos (by omega), if_pos (by omega), if_pos (by omega), hx, hy, ascv_drop l i h1 hi]
    by_cases h : l[i].f0 ≤ l[i - 1].f0
    · rw [if_pos h, decide_eq_false (by omega), Bool.false_and]
      rfl
    · rw [if_neg h, decide_eq_true (by omega), Bool.true_and]
      exact ih () (by omega)
theorem impl_ViewFault_l1 (l : List S40) (hl : l.length ≤ 4) (k : Nat) (hk : 10 ≤ k) : impl_ViewFault.l1 k l 1 = some (if ascv l then 0 else 1) := by
  by_cases h0 : l.length = 0
  · obtain ⟨k, rfl⟩ : ∃ m, k = m + 1 := ⟨k - 1, by omega⟩
    rw [List.eq_nil_of_length_eq_zero h0]
    rfl
  refine loop_up (fun k (_ : Unit) i => impl_ViewFault.l1 k l i) l.length 0 (fun _ i => if ascv (l.drop (i - 1)) then 0 else 1) (fun _ i => 1 ≤ i) ?_ ?_ k () 1 1 rfl (by omega) (by omega) (by omega)
  · intro k _ _ _
    simp only [impl_ViewFault.l1]
    rw [if_neg (by omega), ascv_last l (by omega), if_pos rfl]
  · intro k _ i hi h1 _ ih
    have e1 : wrap64 ((i : Int) - 1) = ((i - 1 : Nat) : Int) := by rw [w64 (by omega) (by omega)]; omega
    have e2 : wrap64 ((i : Int) + 1) = (i : Int) + 1 := w64 (by omega) (by omega)
    have hx : rd_T40 l ((i - 1 : Nat) : Int) = l[i - 1] := by simp only [rd_T40, Int.toNat_natCast, getD_at _ _ _ (show i - 1 < l.length by omega)]
    have hy : rd_T40 l (i : Int) = l[i] := by simp only [rd_T40, Int.toNat_natCast, getD_at _ _ _ hi]
    simp only [impl_ViewFault.l1, e1, e2]
    rw [if_pos (by omega), if_pos (by omega), if_pos (by omega), if_pos (by omega), hx, hy, ascv_drop l i h1 hi]
    by_cases h : l[i - 1].f0 ≥ l[i].f0
    · rw [if_pos h, decide_eq_false (by omega), Bool.false_and]
      rfl
    · rw [if_neg h, decide_eq_true (by omega), Bool.true_and]
      exact ih () (by omega)
theorem okv_cases (c : S40) : (okv c = true ∧ cfv c.f0 c.f1 c.f2 c.f3 = 0) ∨ (okv c = false ∧ cfv c.f0 c.f1 c.f2 c.f3 = 3) := by
  rcases cfv_or c.f0 c.f1 c.f2 c.f3 with h | h
  · exact .inl ⟨by simp [okv, h], h⟩
  · exact .inr ⟨by simp [okv, h], h⟩
theorem spec_ViewFault_at (l : List S40) (k : Nat) (hk : 20 ≤ k) : spec_ViewFault.f k l = some (vfv l) := by
  unfold spec_ViewFault.f vfv
  by_cases hl : l.length > 4
  · rw [if_pos (by omega), if_pos hl]
  rw [if_neg (by omega), if_neg hl]
  refine loop_up (fun k (_ : Unit) i => spec_ViewFault.l0 k l i) l.length 10 (fun _ i => if (l.drop i).all okv then (if ascv l then 0 else 1) else 3) (fun _ i => True) ?_ ?_ k () 0 0 rfl (by omega) trivial (by omega)
  · intro k _ _ hm
    simp only [spec_ViewFault.l0]
    rw [if_neg (by omega), spec_ViewFault_l1 l (by omega) k (by omega), List.drop_length]
    rfl
  · intro k _ i hi _ _ ih
    have e2 : wrap64 ((i : Int) + 1) = (i : Int) + 1 := w64 (by omega) (by omega)
    have hy : rd_T40 l (i : Int) = l[i] := by simp only [rd_T40, Int.toNat_natCast, getD_at _ _ _ hi]
    simp only [spec_ViewFault.l0, e2, spec_ClaimFault_at, Option.bind_some]
    rw [if_pos (by omega), if_pos (by omega), hy, drop_cons l i hi, List.all_cons]
    rcases okv_cases l[i] with ⟨h, h'⟩ | ⟨h, h'⟩
    · rw [h, h', if_pos rfl, Bool.true_and]
      exact ih () trivial
    · rw [h, h', if_neg (by omega), Bool.false_and]
      rfl
theorem impl_ViewFault_at (l : List S40) (k : Nat) (hk : 20 ≤ k) : impl_ViewFault.f k l = some (vfv l) := by
  unfold impl_ViewFault.f vfv
  by_cases hl : l.length > 4
  · rw [if_pos (by omega), if_pos hl]
  rw [if_neg (by omega), if_neg hl]
  refine loop_up (fun k (_ : Unit) i => impl_ViewFault.l0 k l l (l.length : Int) i) l.length 10 (fun _ i => if (l.drop i).all okv then (if ascv l then 0 else 1) else 3) (fun _ i => True) ?_ ?_ k () 0 0 rfl (by omega) trivial (by omega)
  · intro k _ _ hm
    simp only [impl_ViewFault.l0]
    rw [if_neg (by omega), impl_ViewFault_l1 l (by omega) k (by omega), List.drop_length]
    rfl
  · intro k _ i hi _ _ ih
    have e2 : wrap64 ((i : Int) + 1) = (i : Int) + 1 := w64 (by omega) (by omega)
    have hy : rd_T40 l (i : Int) = l[i] := by simp only [rd_T40, Int.toNat_natCast, getD_at _ _ _ hi]
    simp only [impl_ViewFault.l0, e2, impl_ClaimFault_at, Option.bind_some]
    rw [if_pos (by omega), if_pos (by omega), if_pos (by omega), hy, drop_cons l i hi, List.all_cons]
    rcases okv_cases l[i] with ⟨h, h'⟩ | ⟨h, h'⟩
    · rw [h, h', if_pos rfl, Bool.true_and]
      exact ih () trivial
    · rw [h, h', if_neg (by omega), Bool.false_and]
      rfl
theorem vfv_ok {l : List S40} (h : vfv l = 0) : l.length ≤ 4 ∧ l.all okv = true ∧ ascv l = true := by
  unfold vfv at h
  split at h
  · omega
  · split at h
    · split at h
      · exact ⟨by omega, by assumption, by assumption⟩
      · omega
    · omega
theorem vfv_le {l : List S40} (h : ¬ vfv l = 0) : True := trivial
theorem eqInt64S_self (l : List Int) (hl : l.length ≤ 1000000000) (k : Nat) (hk : l.length < k) : laws_eqInt64S.f k l l = some true := by
  unfold laws_eqInt64S.f
  rw [if_pos rfl]
  refine loop_up (fun k (_ : Unit) i => laws_eqInt64S.l0 k l l i) l.length 0 (fun _ _ => true) (fun _ _ => True) ?_ ?_ k () 0 0 rfl (Nat.zero_le _) trivial (by omega)
  · intro k _ _ _
    simp only [laws_eqInt64S.l0]
    rw [if_neg (by omega)]
  · intro k _ i hi _ _ ih
    simp only [laws_eqInt64S.l0]
    rw [if_pos (by omega), if_pos (by omega), if_pos (by omega), w64 (by omega) (by omega)]
    simp only [eq_self, ↓reduceIte]
    exact ih () trivial
theorem markInt64S_at (l : List Int) (a : Int) (h0 : 0 ≤ a) (ha : a ≤ 1000000000000) (hl : l.length ≤ 1000000000) (k : Nat) (hk : l.length < k) : laws_markInt64S.f k l a = some (a + 1 * l.length, marks id 1 a l.length) := by
  unfold laws_markInt64S.f
  refine mark_loop (fun k s b i => laws_markInt64S.l0 k s b i) l.length 1 id a ?_ ?_ k l rfl hk
  · intro k s b hs
    simp only [laws_markInt64S.l0]
    rw [if_neg (by omega)]
  · intro k s i hi hs
    show laws_markInt64S.l0 (k + 1) s (a + 1 * (i : Int)) (i : Int) = laws_markInt64S.l0 k (s.set i (a + 1 * (i : Int))) (a + 1 * (i : Int) + 1) ((i : Int) + 1)
    have e1 : wrap64 (a + 1 * (i : Int) + 1) = a + 1 * (i : Int) + 1 := w64 (by omega) (by omega)
    have ei : wrap64 ((i : Int) + 1) = (i : Int) + 1 := w64 (by omega) (by omega)
    simp only [laws_markInt64S.l0]
    rw [if_pos (by omega), if_pos (by omega)]
    simp only [Int.toNat_natCast, e1, ei]
theorem heldInt64S_at (n : Nat) (a : Int) (h0 : 0 ≤ a) (ha : a ≤ 1000000000000) (hl : n ≤ 1000000000) (k : Nat) (hk : n < k) : laws_heldInt64S.f k (marks id 1 a n) a = some (a + 1 * n) := by
  unfold laws_heldInt64S.f
  refine held_loop (fun k b i => laws_heldInt64S.l0 k (marks id 1 a n) b i) n 1 a ?_ ?_ k hk
  · intro k b
    simp only [laws_heldInt64S.l0, marks_len]
    rw [if_neg (by omega)]
  · intro k i hi
    show laws_heldInt64S.l0 (k + 1) (marks id 1 a n) (a + 1 * (i : Int)) (i : Int) = laws_heldInt64S.l0 k (marks id 1 a n) (a + 1 * (i : Int) + 1) ((i : Int) + 1)
    have e1 : wrap64 (a + 1 * (i : Int) + 1) = a + 1 * (i : Int) + 1 := w64 (by omega) (by omega)
    have ei : wrap64 ((i : Int) + 1) = (i : Int) + 1 := w64 (by omega) (by omega)
    have eg : rd (marks id 1 a n) (i : Int) = a + 1 * (i : Int) := by
      simp only [rd, Int.toNat_natCast, List.getD_eq_getElem?_getD, marks_get _ _ _ _ _ hi, Option.getD_some]
      rfl
    simp only [laws_heldInt64S.l0, marks_len]
    rw [if_pos (by omega), if_pos (by omega)]
    simp only [eg, e1, ei, eq_self, ↓reduceIte]
theorem eqIntsResult_self (c : Int) (l : List Int) (hl : l.length ≤ 1000000000) (k : Nat) (hk : l.length < k) : laws_eqIntsResult.f k c l c l = some true := by
  unfold laws_eqIntsResult.f
  rw [if_pos rfl, eqInt64S_self l hl k hk]
  simp
def nodv (l : List S40) (st : Int) : List Int := (l.filter (fun c => decide (c.f2 = st))).map (·.f0)
theorem nodv_cons (c : S40) (l : List S40) (st : Int) : nodv (c :: l) st = if c.f2 = st then c.f0 :: nodv l st else nodv l st := by
  unfold nodv
  by_cases h : c.f2 = st
  · rw [if_pos h, List.filter_cons_of_pos (by simp [h])]
    rfl
  · rw [if_neg h, List.filter_cons_of_neg (by simp [h])]
theorem spec_l8With_at (l : List S40) (hl : l.length ≤ 10) (st : Int) (k : Nat) (hk : 20 ≤ k) : spec_l8With.f k l st = some (nodv l st) := by
  unfold spec_l8With.f
  refine loop_up (fun k s i => spec_l8With.l0 k l st s i) l.length 0 (fun s i => s ++ nodv (l.drop i) st) (fun s i => s.length ≤ i) ?_ ?_ k [] 0 0 rfl (by omega) (by simp) (by omega)
  · intro k s _ _
    simp only [spec_l8With.l0]
    rw [if_neg (by omega), List.drop_length]
    simp [nodv]
  · intro k s i hi hs _ ih
    have e2 : wrap64 ((i : Int) + 1) = (i : Int) + 1 := w64 (by omega) (by omega)
    have hy : rd_T40 l (i : Int) = l[i] := by simp only [rd_T40, Int.toNat_natCast, getD_at _ _ _ hi]
    simp only [spec_l8With.l0, e2]
    rw [if_pos (by omega), if_pos (by omega), hy, drop_cons l i hi]
    by_cases h : l[i].f2 = st
    · rw [if_pos h, if_pos (by omega), ih _ (by simp; omega), nodv_cons, if_pos h]
      simp
    · rw [if_neg h, ih _ (by omega), nodv_cons, if_neg h]
theorem impl_NodesIn_l0 (l : List S40) (hl : l.length ≤ 10) (st c : Int) (k : Nat) (hk : 20 ≤ k) : impl_NodesIn.l0 k st l (l.length : Int) 0 c [] = some (c, nodv l st) := by
  refine loop_up (fun k s i => impl_NodesIn.l0 k st l (l.length : Int) i c s) l.length 0 (fun s i => (c, s ++ nodv (l.drop i) st)) (fun s i => s.length ≤ i) ?_ ?_ k [] 0 0 rfl (by omega) (by simp) (by omega)
  · intro k s _ _
    simp only [impl_NodesIn.l0]
    rw [if_neg (by omega), List.drop_length]
    simp [nodv]
  · intro k s i hi hs _ ih
    have e2 : wrap64 ((i : Int) + 1) = (i : Int) + 1 := w64 (by omega) (by omega)
    have hy : rd_T40 l (i : Int) = l[i] := by simp only [rd_T40, Int.toNat_natCast, getD_at _ _ _ hi]
    simp only [impl_NodesIn.l0, e2]
    rw [if_pos (by omega), if_pos (by omega), if_pos (by omega), hy, drop_cons l i hi]
    by_cases h : l[i].f2 = st
    · rw [if_pos h, if_pos (by omega), ih _ (by simp; omega), nodv_cons, if_pos h]
      simp
    · rw [if_neg h, ih _ (by omega), nodv_cons, if_neg h]
def niv (l : List S40) (st : Int) : Int × List Int := if vfv l = 0 then (if 0 ≤ st ∧ st ≤ 2 then (0, nodv l st) else (3, [])) else (vfv l, [])
theorem niv_len (l : List S40) (st : Int) : (niv l st).2.length ≤ 4 := by
  unfold niv
  split
  · rename_i h
    have h4 := (vfv_ok h).1
    split
    · have := List.length_filter_le (fun c : S40 => decide (c.f2 = st)) l
      simp only [nodv, List.length_map]
      omega
    · simp
  · simp
theorem spec_NodesIn_at (l : List S40) (st : Int) (k : Nat) (hk : 20 ≤ k) : spec_NodesIn.f k l st = some (niv l st) := by
  unfold spec_NodesIn.f niv
  rw [spec_ViewFault_at l k hk]
  simp only [Option.bind_some, spec_in_at]
  by_cases h : vfv l = 0
  · rw [if_pos h, if_pos h, spec_l8With_at l (by have := (vfv_ok h).1; omega) st k hk]
    by_cases h2 : 0 ≤ st ∧ st ≤ 2
    · rw [if_pos h2, if_pos (by simpa using h2)]
      rfl
    · rw [if_neg h2, if_neg (by simpa using h2)]
  · rw [if_neg h, if_neg h]
theorem impl_NodesIn_at (l : List S40) (st : Int) (k : Nat) (hk : 20 ≤ k) : impl_NodesIn.f k l st = some (niv l st) := by
  unfold impl_NodesIn.f niv impl_isStatus.f
  rw [impl_ViewFault_at l k hk]
  simp only [Option.bind_some, impl_in_at]
  by_cases h : vfv l = 0
  · rw [if_pos h, if_pos h, impl_NodesIn_l0 l (by have := (vfv_ok h).1; omega) st 0 k hk]
    by_cases h2 : 0 ≤ st ∧ st ≤ 2
    · rw [if_pos h2, if_pos (by simpa using h2)]
    · rw [if_neg h2, if_neg (by simpa using h2)]
  · rw [if_neg h, if_neg h]
end Go.Proofs.Ytcpjcfblojoigaa.Pure
