/- What the printed functions of the law FnExactRecordsFor answer, as plain Lean. -/
import Derived.Test.YtcpjcfblojoigaaStFnExactRecordsFor
import Derived.Test.YtcpjcfblojoigaaBase
namespace Go.Proofs.Ytcpjcfblojoigaa.Pure
open Go.RowKit Go.Proofs.Ytcpjcfblojoigaa.Open Go.Proofs.Ytcpjcfblojoigaa.Base Go.Proofs.Ytcpjcfblojoigaa.MFnExactRecordsFor Go.Proofs.YtcpjcfblojoigaaW.PrintWords Go.Proofs.YtcpjcfblojoigaaW.PrintLast
set_option linter.unusedVariables false
set_option linter.unusedSimpArgs false

theorem eqClaimS_self (l : List S40) (hl : l.length ≤ 1000000000) (k : Nat) (hk : l.length < k) : laws_eqClaimS.f k l l = some true := by
  unfold laws_eqClaimS.f
  rw [if_pos rfl]
  refine loop_up (fun k (_ : Unit) i => laws_eqClaimS.l0 k l l i) l.length 0 (fun _ _ => true) (fun _ _ => True) ?_ ?_ k () 0 0 rfl (Nat.zero_le _) trivial (by omega)
  · intro k _ _ _
    simp only [laws_eqClaimS.l0]
    rw [if_neg (by omega)]
  · intro k _ i hi _ _ ih
    simp only [laws_eqClaimS.l0, laws_eqClaim.f]
    rw [if_pos (by omega), if_pos (by omega), if_pos (by omega), w64 (by omega) (by omega)]
    simp only [eq_self, ↓reduceIte, Option.bind_some]
    exact ih () trivial

theorem szClaimS_at (l : List S71) (a : Int) (h0 : 0 ≤ a) (h1 : a ≤ 1048576) (hl : l.length ≤ maxLen) : laws_szClaimS.f l a = some (if a < l.length then -1 else a - l.length) := by
  unfold maxLen at hl
  unfold laws_szClaimS.f
  rw [w64 (by omega) (by omega)]
  by_cases h : a < l.length
  · rw [if_pos (by omega), if_pos h]
  · rw [if_neg (by omega), if_neg h]

def cvClaim (x : S71) : S40 := ⟨x.f0, x.f1, x.f2, x.f3⟩
theorem toClaimS_at (l : List S71) (hl : l.length ≤ 1000000000) (k : Nat) (hk : l.length < k) : laws_toClaimS.f k l = some (l.map cvClaim) := by
  unfold laws_toClaimS.f
  rw [if_pos (by omega), if_pos (by omega)]
  refine to_loop (fun k s i => laws_toClaimS.l0 k l s i) l cvClaim ?_ ?_ k _ (by simp) hk
  · intro k s hs
    simp only [laws_toClaimS.l0]
    rw [if_neg (by omega)]
  · intro k s i hi hs
    simp only [laws_toClaimS.l0, laws_toClaim.f]
    rw [if_pos (by omega), if_pos (by omega)]
    simp only [Option.bind_some]
    rw [if_pos (by omega), w64 (by omega) (by omega)]
    simp only [Int.toNat_natCast, rd_T71, getD_at _ _ _ hi, cvClaim]

def mkClaim (a : Int) : S40 := ⟨a, a + 1, a + 1 + 1, a + 1 + 1 + 1⟩
theorem markClaimS_at (l : List S40) (a : Int) (h0 : 0 ≤ a) (ha : a ≤ 1000000000000) (hl : l.length ≤ 1000000000) (k : Nat) (hk : l.length < k) : laws_markClaimS.f k l a = some (a + 4 * l.length, marks mkClaim 4 a l.length) := by
  unfold laws_markClaimS.f
  refine mark_loop (fun k s b i => laws_markClaimS.l0 k s b i) l.length 4 mkClaim a ?_ ?_ k l rfl hk
  · intro k s b hs
    simp only [laws_markClaimS.l0]
    rw [if_neg (by omega)]
  · intro k s i hi hs
    have hi' : i < s.length := by omega
    show laws_markClaimS.l0 (k + 1) s (a + 4 * (i : Int)) (i : Int) = laws_markClaimS.l0 k (s.set i (mkClaim (a + 4 * (i : Int)))) (a + 4 * (i : Int) + 4) ((i : Int) + 1)
    have e1 : wrap64 (a + 4 * (i : Int) + 1) = a + 4 * (i : Int) + 1 := w64 (by omega) (by omega)
    have e2 : wrap64 (a + 4 * (i : Int) + 1 + 1) = a + 4 * (i : Int) + 1 + 1 := w64 (by omega) (by omega)
    have e3 : wrap64 (a + 4 * (i : Int) + 1 + 1 + 1) = a + 4 * (i : Int) + 1 + 1 + 1 := w64 (by omega) (by omega)
    have e4 : wrap64 (a + 4 * (i : Int) + 1 + 1 + 1 + 1) = a + 4 * (i : Int) + 1 + 1 + 1 + 1 := w64 (by omega) (by omega)
    have ei : wrap64 ((i : Int) + 1) = (i : Int) + 1 := w64 (by omega) (by omega)
    have el : a + 4 * (i : Int) + 1 + 1 + 1 + 1 = a + 4 * (i : Int) + 4 := by omega
    simp only [laws_markClaimS.l0]
    rw [if_pos (by omega), if_pos (by omega)]
    simp only [Option.bind_some, Int.toNat_natCast, e1, e2, e3, e4, ei, rd_T40, getD_set, List.length_set, hi', List.set_set, mkClaim]
    rw [el]

theorem eqRecordS_self (l : List S141) (hl : l.length ≤ 1000000000) (k : Nat) (hk : l.length < k) : laws_eqRecordS.f k l l = some true := by
  unfold laws_eqRecordS.f
  rw [if_pos rfl]
  refine loop_up (fun k (_ : Unit) i => laws_eqRecordS.l0 k l l i) l.length 0 (fun _ _ => true) (fun _ _ => True) ?_ ?_ k () 0 0 rfl (Nat.zero_le _) trivial (by omega)
  · intro k _ _ _
    simp only [laws_eqRecordS.l0]
    rw [if_neg (by omega)]
  · intro k _ i hi _ _ ih
    simp only [laws_eqRecordS.l0, laws_eqRecord.f]
    rw [if_pos (by omega), if_pos (by omega), if_pos (by omega), w64 (by omega) (by omega)]
    simp only [eq_self, ↓reduceIte, Option.bind_some]
    exact ih () trivial

def mkRecord (a : Int) : S141 := ⟨a, a + 1, a + 1 + 1⟩
theorem markRecordS_at (l : List S141) (a : Int) (h0 : 0 ≤ a) (ha : a ≤ 1000000000000) (hl : l.length ≤ 1000000000) (k : Nat) (hk : l.length < k) : laws_markRecordS.f k l a = some (a + 3 * l.length, marks mkRecord 3 a l.length) := by
  unfold laws_markRecordS.f
  refine mark_loop (fun k s b i => laws_markRecordS.l0 k s b i) l.length 3 mkRecord a ?_ ?_ k l rfl hk
  · intro k s b hs
    simp only [laws_markRecordS.l0]
    rw [if_neg (by omega)]
  · intro k s i hi hs
    have hi' : i < s.length := by omega
    show laws_markRecordS.l0 (k + 1) s (a + 3 * (i : Int)) (i : Int) = laws_markRecordS.l0 k (s.set i (mkRecord (a + 3 * (i : Int)))) (a + 3 * (i : Int) + 3) ((i : Int) + 1)
    have e1 : wrap64 (a + 3 * (i : Int) + 1) = a + 3 * (i : Int) + 1 := w64 (by omega) (by omega)
    have e2 : wrap64 (a + 3 * (i : Int) + 1 + 1) = a + 3 * (i : Int) + 1 + 1 := w64 (by omega) (by omega)
    have e3 : wrap64 (a + 3 * (i : Int) + 1 + 1 + 1) = a + 3 * (i : Int) + 1 + 1 + 1 := w64 (by omega) (by omega)
    have ei : wrap64 ((i : Int) + 1) = (i : Int) + 1 := w64 (by omega) (by omega)
    have el : a + 3 * (i : Int) + 1 + 1 + 1 = a + 3 * (i : Int) + 3 := by omega
    simp only [laws_markRecordS.l0]
    rw [if_pos (by omega), if_pos (by omega)]
    simp only [Option.bind_some, Int.toNat_natCast, e1, e2, e3, ei, rd_T141, getD_set, List.length_set, hi', List.set_set, mkRecord]
    rw [el]

theorem heldRecordS_at (n : Nat) (a : Int) (h0 : 0 ≤ a) (ha : a ≤ 1000000000000) (hl : n ≤ 1000000000) (k : Nat) (hk : n < k) : laws_heldRecordS.f k (marks mkRecord 3 a n) a = some (a + 3 * n) := by
  unfold laws_heldRecordS.f
  refine held_loop (fun k b i => laws_heldRecordS.l0 k (marks mkRecord 3 a n) b i) n 3 a ?_ ?_ k hk
  · intro k b
    simp only [laws_heldRecordS.l0, marks_len]
    rw [if_neg (by omega)]
  · intro k i hi
    show laws_heldRecordS.l0 (k + 1) (marks mkRecord 3 a n) (a + 3 * (i : Int)) (i : Int) = laws_heldRecordS.l0 k (marks mkRecord 3 a n) (a + 3 * (i : Int) + 3) ((i : Int) + 1)
    have e1 : wrap64 (a + 3 * (i : Int) + 1) = a + 3 * (i : Int) + 1 := w64 (by omega) (by omega)
    have e2 : wrap64 (a + 3 * (i : Int) + 1 + 1) = a + 3 * (i : Int) + 1 + 1 := w64 (by omega) (by omega)
    have e3 : wrap64 (a + 3 * (i : Int) + 1 + 1 + 1) = a + 3 * (i : Int) + 1 + 1 + 1 := w64 (by omega) (by omega)
    have ei : wrap64 ((i : Int) + 1) = (i : Int) + 1 := w64 (by omega) (by omega)
    have el : a + 3 * (i : Int) + 1 + 1 + 1 = a + 3 * (i : Int) + 3 := by omega
    have eg : rd_T141 (marks mkRecord 3 a n) (i : Int) = mkRecord (a + 3 * (i : Int)) := by
      simp only [rd_T141, Int.toNat_natCast, List.getD_eq_getElem?_getD, marks_get _ _ _ _ _ hi, Option.getD_some]
      rfl
    simp only [laws_heldRecordS.l0, marks_len]
    rw [if_pos (by omega), if_pos (by omega)]
    simp only [eg, mkRecord, e1, e2, e3, ei, eq_self, ↓reduceIte]
    rw [el]
theorem impl_in_at (a b c : Int) : impl_in.f a b c = some (decide (b ≤ a ∧ a ≤ c)) := by
  unfold impl_in.f
  by_cases h : a ≥ b
  · rw [if_pos h]
    have h' : b ≤ a := h
    simp [h']
  · rw [if_neg h]
    have h' : ¬ b ≤ a := h
    simp [h']
theorem spec_in_at (a b c : Int) : spec_l1In.f a b c = some (decide (b ≤ a ∧ a ≤ c)) := by
  unfold spec_l1In.f
  by_cases h : a ≥ b
  · rw [if_pos h]
    have h' : b ≤ a := h
    simp [h']
  · rw [if_neg h]
    have h' : ¬ b ≤ a := h
    simp [h']
def cfv (a b c d : Int) : Int := if (0 ≤ a ∧ a ≤ 3) ∧ (0 ≤ b ∧ b ≤ 1000000) ∧ (0 ≤ c ∧ c ≤ 2) ∧ (0 ≤ d ∧ d ≤ 9999999) then 0 else 3
theorem cfv_or (a b c d : Int) : cfv a b c d = 0 ∨ cfv a b c d = 3 := by
  unfold cfv
  split
  · exact .inl rfl
  · exact .inr rfl
theorem cfv_ok {a b c d : Int} (h : cfv a b c d = 0) : (0 ≤ a ∧ a ≤ 3) ∧ (0 ≤ b ∧ b ≤ 1000000) ∧ (0 ≤ c ∧ c ≤ 2) ∧ (0 ≤ d ∧ d ≤ 9999999) := by
  unfold cfv at h
  split at h
  · assumption
  · omega
theorem impl_ClaimFault_at (a b c d : Int) : impl_ClaimFault.f a b c d = some (cfv a b c d) := by
  simp only [impl_ClaimFault.f, impl_isNode.f, impl_isStatus.f, impl_in_at, Option.bind_some, decide_eq_true_eq]
  unfold cfv
  repeat' split
  all_goals first | rfl | (exfalso; omega)
theorem spec_ClaimFault_at (a b c d : Int) : spec_ClaimFault.f a b c d = some (cfv a b c d) := by
  simp only [spec_ClaimFault.f, spec_in_at, Option.bind_some, decide_eq_true_eq]
  unfold cfv
  repeat' split
  all_goals first | rfl | (exfalso; omega)
def okv (c : S40) : Bool := decide (cfv c.f0 c.f1 c.f2 c.f3 = 0)
def ascv : List S40 → Bool
  | [] => true
  | [_] => true
  | x :: y :: t => decide (x.f0 < y.f0) && ascv (y :: t)
def vfv (l : List S40) : Int := if l.length > 4 then 2 else if l.all okv then (if ascv l then 0 else 1) else 3
theorem ascv_drop (l : List S40) (i : Nat) (h1 : 1 ≤ i) (h : i < l.length) : ascv (l.drop (i - 1)) = (decide ((l[i - 1]).f0 < l[i].f0) && ascv (l.drop i)) := by
  have e : i - 1 + 1 = i := by omega
  rw [drop_cons l (i - 1) (by omega)]
  simp only [e]
  rw [drop_cons l i h]
  rfl
theorem ascv_last (l : List S40) (h : 0 < l.length) : ascv (l.drop (l.length - 1)) = true := by
  have e : l.length - 1 + 1 = l.length := by omega
  rw [drop_cons l (l.length - 1) (by omega)]
  simp only [e]
  rw [List.drop_length]
  rfl
theorem spec_ViewFault_l1 (l : List S40) (hl : l.length ≤ 4) (k : Nat) (hk : 10 ≤ k) : spec_ViewFault.l1 k l 1 = some (if ascv l then 0 else 1) := by
  by_cases h0 : l.length = 0
  · obtain ⟨k, rfl⟩ : ∃ m, k = m + 1 := ⟨k - 1, by omega⟩
    rw [List.eq_nil_of_length_eq_zero h0]
    rfl
  refine loop_up (fun k (_ : Unit) i => spec_ViewFault.l1 k l i) l.length 0 (fun _ i => if ascv (l.drop (i - 1)) then 0 else 1) (fun _ i => 1 ≤ i) ?_ ?_ k () 1 1 rfl (by omega) (by omega) (by omega)
  · intro k _ _ _
    simp only [spec_ViewFault.l1]
    rw [if_neg (by omega), ascv_last l (by omega), if_pos rfl]
  · intro k _ i hi h1 _ ih
    have e1 : wrap64 ((i : Int) - 1) = ((i - 1 : Nat) : Int) := by rw [w64 (by omega) (by omega)]; omega
    have e2 : wrap64 ((i : Int) + 1) = (i : Int) + 1 := w64 (by omega) (by omega)
    have hx : rd_T40 l ((i - 1 : Nat) : Int) = l[i - 1] := by simp only [rd_T40, Int.toNat_natCast, getD_at _ _ _ (show i - 1 < l.length by omega)]
    have hy : rd_T40 l (i : Int) = l[i] := by simp only [rd_T40, Int.toNat_natCast, getD_at _ _ _ hi]
    simp only [spec_ViewFault.l1, e1, e2]
    rw [if_pos (by omega), if_pos (by omega), if_pos (by omega), if_pos (by omega), hx, hy, ascv_drop l i h1 hi]
    by_cases h : l[i].f0 ≤ l[i - 1].f0
    · rw [if_pos h, decide_eq_false (by omega), Bool.false_and]
      rfl
    · rw [if_neg h, decide_eq_true (by omega), Bool.true_and]
      exact ih () (by omega)
theorem impl_ViewFault_l1 (l : List S40) (hl : l.length ≤ 4) (k : Nat) (hk : 10 ≤ k) : impl_ViewFault.l1 k l 1 = some (if ascv l then 0 else 1) := by
  by_cases h0 : l.length = 0
  · obtain ⟨k, rfl⟩ : ∃ m, k = m + 1 := ⟨k - 1, by omega⟩
    rw [List.eq_nil_of_length_eq_zero h0]
    rfl
  refine loop_up (fun k (_ : Unit) i => impl_ViewFault.l1 k l i) l.length 0 (fun _ i => if ascv (l.drop (i - 1)) then 0 else 1) (fun _ i => 1 ≤ i) ?_ ?_ k () 1 1 rfl (by omega) (by omega) (by omega)
  · intro k _ _ _
    simp only [impl_ViewFault.l1]
    rw [if_neg (by omega), ascv_last l (by omega), if_pos rfl]
  · intro k _ i hi h1 _ ih
    have e1 : wrap64 ((i : Int) - 1) = ((i - 1 : Nat) : Int) := by rw [w64 (by omega) (by omega)]; omega
    have e2 : wrap64 ((i : Int) + 1) = (i : Int) + 1 := w64 (by omega) (by omega)
    have hx : rd_T40 l ((i - 1 : Nat) : Int) = l[i - 1] := by simp only [rd_T40, Int.toNat_natCast, getD_at _ _ _ (show i - 1 < l.length by omega)]
    have hy : rd_T40 l (i : Int) = l[i] := by simp only [rd_T40, Int.toNat_natCast, getD_at _ _ _ hi]
    simp only [impl_ViewFault.l1, e1, e2]
    rw [if_pos (by omega), if_pos (by omega), if_pos (by omega), if_pos (by omega), hx, hy, ascv_drop l i h1 hi]
    by_cases h : l[i - 1].f0 ≥ l[i].f0
    · rw [if_pos h, decide_eq_false (by omega), Bool.false_and]
      rfl
    · rw [if_neg h, decide_eq_true (by omega), Bool.true_and]
      exact ih () (by omega)
theorem okv_cases (c : S40) : (okv c = true ∧ cfv c.f0 c.f1 c.f2 c.f3 = 0) ∨ (okv c = false ∧ cfv c.f0 c.f1 c.f2 c.f3 = 3) := by
  rcases cfv_or c.f0 c.f1 c.f2 c.f3 with h | h
  · exact .inl ⟨by simp [okv, h], h⟩
  · exact .inr ⟨by simp [okv, h], h⟩
theorem spec_ViewFault_at (l : List S40) (k : Nat) (hk : 20 ≤ k) : spec_ViewFault.f k l = some (vfv l) := by
  unfold spec_ViewFault.f vfv
  by_cases hl : l.length > 4
  · rw [if_pos (by omega), if_pos hl]
  rw [if_neg (by omega), if_neg hl]
  refine loop_up (fun k (_ : Unit) i => spec_ViewFault.l0 k l i) l.length 10 (fun _ i => if (l.drop i).all okv then (if ascv l then 0 else 1) else 3) (fun _ i => True) ?_ ?_ k () 0 0 rfl (by omega) trivial (by omega)
  · intro k _ _ hm
    simp only [spec_ViewFault.l0]
    rw [if_neg (by omega), spec_ViewFault_l1 l (by omega) k (by omega), List.drop_length]
    rfl
  · intro k _ i hi _ _ ih
    have e2 : wrap64 ((i : Int) + 1) = (i : Int) + 1 := w64 (by omega) (by omega)
    have hy : rd_T40 l (i : Int) = l[i] := by simp only [rd_T40, Int.toNat_natCast, getD_at _ _ _ hi]
    simp only [spec_ViewFault.l0, e2, spec_ClaimFault_at, Option.bind_some]
    rw [if_pos (by omega), if_pos (by omega), hy, drop_cons l i hi, List.all_cons]
    rcases okv_cases l[i] with ⟨h, h'⟩ | ⟨h, h'⟩
    · rw [h, h', if_pos rfl, Bool.true_and]
      exact ih () trivial
    · rw [h, h', if_neg (by omega), Bool.false_and]
      rfl
theorem impl_ViewFault_at (l : List S40) (k : Nat) (hk : 20 ≤ k) : impl_ViewFault.f k l = some (vfv l) := by
  unfold impl_ViewFault.f vfv
  by_cases hl : l.length > 4
  · rw [if_pos (by omega), if_pos hl]
  rw [if_neg (by omega), if_neg hl]
  refine loop_up (fun k (_ : Unit) i => impl_ViewFault.l0 k l l (l.length : Int) i) l.length 10 (fun _ i => if (l.drop i).all okv then (if ascv l then 0 else 1) else 3) (fun _ i => True) ?_ ?_ k () 0 0 rfl (by omega) trivial (by omega)
  · intro k _ _ hm
    simp only [impl_ViewFault.l0]
    rw [if_neg (by omega), impl_ViewFault_l1 l (by omega) k (by omega), List.drop_length]
    rfl
  · intro k _ i hi _ _ ih
    have e2 : wrap64 ((i : Int) + 1) = (i : Int) + 1 := w64 (by omega) (by omega)
    have hy : rd_T40 l (i : Int) = l[i] := by simp only [rd_T40, Int.toNat_natCast, getD_at _ _ _ hi]
    simp only [impl_ViewFault.l0, e2, impl_ClaimFault_at, Option.bind_some]
    rw [if_pos (by omega), if_pos (by omega), if_pos (by omega), hy, drop_cons l i hi, List.all_cons]
    rcases okv_cases l[i] with ⟨h, h'⟩ | ⟨h, h'⟩
    · rw [h, h', if_pos rfl, Bool.true_and]
      exact ih () trivial
    · rw [h, h', if_neg (by omega), Bool.false_and]
      rfl
theorem vfv_ok {l : List S40} (h : vfv l = 0) : l.length ≤ 4 ∧ l.all okv = true ∧ ascv l = true := by
  unfold vfv at h
  split at h
  · omega
  · split at h
    · split at h
      · exact ⟨by omega, by assumption, by assumption⟩
      · omega
    · omega
theorem vfv_le {l : List S40} (h : ¬ vfv l = 0) : True := trivial
theorem eqRecordsResult_self (c : Int) (l : List S141) (hl : l.length ≤ 1000000000) (k : Nat) (hk : l.length < k) : laws_eqRecordsResult.f k c l c l = some true := by
  unfold laws_eqRecordsResult.f
  rw [if_pos rfl, eqRecordS_self l hl k hk]
  simp
def recof (kind : Int) (c : S40) : S141 := if kind = 33 then ⟨kind, c.f0, Int.tmod c.f3 65536⟩ else ⟨kind, c.f0, 0⟩
def recs (sv kind : Int) (l : List S40) : List S141 := (l.filter fun c => decide (c.f2 = 0) && (wrap64 (Int.tdiv c.f3 65536) == sv)).map (recof kind)
theorem recs_cons (sv kind : Int) (c : S40) (l : List S40) : recs sv kind (c :: l) = if c.f2 = 0 ∧ wrap64 (Int.tdiv c.f3 65536) = sv then recof kind c :: recs sv kind l else recs sv kind l := by
  unfold recs
  by_cases h : c.f2 = 0 ∧ wrap64 (Int.tdiv c.f3 65536) = sv
  · rw [if_pos h, List.filter_cons_of_pos (by simp [h])]
    rfl
  · rw [if_neg h, List.filter_cons_of_neg (by simpa using h)]
theorem spec_l10Records_at (l : List S40) (hl : l.length ≤ 10) (sv kind : Int) (k : Nat) (hk : 50 ≤ k) : spec_l10Records.f k l sv kind = some (recs sv kind l) := by
  unfold spec_l10Records.f
  refine loop_upc 2 (by omega) (fun k s i => spec_l10Records.l0 k l sv kind s i) l.length 0 (fun s i => s ++ recs sv kind (l.drop i)) (fun s i => s.length ≤ i) ?_ ?_ l.length k [] 0 0 rfl (by omega) (by omega) (by simp) (by omega)
  · intro k s _ _
    simp only [spec_l10Records.l0]
    rw [if_neg (by omega), List.drop_length]
    simp [recs]
  · intro k s i hi hs _ ih
    have e2 : wrap64 ((i : Int) + 1) = (i : Int) + 1 := w64 (by omega) (by omega)
    have hy : rd_T40 l (i : Int) = l[i] := by simp only [rd_T40, Int.toNat_natCast, getD_at _ _ _ hi]
    simp only [spec_l10Records.l0, spec_l10Records.j1, e2]
    rw [if_pos (by omega), if_pos (by omega), if_pos (show (i : Int) < l.length by omega), hy, drop_cons l i hi, recs_cons, ih s (by omega)]
    by_cases h1 : l[i].f2 = 0
    rotate_left
    · simp [h1]
    by_cases h2 : wrap64 (Int.tdiv l[i].f3 65536) = sv
    rotate_left
    · simp [h1, h2]
    rw [if_pos h1, if_neg (by simp [h2]), if_pos (And.intro h1 h2)]
    unfold recof
    by_cases h3 : kind = 33
    · rw [if_pos h3, if_pos h3, if_pos (show s.length < 5864062014805 by omega), ih _ (by simp; omega)]
      simp
    · rw [if_neg h3, if_neg h3, if_pos (show s.length < 5864062014805 by omega), ih _ (by simp; omega)]
      simp
theorem impl_RecordsFor_l0 (l : List S40) (hl : l.length ≤ 10) (sv kind c : Int) (k : Nat) (hk : 50 ≤ k) : impl_RecordsFor.l0 k sv kind l (l.length : Int) 0 c [] = some (c, recs sv kind l) := by
  refine loop_upc 2 (by omega) (fun k s i => impl_RecordsFor.l0 k sv kind l (l.length : Int) i c s) l.length 0 (fun s i => (c, s ++ recs sv kind (l.drop i))) (fun s i => s.length ≤ i) ?_ ?_ l.length k [] 0 0 rfl (by omega) (by omega) (by simp) (by omega)
  · intro k s _ _
    simp only [impl_RecordsFor.l0]
    rw [if_neg (by omega), List.drop_length]
    simp [recs]
  · intro k s i hi hs _ ih
    have e2 : wrap64 ((i : Int) + 1) = (i : Int) + 1 := w64 (by omega) (by omega)
    have hy : rd_T40 l (i : Int) = l[i] := by simp only [rd_T40, Int.toNat_natCast, getD_at _ _ _ hi]
    simp only [impl_RecordsFor.l0, impl_RecordsFor.j2, e2]
    rw [if_pos (by omega), if_pos (by omega), if_pos (show (i : Int) < l.length by omega), hy, drop_cons l i hi, recs_cons, ih s (by omega)]
    by_cases h1 : l[i].f2 = 0
    rotate_left
    · simp [h1]
    by_cases h2 : wrap64 (Int.tdiv l[i].f3 65536) = sv
    rotate_left
    · simp [h1, h2]
    rw [if_pos h1, if_neg (by simp [h2]), if_pos (And.intro h1 h2)]
    unfold recof
    by_cases h3 : kind = 33
    · rw [if_pos h3, if_pos h3, if_pos (show s.length < 5864062014805 by omega), ih _ (by simp; omega)]
      simp
    · rw [if_neg h3, if_neg h3, if_pos (show s.length < 5864062014805 by omega), ih _ (by simp; omega)]
      simp
def rfv (l : List S40) (sv kind : Int) : Int × List S141 := if vfv l = 0 then (if (0 ≤ sv ∧ sv ≤ 99) ∧ (kind = 1 ∨ kind = 33) then (0, recs sv kind l) else (3, [])) else (vfv l, [])
theorem rfv_len (l : List S40) (sv kind : Int) : (rfv l sv kind).2.length ≤ 4 := by
  unfold rfv
  split
  · rename_i h
    have h4 := (vfv_ok h).1
    split
    · have := List.length_filter_le (fun c : S40 => decide (c.f2 = 0) && (wrap64 (Int.tdiv c.f3 65536) == sv)) l
      simp only [recs, List.length_map]
      omega
    · simp
  · simp
theorem spec_RecordsFor_at (l : List S40) (sv kind : Int) (k : Nat) (hk : 60 ≤ k) : spec_RecordsFor.f k l sv kind = some (rfv l sv kind) := by
  unfold spec_RecordsFor.f rfv
  rw [spec_ViewFault_at l k (by omega)]
  simp only [Option.bind_some, spec_in_at, decide_eq_true_eq]
  by_cases h : vfv l = 0
  rotate_left
  · rw [if_neg h, if_neg h]
  rw [if_pos h, if_pos h, spec_l10Records_at l (by have := (vfv_ok h).1; omega) sv kind k (by omega)]
  simp only [Option.bind_some]
  repeat' split
  all_goals first | rfl | (exfalso; omega)
theorem impl_RecordsFor_at (l : List S40) (sv kind : Int) (k : Nat) (hk : 60 ≤ k) : impl_RecordsFor.f k l sv kind = some (rfv l sv kind) := by
  obtain ⟨k, rfl⟩ : ∃ x, k = x + 1 := ⟨k - 1, by omega⟩
  unfold impl_RecordsFor.f rfv impl_isType.f
  rw [impl_ViewFault_at l (k + 1) (by omega)]
  simp only [Option.bind_some, impl_in_at, decide_eq_true_eq, impl_RecordsFor.j0]
  by_cases h : vfv l = 0
  rotate_left
  · rw [if_neg h, if_neg h]
  rw [if_pos h, if_pos h, impl_RecordsFor_l0 l (by have := (vfv_ok h).1; omega) sv kind 0 k (by omega)]
  by_cases h1 : 0 ≤ sv ∧ sv ≤ 99
  rotate_left
  · simp only [h1, if_false, false_and, if_true, and_self]
  by_cases h2 : kind = 1
  · simp [h1, h2]
  by_cases h3 : kind = 33
  · simp [h1, h3]
  · simp [h1, h2, h3]
end Go.Proofs.Ytcpjcfblojoigaa.Pure
