/- What the printed functions of the law FnExactNextTarget answer, as plain Lean. -/
import Derived.Test.YtcpjcfblojoigaaStFnExactNextTarget
import Derived.Test.YtcpjcfblojoigaaBase
namespace Go.Proofs.Ytcpjcfblojoigaa.Pure
open Go.RowKit Go.Proofs.Ytcpjcfblojoigaa.Open Go.Proofs.Ytcpjcfblojoigaa.Base Go.Proofs.Ytcpjcfblojoigaa.PFnExactNextTarget Go.Proofs.YtcpjcfblojoigaaW.PrintWords Go.Proofs.YtcpjcfblojoigaaW.PrintLast
set_option linter.unusedVariables false
set_option linter.unusedSimpArgs false

theorem eqClaimS_self (l : List S40) (hl : l.length ≤ 1000000000) (k : Nat) (hk : l.length < k) : laws_eqClaimS.f k l l = some true := by
  unfold laws_eqClaimS.f
  rw [if_pos rfl]
  refine loop_up (fun k (_ : Unit) i => laws_eqClaimS.l0 k l l i) l.length 0 (fun _ _ => true) (fun _ _ => True) ?_ ?_ k () 0 0 rfl (Nat.zero_le _) trivial (by omega)
  · intro k _ _ _
    simp only [laws_eqClaimS.l0]
    rw [if_neg (by omega)]
  · intro k _ i hi _ _ ih
    simp only [laws_eqClaimS.l0, laws_eqClaim.f]
    rw [if_pos (by omega), if_pos (by omega), if_pos (by omega), w64 (by omega) (by omega)]
    simp only [eq_self, ↓reduceIte, Option.bind_some]
    exact ih () trivial

theorem szClaimS_at (l : List S71) (a : Int) (h0 : 0 ≤ a) (h1 : a ≤ 1048576) (hl : l.length ≤ maxLen) : laws_szClaimS.f l a = some (if a < l.length then -1 else a - l.length) := by
  unfold maxLen at hl
  unfold laws_szClaimS.f
  rw [w64 (by omega) (by omega)]
  by_cases h : a < l.length
  · rw [if_pos (by omega), if_pos h]
  · rw [if_neg (by omega), if_neg h]

def cvClaim (x : S71) : S40 := ⟨x.f0, x.f1, x.f2, x.f3⟩
theorem toClaimS_at (l : List S71) (hl : l.length ≤ 1000000000) (k : Nat) (hk : l.length < k) : laws_toClaimS.f k l = some (l.map cvClaim) := by
  unfold laws_toClaimS.f
  rw [if_pos (by omega), if_pos (by omega)]
  refine to_loop (fun k s i => laws_toClaimS.l0 k l s i) l cvClaim ?_ ?_ k _ (by simp) hk
  · intro k s hs
    simp only [laws_toClaimS.l0]
    rw [if_neg (by omega)]
  · intro k s i hi hs
    simp only [laws_toClaimS.l0, laws_toClaim.f]
    rw [if_pos (by omega), if_pos (by omega)]
    simp only [Option.bind_some]
    rw [if_pos (by omega), w64 (by omega) (by omega)]
    simp only [Int.toNat_natCast, rd_T71, getD_at _ _ _ hi, cvClaim]
theorem impl_in_at (a b c : Int) : impl_in.f a b c = some (decide (b ≤ a ∧ a ≤ c)) := by
  unfold impl_in.f
  by_cases h : a ≥ b
  · rw [if_pos h]
    have h' : b ≤ a := h
    simp [h']
  · rw [if_neg h]
    have h' : ¬ b ≤ a := h
    simp [h']
theorem spec_in_at (a b c : Int) : spec_l1In.f a b c = some (decide (b ≤ a ∧ a ≤ c)) := by
  unfold spec_l1In.f
  by_cases h : a ≥ b
  · rw [if_pos h]
    have h' : b ≤ a := h
    simp [h']
  · rw [if_neg h]
    have h' : ¬ b ≤ a := h
    simp [h']
def cfv (a b c d : Int) : Int := if (0 ≤ a ∧ a ≤ 3) ∧ (0 ≤ b ∧ b ≤ 1000000) ∧ (0 ≤ c ∧ c ≤ 2) ∧ (0 ≤ d ∧ d ≤ 9999999) then 0 else 3
theorem cfv_or (a b c d : Int) : cfv a b c d = 0 ∨ cfv a b c d = 3 := by
  unfold cfv
  split
  · exact .inl rfl
  · exact .inr rfl
theorem cfv_ok {a b c d : Int} (h : cfv a b c d = 0) : (0 ≤ a ∧ a ≤ 3) ∧ (0 ≤ b ∧ b ≤ 1000000) ∧ (0 ≤ c ∧ c ≤ 2) ∧ (0 ≤ d ∧ d ≤ 9999999) := by
  unfold cfv at h
  split at h
  · assumption
  · omega
theorem impl_ClaimFault_at (a b c d : Int) : impl_ClaimFault.f a b c d = some (cfv a b c d) := by
  simp only [impl_ClaimFault.f, impl_isNode.f, impl_isStatus.f, impl_in_at, Option.bind_some, decide_eq_true_eq]
  unfold cfv
  repeat' split
  all_goals first | rfl | (exfalso; omega)
theorem spec_ClaimFault_at (a b c d : Int) : spec_ClaimFault.f a b c d = some (cfv a b c d) := by
  simp only [spec_ClaimFault.f, spec_in_at, Option.bind_some, decide_eq_true_eq]
  unfold cfv
  repeat' split
  all_goals first | rfl | (exfalso; omega)
def okv (c : S40) : Bool := decide (cfv c.f0 c.f1 c.f2 c.f3 = 0)
def ascv : List S40 → Bool
  | [] => true
  | [_] => true
  | x :: y :: t => decide (x.f0 < y.f0) && ascv (y :: t)
def vfv (l : List S40) : Int := if l.length > 4 then 2 else if l.all okv then (if ascv l then 0 else 1) else 3
theorem ascv_drop (l : List S40) (i : Nat) (h1 : 1 ≤ i) (h : i < l.length) : ascv (l.drop (i - 1)) = (decide ((l[i - 1]).f0 < l[i].f0) && ascv (l.drop i)) := by
  have e : i - 1 + 1 = i := by omega
  rw [drop_cons l (i - 1) (by omega)]
  simp only [e]
  rw [drop_cons l i h]
  rfl
theorem ascv_last (l : List S40) (h : 0 < l.length) : ascv (l.drop (l.length - 1)) = true := by
  have e : l.length - 1 + 1 = l.length := by omega
  rw [drop_cons l (l.length - 1) (by omega)]
  simp only [e]
  rw [List.drop_length]
  rfl
theorem spec_ViewFault_l1 (l : List S40) (hl : l.length ≤ 4) (k : Nat) (hk : 10 ≤ k) : spec_ViewFault.l1 k l 1 = some (if ascv l then 0 else 1) := by
  by_cases h0 : l.length = 0
  · obtain ⟨k, rfl⟩ : ∃ m, k = m + 1 := ⟨k - 1, by omega⟩
    rw [List.eq_nil_of_length_eq_zero h0]
    rfl
  refine loop_up (fun k (_ : Unit) i => spec_ViewFault.l1 k l i) l.length 0 (fun _ i => if ascv (l.drop (i - 1)) then 0 else 1) (fun _ i => 1 ≤ i) ?_ ?_ k () 1 1 rfl (by omega) (by omega) (by omega)
  · intro k _ _ _
    simp only [spec_ViewFault.l1]
    rw [if_neg (by omega), ascv_last l (by omega), if_pos rfl]
  · intro k _ i hi h1 _ ih
    have e1 : wrap64 ((i : Int) - 1) = ((i - 1 : Nat) : Int) := by rw [w64 (by omega) (by omega)]; omega
    have e2 : wrap64 ((i : Int) + 1) = (i : Int) + 1 := w64 (by omega) (by omega)
    have hx : rd_T40 l ((i - 1 : Nat) : Int) = l[i - 1] := by simp only [rd_T40, Int.toNat_natCast, getD_at _ _ _ (show i - 1 < l.length by omega)]
    have hy : rd_T40 l (i : Int) = l[i] := by simp only [rd_T40, Int.toNat_natCast, getD_at _ _ _ hi]
    simp only [spec_ViewFault.l1, e1, e2]
    rw [if_pos (by omega), if_pos (by omega), if_pos (by omega), if_pos (by omega), hx, hy, ascv_drop l i h1 hi]
    by_cases h : l[i].f0 ≤ l[i - 1].f0
    · rw [if_pos h, decide_eq_false (by omega), Bool.false_and]
      rfl
    · rw [if_neg h, decide_eq_true (by omega), Bool.true_and]
      exact ih () (by omega)
theorem impl_ViewFault_l1 (l : List S40) (hl : l.length ≤ 4) (k : Nat) (hk : 10 ≤ k) : impl_ViewFault.l1 k l 1 = some (if ascv l then 0 else 1) := by
  by_cases h0 : l.length = 0
  · obtain ⟨k, rfl⟩ : ∃ m, k = m + 1 := ⟨k - 1, by omega⟩
    rw [List.eq_nil_of_length_eq_zero h0]
    rfl
  refine loop_up (fun k (_ : Unit) i => impl_ViewFault.l1 k l i) l.length 0 (fun _ i => if ascv (l.drop (i - 1)) then 0 else 1) (fun _ i => 1 ≤ i) ?_ ?_ k () 1 1 rfl (by omega) (by omega) (by omega)
  · intro k _ _ _
    simp only [impl_ViewFault.l1]
    rw [if_neg (by omega), ascv_last l (by omega), if_pos rfl]
  · intro k _ i hi h1 _ ih
    have e1 : wrap64 ((i : Int) - 1) = ((i - 1 : Nat) : Int) := by rw [w64 (by omega) (by omega)]; omega
    have e2 : wrap64 ((i : Int) + 1) = (i : Int) + 1 := w64 (by omega) (by omega)
    have hx : rd_T40 l ((i - 1 : Nat) : Int) = l[i - 1] := by simp only [rd_T40, Int.toNat_natCast, getD_at _ _ _ (show i - 1 < l.length by omega)]
    have hy : rd_T40 l (i : Int) = l[i] := by simp only [rd_T40, Int.toNat_natCast, getD_at _ _ _ hi]
    simp only [impl_ViewFault.l1, e1, e2]
    rw [if_pos (by omega), if_pos (by omega), if_pos (by omega), if_pos (by omega), hx, hy, ascv_drop l i h1 hi]
    by_cases h : l[i - 1].f0 ≥ l[i].f0
    · rw [if_pos h, decide_eq_false (by omega), Bool.false_and]
      rfl
    · rw [if_neg h, decide_eq_true (by omega), Bool.true_and]
      exact ih () (by omega)
theorem okv_cases (c : S40) : (okv c = true ∧ cfv c.f0 c.f1 c.f2 c.f3 = 0) ∨ (okv c = false ∧ cfv c.f0 c.f1 c.f2 c.f3 = 3) := by
  rcases cfv_or c.f0 c.f1 c.f2 c.f3 with h | h
  · exact .inl ⟨by simp [okv, h], h⟩
  · exact .inr ⟨by simp [okv, h], h⟩
theorem spec_ViewFault_at (l : List S40) (k : Nat) (hk : 20 ≤ k) : spec_ViewFault.f k l = some (vfv l) := by
  unfold spec_ViewFault.f vfv
  by_cases hl : l.length > 4
  · rw [if_pos (by omega), if_pos hl]
  rw [if_neg (by omega), if_neg hl]
  refine loop_up (fun k (_ : Unit) i => spec_ViewFault.l0 k l i) l.length 10 (fun _ i => if (l.drop i).all okv then (if ascv l then 0 else 1) else 3) (fun _ i => True) ?_ ?_ k () 0 0 rfl (by omega) trivial (by omega)
  · intro k _ _ hm
    simp only [spec_ViewFault.l0]
    rw [if_neg (by omega), spec_ViewFault_l1 l (by omega) k (by omega), List.drop_length]
    rfl
  · intro k _ i hi _ _ ih
    have e2 : wrap64 ((i : Int) + 1) = (i : Int) + 1 := w64 (by omega) (by omega)
    have hy : rd_T40 l (i : Int) = l[i] := by simp only [rd_T40, Int.toNat_natCast, getD_at _ _ _ hi]
    simp only [spec_ViewFault.l0, e2, spec_ClaimFault_at, Option.bind_some]
    rw [if_pos (by omega), if_pos (by omega), hy, drop_cons l i hi, List.all_cons]
    rcases okv_cases l[i] with ⟨h, h'⟩ | ⟨h, h'⟩
    · rw [h, h', if_pos rfl, Bool.true_and]
      exact ih () trivial
    · rw [h, h', if_neg (by omega), Bool.false_and]
      rfl
theorem impl_ViewFault_at (l : List S40) (k : Nat) (hk : 20 ≤ k) : impl_ViewFault.f k l = some (vfv l) := by
  unfold impl_ViewFault.f vfv
  by_cases hl : l.length > 4
  · rw [if_pos (by omega), if_pos hl]
  rw [if_neg (by omega), if_neg hl]
  refine loop_up (fun k (_ : Unit) i => impl_ViewFault.l0 k l l (l.length : Int) i) l.length 10 (fun _ i => if (l.drop i).all okv then (if ascv l then 0 else 1) else 3) (fun _ i => True) ?_ ?_ k () 0 0 rfl (by omega) trivial (by omega)
  · intro k _ _ hm
    simp only [impl_ViewFault.l0]
    rw [if_neg (by omega), impl_ViewFault_l1 l (by omega) k (by omega), List.drop_length]
    rfl
  · intro k _ i hi _ _ ih
    have e2 : wrap64 ((i : Int) + 1) = (i : Int) + 1 := w64 (by omega) (by omega)
    have hy : rd_T40 l (i : Int) = l[i] := by simp only [rd_T40, Int.toNat_natCast, getD_at _ _ _ hi]
    simp only [impl_ViewFault.l0, e2, impl_ClaimFault_at, Option.bind_some]
    rw [if_pos (by omega), if_pos (by omega), if_pos (by omega), hy, drop_cons l i hi, List.all_cons]
    rcases okv_cases l[i] with ⟨h, h'⟩ | ⟨h, h'⟩
    · rw [h, h', if_pos rfl, Bool.true_and]
      exact ih () trivial
    · rw [h, h', if_neg (by omega), Bool.false_and]
      rfl
theorem vfv_ok {l : List S40} (h : vfv l = 0) : l.length ≤ 4 ∧ l.all okv = true ∧ ascv l = true := by
  unfold vfv at h
  split at h
  · omega
  · split at h
    · split at h
      · exact ⟨by omega, by assumption, by assumption⟩
      · omega
    · omega
theorem vfv_le {l : List S40} (h : ¬ vfv l = 0) : True := trivial
def stepv (self last : Int) (c : S40) (s : Int × Int) : Int × Int := if c.f0 = self then s else if c.f0 > last then (c.f0, c.f0) else (c.f0, s.2)
theorem stepv_fold (self last : Int) (l : List S40) : l.foldr (stepv self last) (-1, -1) = ((match l.find? (fun c => decide (c.f0 ≠ self)) with | some c => c.f0 | none => -1), (match l.find? (fun c => decide (c.f0 ≠ self ∧ c.f0 > last)) with | some c => c.f0 | none => -1)) := by
  induction l with
  | nil => rfl
  | cons c t ih =>
    rw [List.foldr_cons, ih]
    unfold stepv
    by_cases h1 : c.f0 = self
    · rw [if_pos h1, List.find?_cons_of_neg (by simp [h1]), List.find?_cons_of_neg (by simp [h1])]
    · rw [if_neg h1, List.find?_cons_of_pos (p := fun c : S40 => decide (c.f0 ≠ self)) (by simp [h1])]
      by_cases h2 : c.f0 > last
      · rw [if_pos h2, List.find?_cons_of_pos (by simp [h1, h2])]
      · rw [if_neg h2, List.find?_cons_of_neg (by simp [h2])]
def finv (s : Int × Int) : Int := if s.2 ≥ 0 then s.2 else s.1
def nextv (l : List S40) (self last : Int) : Int :=
  match l.find? (fun c => decide (c.f0 ≠ self ∧ c.f0 > last)) with
  | some c => c.f0
  | none => (match l.find? (fun c => decide (c.f0 ≠ self)) with | some c => c.f0 | none => -1)
theorem spec_l9Next_at (l : List S40) (hl : l.length ≤ 10) (hp : ∀ c ∈ l, 0 ≤ c.f0) (a b : Int) (k : Nat) (hk : 20 ≤ k) : spec_l9Next.f k l a b = some (nextv l a b) := by
  unfold spec_l9Next.f
  rw [w64 (by omega) (by omega)]
  have h := loop_down (fun k (s : Int × Int) i => spec_l9Next.l0 k l a b s.1 s.2 i) l.length (fun s j => finv ((l.take j).foldr (stepv a b) s)) ?_ ?_ l.length k (-1, -1) (by omega) (by omega)
  · simp only at h
    rw [h, List.take_length, stepv_fold]
    unfold nextv finv
    cases h1 : l.find? (fun c => decide (c.f0 ≠ a ∧ c.f0 > b)) with
    | none => simp
    | some c =>
      have := hp c (List.mem_of_find?_eq_some h1)
      simp [this]
  · rintro k ⟨x, y⟩
    simp only [spec_l9Next.l0]
    rw [if_neg (by omega)]
    show _ = some (if y ≥ 0 then y else x)
    by_cases h : y ≥ 0
    · rw [if_pos h, if_pos h]
    · rw [if_neg h, if_neg h]
  · rintro k ⟨x, y⟩ i hi ih
    have e2 : wrap64 ((i : Int) - 1) = (i : Int) - 1 := w64 (by omega) (by omega)
    have hy : rd_T40 l (i : Int) = l[i] := by simp only [rd_T40, Int.toNat_natCast, getD_at _ _ _ hi]
    simp only [spec_l9Next.l0, e2]
    rw [if_pos (by omega), if_pos (by omega), if_pos (by omega), hy, take_succ l i hi]
    simp only [List.foldr_append, List.foldr_cons, List.foldr_nil]
    unfold stepv
    by_cases h1 : l[i].f0 = a
    · rw [if_pos h1, if_pos h1]
      exact ih (x, y)
    · rw [if_neg h1, if_neg h1]
      by_cases h2 : l[i].f0 > b
      · rw [if_pos h2, if_pos h2]
        exact ih (l[i].f0, l[i].f0)
      · rw [if_neg h2, if_neg h2]
        exact ih (l[i].f0, y)
def fstv (l : List S40) (self : Int) : Int := match l.find? (fun c => decide (c.f0 ≠ self)) with | some c => c.f0 | none => -1
def lov (l : List S40) (self s : Int) : Int := if s = -1 then fstv l self else s
def endv (lo : Int) : Int × Int := if lo = -1 then (4, 0) else (0, lo)
def lowv (l : List S40) (self last s : Int) : Int × Int :=
  match l.find? (fun c => decide (c.f0 ≠ self ∧ c.f0 > last)) with
  | some c => (0, c.f0)
  | none => endv (lov l self s)
theorem impl_NextTarget_l0 (l : List S40) (hl : l.length ≤ 10) (hp : ∀ c ∈ l, 0 ≤ c.f0) (a b : Int) (k : Nat) (hk : 20 ≤ k) : impl_NextTarget.l0 k a b (-1) l (l.length : Int) 0 = some (lowv l a b (-1)) := by
  refine loop_up (fun k s i => impl_NextTarget.l0 k a b s l (l.length : Int) i) l.length 0 (fun s i => lowv (l.drop i) a b s) (fun s i => True) ?_ ?_ k (-1) 0 0 rfl (by omega) trivial (by omega)
  · intro k s _ _
    simp only [impl_NextTarget.l0, impl_noInt.f, Option.bind_some]
    rw [if_neg (by omega), List.drop_length]
    by_cases h : s = -1
    · subst h
      rfl
    · rw [if_neg h]
      have e : lov [] a s = s := if_neg h
      have e3 : endv s = (0, s) := if_neg h
      show _ = some (endv (lov [] a s))
      rw [e, e3]
  · intro k s i hi _ _ ih
    have e2 : wrap64 ((i : Int) + 1) = (i : Int) + 1 := w64 (by omega) (by omega)
    have hy : rd_T40 l (i : Int) = l[i] := by simp only [rd_T40, Int.toNat_natCast, getD_at _ _ _ hi]
    have hq := hp l[i] (List.getElem_mem _)
    simp only [impl_NextTarget.l0, e2]
    rw [if_pos (by omega), if_pos (by omega), if_pos (by omega), hy, drop_cons l i hi]
    by_cases h1 : l[i].f0 = a
    · rw [if_pos h1, ih _ trivial]
      unfold lowv lov fstv
      rw [List.find?_cons_of_neg (by simp [h1]), List.find?_cons_of_neg (by simp [h1])]
    · rw [if_neg h1]
      by_cases h2 : l[i].f0 > b
      · rw [if_pos h2]
        unfold lowv
        rw [List.find?_cons_of_pos (by simp [h1, h2])]
      · rw [if_neg h2]
        by_cases h3 : s = -1
        · rw [if_pos h3, ih _ trivial]
          have e1 : lov (l.drop (i + 1)) a l[i].f0 = l[i].f0 := if_neg (by omega)
          have e3 : lov (l[i] :: l.drop (i + 1)) a s = l[i].f0 := by
            unfold lov fstv
            rw [if_pos h3, List.find?_cons_of_pos (by simp [h1])]
          unfold lowv
          rw [List.find?_cons_of_neg (by simp [h2]), e1, e3]
        · rw [if_neg h3, ih _ trivial]
          have e1 : lov (l.drop (i + 1)) a s = s := if_neg h3
          have e3 : lov (l[i] :: l.drop (i + 1)) a s = s := if_neg h3
          unfold lowv
          rw [List.find?_cons_of_neg (by simp [h2]), e1, e3]
theorem okv_node {l : List S40} (h : l.all okv = true) : ∀ c ∈ l, 0 ≤ c.f0 ∧ c.f0 ≤ 3 := by
  intro c hc
  have h1 := List.all_eq_true.1 h c hc
  have h2 := cfv_ok (of_decide_eq_true h1)
  exact h2.1
def ntv (l : List S40) (a b : Int) : Int × Int := if vfv l = 0 then (if (0 ≤ a ∧ a ≤ 3) ∧ (-1 ≤ b ∧ b ≤ 3) then (if nextv l a b < 0 then (4, 0) else (0, nextv l a b)) else (3, 0)) else (vfv l, 0)
theorem lowv_eq (l : List S40) (hp : ∀ c ∈ l, 0 ≤ c.f0) (a b : Int) : lowv l a b (-1) = if nextv l a b < 0 then (4, 0) else (0, nextv l a b) := by
  have e0 : lov l a (-1) = fstv l a := if_pos rfl
  unfold lowv nextv
  rw [e0]
  cases h1 : l.find? (fun c => decide (c.f0 ≠ a ∧ c.f0 > b)) with
  | some c =>
    have := hp c (List.mem_of_find?_eq_some h1)
    simp only
    rw [if_neg (by omega)]
  | none =>
    simp only
    unfold fstv endv
    cases h2 : l.find? (fun c => decide (c.f0 ≠ a)) with
    | some c =>
      have := hp c (List.mem_of_find?_eq_some h2)
      simp only
      rw [if_neg (by omega), if_neg (by omega)]
    | none => simp
theorem spec_NextTarget_at (l : List S40) (a b : Int) (k : Nat) (hk : 60 ≤ k) : spec_NextTarget.f k l a b = some (ntv l a b) := by
  obtain ⟨k, rfl⟩ : ∃ x, k = x + 1 := ⟨k - 1, by omega⟩
  unfold spec_NextTarget.f ntv spec_l9Node.f
  rw [spec_ViewFault_at l (k + 1) (by omega)]
  simp only [Option.bind_some, spec_in_at, decide_eq_true_eq, spec_NextTarget.j0]
  by_cases h : vfv l = 0
  rotate_left
  · rw [if_neg h, if_neg h]
  have hv := vfv_ok h
  rw [if_pos h, if_pos h, spec_l9Next_at l (by omega) (fun c hc => (okv_node hv.2.1 c hc).1) a b k (by omega)]
  by_cases h1 : 0 ≤ a ∧ a ≤ 3
  rotate_left
  · simp only [h1, if_false, false_and, if_true, and_self]
  by_cases h2 : -1 ≤ b ∧ b ≤ 3
  · simp only [h1, h2, if_true, and_true, and_self, decide_true, Bool.not_true, Bool.false_eq_true, if_false, Option.bind_some]
    split <;> rfl
  · simp only [h1, h2, if_true, and_false, and_self, decide_false, Bool.not_false, if_false]
theorem impl_NextTarget_at (l : List S40) (a b : Int) (k : Nat) (hk : 60 ≤ k) : impl_NextTarget.f k l a b = some (ntv l a b) := by
  obtain ⟨k, rfl⟩ : ∃ x, k = x + 1 := ⟨k - 1, by omega⟩
  unfold impl_NextTarget.f ntv impl_isNode.f
  rw [impl_ViewFault_at l (k + 1) (by omega)]
  simp only [Option.bind_some, impl_in_at, decide_eq_true_eq, impl_NextTarget.j0, impl_noInt.f]
  by_cases h : vfv l = 0
  rotate_left
  · rw [if_neg h, if_neg h]
  have hv := vfv_ok h
  rw [if_pos h, if_pos h, impl_NextTarget_l0 l (by omega) (fun c hc => (okv_node hv.2.1 c hc).1) a b k (by omega), lowv_eq l (fun c hc => (okv_node hv.2.1 c hc).1)]
  by_cases h1 : 0 ≤ a ∧ a ≤ 3
  rotate_left
  · simp only [h1, if_false, false_and, if_true, and_self]
  by_cases h2 : -1 ≤ b ∧ b ≤ 3
  · simp only [h1, h2, if_true, and_true, and_self, decide_true, Bool.not_true, Bool.false_eq_true, if_false]
  · simp only [h1, h2, if_true, and_false, and_self, decide_false, Bool.not_false, if_false]
end Go.Proofs.Ytcpjcfblojoigaa.Pure
