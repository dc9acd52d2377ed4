/- What the printed functions of the law FnKnown answer, as plain Lean. -/
import Derived.Test.YtpinapnhohjipaaStFnKnown
import Derived.Test.YtpinapnhohjipaaBase
namespace Go.Proofs.Ytpinapnhohjipaa.Pure
open Go.RowKit Go.Proofs.Ytpinapnhohjipaa.Open Go.Proofs.Ytpinapnhohjipaa.Base Go.Proofs.Ytpinapnhohjipaa.MFnKnown Go.Proofs.YtpinapnhohjipaaW.PrintWords Go.Proofs.YtpinapnhohjipaaW.PrintLast
set_option linter.unusedVariables false
set_option linter.unusedSimpArgs false

def eqvClaim (x y : S51) : Bool := ((x.f0 == y.f0) && ((x.f1 == y.f1) && ((x.f2 == y.f2) && (x.f3 == y.f3))))
def sameClaimS (a b : List S51) : Bool := decide (a.length = b.length) && (a.zip b).all fun x => eqvClaim x.1 x.2
theorem spec_SameViews_at (a b : List S51) (hl : a.length ≤ 1000000000) (k : Nat) (hk : a.length < k) : spec_SameViews.f k a b = some (sameClaimS a b) := by
  unfold spec_SameViews.f sameClaimS
  by_cases hn : a.length = b.length
  rotate_left
  · rw [if_neg (by omega)]
    simp [hn]
  rw [if_pos (by omega), decide_eq_true hn, Bool.true_and]
  refine loop_up (fun k (_ : Unit) i => spec_SameViews.l0 k a b i) a.length 0 (fun _ i => ((a.drop i).zip (b.drop i)).all fun x => eqvClaim x.1 x.2) (fun _ _ => True) ?_ ?_ k () 0 0 rfl (Nat.zero_le _) trivial (by omega)
  · intro k _ _ _
    simp only [spec_SameViews.l0]
    rw [if_neg (by omega)]
    simp
  · intro k _ i hi _ _ ih
    have hj : i < b.length := by omega
    simp only [spec_SameViews.l0]
    rw [if_pos (by omega), if_pos (by omega), if_pos (by omega), w64 (by omega) (by omega)]
    have hx : rd_T51 a (i : Int) = a[i] := by simp only [rd_T51, Int.toNat_natCast, getD_at _ _ _ hi]
    have hy : rd_T51 b (i : Int) = b[i] := by simp only [rd_T51, Int.toNat_natCast, getD_at _ _ _ hj]
    rw [hx, hy]
    have hr : ((a.drop i).zip (b.drop i)).all (fun x => eqvClaim x.1 x.2) = (eqvClaim a[i] b[i] && ((a.drop (i + 1)).zip (b.drop (i + 1))).all (fun x => eqvClaim x.1 x.2)) := by
      rw [drop_cons a i hi, drop_cons b i hj]
      rfl
    rw [hr]
    have hb : eqvClaim a[i] b[i] = ((a[i].f0 == b[i].f0) && ((a[i].f1 == b[i].f1) && ((a[i].f2 == b[i].f2) && (a[i].f3 == b[i].f3)))) := rfl
    by_cases h : eqvClaim a[i] b[i] = true
    · rw [h, Bool.true_and, if_neg (by rw [h] at hb; simp only [Bool.true_eq, Bool.and_eq_true] at hb; simp [hb]), ih () trivial]
    · have h' : eqvClaim a[i] b[i] = false := by simpa using h
      rw [h', Bool.false_and, if_pos (by rw [h'] at hb; have hb' := congrArg (fun z => !z) hb; simp only [Bool.not_and, Bool.not_false] at hb'; exact hb'.symm)]

theorem impl_Claim_at (a b : List S51) (hl : a.length ≤ 1000000000) (k : Nat) (hk : a.length < k) : impl_Claim.f k a b = some (sameClaimS a b) := by
  unfold impl_Claim.f sameClaimS
  by_cases hn : a.length = b.length
  rotate_left
  · rw [if_neg (by omega)]
    simp [hn]
  rw [if_pos (by omega), decide_eq_true hn, Bool.true_and]
  refine loop_up (fun k (_ : Unit) i => impl_Claim.l0 k a b (a.length : Int) i) a.length 0 (fun _ i => ((a.drop i).zip (b.drop i)).all fun x => eqvClaim x.1 x.2) (fun _ _ => True) ?_ ?_ k () 0 0 rfl (Nat.zero_le _) trivial (by omega)
  · intro k _ _ _
    simp only [impl_Claim.l0]
    rw [if_neg (by omega)]
    simp
  · intro k _ i hi _ _ ih
    have hj : i < b.length := by omega
    simp only [impl_Claim.l0]
    rw [if_pos (by omega), if_pos (by omega), if_pos (by omega), if_pos (by omega), w64 (by omega) (by omega)]
    have hx : rd_T51 a (i : Int) = a[i] := by simp only [rd_T51, Int.toNat_natCast, getD_at _ _ _ hi]
    have hy : rd_T51 b (i : Int) = b[i] := by simp only [rd_T51, Int.toNat_natCast, getD_at _ _ _ hj]
    rw [hx, hy]
    have hr : ((a.drop i).zip (b.drop i)).all (fun x => eqvClaim x.1 x.2) = (eqvClaim a[i] b[i] && ((a.drop (i + 1)).zip (b.drop (i + 1))).all (fun x => eqvClaim x.1 x.2)) := by
      rw [drop_cons a i hi, drop_cons b i hj]
      rfl
    rw [hr]
    have hb : eqvClaim a[i] b[i] = ((a[i].f0 == b[i].f0) && ((a[i].f1 == b[i].f1) && ((a[i].f2 == b[i].f2) && (a[i].f3 == b[i].f3)))) := rfl
    by_cases h : eqvClaim a[i] b[i] = true
    · rw [h, Bool.true_and, if_neg (by rw [h] at hb; simp only [Bool.true_eq, Bool.and_eq_true] at hb; simp [hb]), ih () trivial]
    · have h' : eqvClaim a[i] b[i] = false := by simpa using h
      rw [h', Bool.false_and, if_pos (by rw [h'] at hb; have hb' := congrArg (fun z => !z) hb; simp only [Bool.not_and, Bool.not_false] at hb'; exact hb'.symm)]

theorem impl_SameViews_at (a b : List S51) (hl : a.length ≤ 1000000000) (k : Nat) (hk : a.length < k) : impl_SameViews.f k a b = some (sameClaimS a b) := by
  unfold impl_SameViews.f
  rw [impl_Claim_at a b hl k hk]
  rfl
theorem impl_in_at (a b c : Int) : impl_in.f a b c = some (decide (b ≤ a ∧ a ≤ c)) := by
  unfold impl_in.f
  by_cases h : a ≥ b
  · rw [if_pos h]
    have h' : b ≤ a := h
    simp [h']
  · rw [if_neg h]
    have h' : ¬ b ≤ a := h
    simp [h']
theorem spec_in_at (a b c : Int) : spec_l1In.f a b c = some (decide (b ≤ a ∧ a ≤ c)) := by
  unfold spec_l1In.f
  by_cases h : a ≥ b
  · rw [if_pos h]
    have h' : b ≤ a := h
    simp [h']
  · rw [if_neg h]
    have h' : ¬ b ≤ a := h
    simp [h']
def cfv (a b c d : Int) : Int := if (0 ≤ a ∧ a ≤ 3) ∧ (0 ≤ b ∧ b ≤ 1000000) ∧ (0 ≤ c ∧ c ≤ 2) ∧ (0 ≤ d ∧ d ≤ 9999999) then 0 else 3
theorem cfv_or (a b c d : Int) : cfv a b c d = 0 ∨ cfv a b c d = 3 := by
  unfold cfv
  split
  · exact .inl rfl
  · exact .inr rfl
theorem cfv_ok {a b c d : Int} (h : cfv a b c d = 0) : (0 ≤ a ∧ a ≤ 3) ∧ (0 ≤ b ∧ b ≤ 1000000) ∧ (0 ≤ c ∧ c ≤ 2) ∧ (0 ≤ d ∧ d ≤ 9999999) := by
  unfold cfv at h
  split at h
  · assumption
  · omega
theorem impl_ClaimFault_at (a b c d : Int) : impl_ClaimFault.f a b c d = some (cfv a b c d) := by
  simp only [impl_ClaimFault.f, impl_isNode.f, impl_isStatus.f, impl_in_at, Option.bind_some, decide_eq_true_eq]
  unfold cfv
  repeat' split
  all_goals first | rfl | (exfalso; omega)
theorem spec_ClaimFault_at (a b c d : Int) : spec_ClaimFault.f a b c d = some (cfv a b c d) := by
  simp only [spec_ClaimFault.f, spec_in_at, Option.bind_some, decide_eq_true_eq]
  unfold cfv
  repeat' split
  all_goals first | rfl | (exfalso; omega)
def okv (c : S51) : Bool := decide (cfv c.f0 c.f1 c.f2 c.f3 = 0)
def ascv : List S51 → Bool
  | [] => true
  | [_] => true
  | x :: y :: t => decide (x.f0 < y.f0) && ascv (y :: t)
def vfv (l : List S51) : Int := if l.length > 4 then 2 else if l.all okv then (if ascv l then 0 else 1) else 3
theorem ascv_drop (l : List S51) (i : Nat) (h1 : 1 ≤ i) (h : i < l.length) : ascv (l.drop (i - 1)) = (decide ((l[i - 1]).f0 < l[i].f0) && ascv (l.drop i)) := by
  have e : i - 1 + 1 = i := by omega
  rw [drop_cons l (i - 1) (by omega)]
  simp only [e]
  rw [drop_cons l i h]
  rfl
theorem ascv_last (l : List S51) (h : 0 < l.length) : ascv (l.drop (l.length - 1)) = true := by
  have e : l.length - 1 + 1 = l.length := by omega
  rw [drop_cons l (l.length - 1) (by omega)]
  simp only [e]
  rw [List.drop_length]
  rfl
theorem spec_ViewFault_l1 (l : List S51) (hl : l.length ≤ 4) (k : Nat) (hk : 10 ≤ k) : spec_ViewFault.l1 k l 1 = some (if ascv l then 0 else 1) := by
  by_cases h0 : l.length = 0
  · obtain ⟨k, rfl⟩ : ∃ m, k = m + 1 := ⟨k - 1, by omega⟩
    rw [List.eq_nil_of_length_eq_zero h0]
    rfl
  refine loop_up (fun k (_ : Unit) i => spec_ViewFault.l1 k l i) l.length 0 (fun _ i => if ascv (l.drop (i - 1)) then 0 else 1) (fun _ i => 1 ≤ i) ?_ ?_ k () 1 1 rfl (by omega) (by omega) (by omega)
  · intro k _ _ _
    simp only [spec_ViewFault.l1]
    rw [if_neg (by omega), ascv_last l (by omega), if_pos rfl]
  · intro k _ i hi h1 _ ih
    have e1 : wrap64 ((i : Int) - 1) = ((i - 1 : Nat) : Int) := by rw [w64 (by omega) (by omega)]; omega
    have e2 : wrap64 ((i : Int) + 1) = (i : Int) + 1 := w64 (by omega) (by omega)
    have hx : rd_T51 l ((i - 1 : Nat) : Int) = l[i - 1] := by simp only [rd_T51, Int.toNat_natCast, getD_at _ _ _ (show i - 1 < l.length by omega)]
    have hy : rd_T51 l (i : Int) = l[i] := by simp only [rd_T51, Int.toNat_natCast, getD_at _ _ _ hi]
    simp only [spec_ViewFault.l1, e1, e2]
    rw [if_pos (by omega), if_pos (by omega), if_pos (by omega), if_pos (by omega), hx, hy, ascv_drop l i h1 hi]
    by_cases h : l[i].f0 ≤ l[i - 1].f0
    · rw [if_pos h, decide_eq_false (by omega), Bool.false_and]
      rfl
    · rw [if_neg h, decide_eq_true (by omega), Bool.true_and]
      exact ih () (by omega)
theorem impl_ViewFault_l1 (l : List S51) (hl : l.length ≤ 4) (k : Nat) (hk : 10 ≤ k) : impl_ViewFault.l1 k l 1 = some (if ascv l then 0 else 1) := by
  by_cases h0 : l.length = 0
  · obtain ⟨k, rfl⟩ : ∃ m, k = m + 1 := ⟨k - 1, by omega⟩
    rw [List.eq_nil_of_length_eq_zero h0]
    rfl
  refine loop_up (fun k (_ : Unit) i => impl_ViewFault.l1 k l i) l.length 0 (fun _ i => if ascv (l.drop (i - 1)) then 0 else 1) (fun _ i => 1 ≤ i) ?_ ?_ k () 1 1 rfl (by omega) (by omega) (by omega)
  · intro k _ _ _
    simp only [impl_ViewFault.l1]
    rw [if_neg (by omega), ascv_last l (by omega), if_pos rfl]
  · intro k _ i hi h1 _ ih
    have e1 : wrap64 ((i : Int) - 1) = ((i - 1 : Nat) : Int) := by rw [w64 (by omega) (by omega)]; omega
    have e2 : wrap64 ((i : Int) + 1) = (i : Int) + 1 := w64 (by omega) (by omega)
    have hx : rd_T51 l ((i - 1 : Nat) : Int) = l[i - 1] := by simp only [rd_T51, Int.toNat_natCast, getD_at _ _ _ (show i - 1 < l.length by omega)]
    have hy : rd_T51 l (i : Int) = l[i] := by simp only [rd_T51, Int.toNat_natCast, getD_at _ _ _ hi]
    simp only [impl_ViewFault.l1, e1, e2]
    rw [if_pos (by omega), if_pos (by omega), if_pos (by omega), if_pos (by omega), hx, hy, ascv_drop l i h1 hi]
    by_cases h : l[i - 1].f0 ≥ l[i].f0
    · rw [if_pos h, decide_eq_false (by omega), Bool.false_and]
      rfl
    · rw [if_neg h, decide_eq_true (by omega), Bool.true_and]
      exact ih () (by omega)
theorem okv_cases (c : S51) : (okv c = true ∧ cfv c.f0 c.f1 c.f2 c.f3 = 0) ∨ (okv c = false ∧ cfv c.f0 c.f1 c.f2 c.f3 = 3) := by
  rcases cfv_or c.f0 c.f1 c.f2 c.f3 with h | h
  · exact .inl ⟨by simp [okv, h], h⟩
  · exact .inr ⟨by simp [okv, h], h⟩
theorem spec_ViewFault_at (l : List S51) (k : Nat) (hk : 20 ≤ k) : spec_ViewFault.f k l = some (vfv l) := by
  unfold spec_ViewFault.f vfv
  by_cases hl : l.length > 4
  · rw [if_pos (by omega), if_pos hl]
  rw [if_neg (by omega), if_neg hl]
  refine loop_up (fun k (_ : Unit) i => spec_ViewFault.l0 k l i) l.length 10 (fun _ i => if (l.drop i).all okv then (if ascv l then 0 else 1) else 3) (fun _ i => True) ?_ ?_ k () 0 0 rfl (by omega) trivial (by omega)
  · intro k _ _ hm
    simp only [spec_ViewFault.l0]
    rw [if_neg (by omega), spec_ViewFault_l1 l (by omega) k (by omega), List.drop_length]
    rfl
  · intro k _ i hi _ _ ih
    have e2 : wrap64 ((i : Int) + 1) = (i : Int) + 1 := w64 (by omega) (by omega)
    have hy : rd_T51 l (i : Int) = l[i] := by simp only [rd_T51, Int.toNat_natCast, getD_at _ _ _ hi]
    simp only [spec_ViewFault.l0, e2, spec_ClaimFault_at, Option.bind_some]
    rw [if_pos (by omega), if_pos (by omega), hy, drop_cons l i hi, List.all_cons]
    rcases okv_cases l[i] with ⟨h, h'⟩ | ⟨h, h'⟩
    · rw [h, h', if_pos rfl, Bool.true_and]
      exact ih () trivial
    · rw [h, h', if_neg (by omega), Bool.false_and]
      rfl
theorem impl_ViewFault_at (l : List S51) (k : Nat) (hk : 20 ≤ k) : impl_ViewFault.f k l = some (vfv l) := by
  unfold impl_ViewFault.f vfv
  by_cases hl : l.length > 4
  · rw [if_pos (by omega), if_pos hl]
  rw [if_neg (by omega), if_neg hl]
  refine loop_up (fun k (_ : Unit) i => impl_ViewFault.l0 k l l (l.length : Int) i) l.length 10 (fun _ i => if (l.drop i).all okv then (if ascv l then 0 else 1) else 3) (fun _ i => True) ?_ ?_ k () 0 0 rfl (by omega) trivial (by omega)
  · intro k _ _ hm
    simp only [impl_ViewFault.l0]
    rw [if_neg (by omega), impl_ViewFault_l1 l (by omega) k (by omega), List.drop_length]
    rfl
  · intro k _ i hi _ _ ih
    have e2 : wrap64 ((i : Int) + 1) = (i : Int) + 1 := w64 (by omega) (by omega)
    have hy : rd_T51 l (i : Int) = l[i] := by simp only [rd_T51, Int.toNat_natCast, getD_at _ _ _ hi]
    simp only [impl_ViewFault.l0, e2, impl_ClaimFault_at, Option.bind_some]
    rw [if_pos (by omega), if_pos (by omega), if_pos (by omega), hy, drop_cons l i hi, List.all_cons]
    rcases okv_cases l[i] with ⟨h, h'⟩ | ⟨h, h'⟩
    · rw [h, h', if_pos rfl, Bool.true_and]
      exact ih () trivial
    · rw [h, h', if_neg (by omega), Bool.false_and]
      rfl
theorem vfv_ok {l : List S51} (h : vfv l = 0) : l.length ≤ 4 ∧ l.all okv = true ∧ ascv l = true := by
  unfold vfv at h
  split at h
  · omega
  · split at h
    · split at h
      · exact ⟨by omega, by assumption, by assumption⟩
      · omega
    · omega
theorem vfv_le {l : List S51} (h : ¬ vfv l = 0) : True := trivial
theorem tmod_in (a n : Int) (ha : 0 ≤ a) (hn : 0 < n) : 0 ≤ Int.tmod a n ∧ Int.tmod a n < n := ⟨Int.tmod_nonneg n ha, Int.tmod_lt_of_pos a hn⟩
def Bytes (code : List Int) : Prop := code.length ≤ 1048576 ∧ ∀ x ∈ code, 0 ≤ x ∧ x ≤ 255
theorem bytes_of {code : List Int} (hl : code.length ≤ 1048576) (h : ∀ x ∈ code, (Lit.int .u8 x).wf = true) : Bytes code := by
  refine ⟨hl, fun x hx => ?_⟩
  have h2 : (decide ((IntKind.u8).min ≤ x) && decide (x ≤ (IntKind.u8).max)) = true := h x hx
  rw [Bool.and_eq_true, decide_eq_true_eq, decide_eq_true_eq] at h2
  have e1 : (IntKind.u8).min = 0 := by decide
  have e2 : (IntKind.u8).max = 255 := by decide
  rw [e1, e2] at h2
  exact h2
theorem byte_in {code : List Int} (h : Bytes code) (i : Int) (h0 : 0 ≤ i) (h1 : i < code.length) : 0 ≤ rd code i ∧ rd code i ≤ 255 := by
  have e : rd code i = code[i.toNat]'(by omega) := by
    simp only [rd, List.getD_eq_getElem?_getD]
    rw [List.getElem?_eq_getElem (by omega)]
    rfl
  rw [e]
  exact h.2 _ (List.getElem_mem _)
theorem next_at {code : List Int} (h : Bytes code) (p n : Int) (hp : 0 ≤ p ∧ p ≤ 1000000) (hn : n ≤ 1000000000) : ∃ v, spec_l1Next.f code p n = some (v, p + 1) ∧ 0 ≤ v ∧ (1 ≤ n → v < n) ∧ (n < 1 → v = 0) := by
  have hl := h.1
  unfold spec_l1Next.f
  have e0 : wrap64 (p + 1) = p + 1 := w64 (by omega) (by omega)
  have e1 : wrap64 (p + 1 - 1) = p := by rw [w64 (by omega) (by omega)]; omega
  have e2 : wrap64 (p + 2) = p + 2 := w64 (by omega) (by omega)
  simp only [e0, e1, e2]
  by_cases hn1 : n < 1
  · rw [if_pos hn1]
    exact ⟨0, rfl, by omega, by omega, fun _ => rfl⟩
  rw [if_neg hn1]
  by_cases hz : (code.length : Int) = 0
  · rw [if_pos hz, if_neg (by omega), w64 (x := p * 7) (by omega) (by omega)]
    exact ⟨_, rfl, (tmod_in _ _ (by omega) (by omega)).1, fun _ => (tmod_in _ _ (by omega) (by omega)).2, by omega⟩
  rw [if_neg hz]
  have hL : 0 < (code.length : Int) := by omega
  have j0 := tmod_in p _ hp.1 hL
  have j1 := tmod_in (p + 1) _ (by omega) hL
  have j2 := tmod_in (p + 2) _ (by omega) hL
  have b0 := byte_in h _ j0.1 j0.2
  have b1 := byte_in h _ j1.1 j1.2
  have b2 := byte_in h _ j2.1 j2.2
  have q0 : 0 ≤ Int.tdiv p (code.length : Int) := Int.tdiv_nonneg hp.1 (by omega)
  have q1 : Int.tdiv p (code.length : Int) ≤ p := Int.tdiv_le_self _ hp.1
  generalize Int.tdiv p (code.length : Int) = q at *
  generalize rd code (Int.tmod p (code.length : Int)) = c0 at *
  generalize rd code (Int.tmod (p + 1) (code.length : Int)) = c1 at *
  generalize rd code (Int.tmod (p + 2) (code.length : Int)) = c2 at *
  rw [if_pos j0.1, if_pos j0.2]
  by_cases h2 : n > 200
  · rw [if_pos h2, if_pos j1.1, if_pos j1.2]
    by_cases h6 : n > 60000
    · rw [if_pos h6, if_pos j2.1, if_pos j2.2, if_neg (by omega)]
      simp (disch := omega) only [w64]
      exact ⟨_, rfl, (tmod_in _ _ (by omega) (by omega)).1, fun _ => (tmod_in _ _ (by omega) (by omega)).2, by omega⟩
    · rw [if_neg h6, if_neg (by omega)]
      simp (disch := omega) only [w64]
      exact ⟨_, rfl, (tmod_in _ _ (by omega) (by omega)).1, fun _ => (tmod_in _ _ (by omega) (by omega)).2, by omega⟩
  · rw [if_neg h2, if_neg (by omega), if_neg (by omega)]
    simp (disch := omega) only [w64]
    exact ⟨_, rfl, (tmod_in _ _ (by omega) (by omega)).1, fun _ => (tmod_in _ _ (by omega) (by omega)).2, by omega⟩
theorem lwBig_at (l : List Int) : laws_lwBig.f l = some (decide ((l.length : Int) > 1048576)) := rfl
theorem pick_at {code : List Int} (h : Bytes code) (p : Int) (hp : 0 ≤ p ∧ p ≤ 1000000) (l : List Int) (hl : 0 < l.length) (hm : l.length ≤ 1000000) : ∃ v, spec_l1Pick.f code p l = some (v, p + 1) ∧ v ∈ l := by
  obtain ⟨i, e, h0, h1, _⟩ := next_at h p (l.length : Int) hp (by omega)
  have h2 := h1 (by omega)
  unfold spec_l1Pick.f
  rw [e]
  simp only [Option.bind_some]
  rw [if_pos h0, if_pos h2]
  refine ⟨_, rfl, ?_⟩
  have e : rd l i = l[i.toNat]'(by omega) := by
    simp only [rd, List.getD_eq_getElem?_getD]
    rw [List.getElem?_eq_getElem (by omega)]
    rfl
  rw [e]
  exact List.getElem_mem _
theorem chance_at {code : List Int} (h : Bytes code) (p n : Int) (hp : 0 ≤ p ∧ p ≤ 1000000) (hn : n ≤ 1000000000) : ∃ b, spec_l1Chance.f code p n = some (b, p + 1) := by
  obtain ⟨v, e, _⟩ := next_at h p n hp hn
  unfold spec_l1Chance.f
  rw [e]
  exact ⟨_, rfl⟩
theorem claim_at {code : List Int} (h : Bytes code) (p : Int) (hp : 0 ≤ p ∧ p ≤ 999990) : ∃ a b c d, spec_l7Claim.f code p = some (a, b, c, d, p + 4) ∧ (0 ≤ a ∧ a ≤ 3) ∧ (0 ≤ b ∧ b ≤ 1000000) ∧ (0 ≤ c ∧ c ≤ 2) ∧ (0 ≤ d ∧ d ≤ 9999999) := by
  obtain ⟨a, e1, a0, a1, _⟩ := next_at h p 4 (by omega) (by omega)
  obtain ⟨b, e2, b1⟩ := pick_at h (p + 1) (by omega) [0, 1, 2, 3, 1000000] (by decide) (by decide)
  obtain ⟨c, e3, c0, c1, _⟩ := next_at h (p + 1 + 1) 3 (by omega) (by omega)
  obtain ⟨d, e4, d1⟩ := pick_at h (p + 1 + 1 + 1) (by omega) [0, 80, 65616, 9999999] (by decide) (by decide)
  unfold spec_l7Claim.f
  rw [e1]
  simp only [Option.bind_some]
  rw [e2]
  simp only [Option.bind_some]
  rw [e3]
  simp only [Option.bind_some]
  rw [e4]
  simp only [Option.bind_some]
  have a2 := a1 (by omega)
  have c2 := c1 (by omega)
  simp only [List.mem_cons, List.not_mem_nil, or_false] at b1 d1
  have e5 : p + 1 + 1 + 1 + 1 = p + 4 := by omega
  rw [e5]
  exact ⟨a, b, c, d, rfl, by omega, by omega, by omega, by omega⟩
theorem impl_claimOf_at (l : List S51) (hl : l.length ≤ 10) (a : Int) (k : Nat) (hk : 20 ≤ k) : impl_claimOf.f k l a = some (match l.find? (fun c => decide (c.f0 = a)) with | some c => (c.f0, c.f1, c.f2, c.f3, true) | none => (0, 0, 0, 0, false)) := by
  unfold impl_claimOf.f
  refine loop_up (fun k (_ : Unit) i => impl_claimOf.l0 k a l (l.length : Int) i) l.length 0 (fun _ i => match (l.drop i).find? (fun c => decide (c.f0 = a)) with | some c => (c.f0, c.f1, c.f2, c.f3, true) | none => (0, 0, 0, 0, false)) (fun _ i => True) ?_ ?_ k () 0 0 rfl (by omega) trivial (by omega)
  · intro k _ _ _
    simp only [impl_claimOf.l0]
    rw [if_neg (by omega), List.drop_length]
    rfl
  · intro k _ i hi _ _ ih
    have e2 : wrap64 ((i : Int) + 1) = (i : Int) + 1 := w64 (by omega) (by omega)
    have hy : rd_T51 l (i : Int) = l[i] := by simp only [rd_T51, Int.toNat_natCast, getD_at _ _ _ hi]
    simp only [impl_claimOf.l0, e2]
    rw [if_pos (by omega), if_pos (by omega), if_pos (by omega), hy, drop_cons l i hi]
    by_cases h : l[i].f0 = a
    · rw [if_pos h, List.find?_cons_of_pos (by simpa using h)]
    · rw [if_neg h, List.find?_cons_of_neg (by simpa using h)]
      exact ih () trivial
def posv (a : Int) : List S51 → Nat → Int
  | [], _ => -1
  | c :: t, i => if c.f0 = a then (i : Int) else posv a t (i + 1)
theorem posv_find (a : Int) (l : List S51) (i : Nat) : (∃ (j : Nat) (h : j < l.length), posv a l i = ((i + j : Nat) : Int) ∧ l.find? (fun c => decide (c.f0 = a)) = some l[j]) ∨ (posv a l i = -1 ∧ l.find? (fun c => decide (c.f0 = a)) = none) := by
  induction l generalizing i with
  | nil => exact .inr ⟨rfl, rfl⟩
  | cons c t ih =>
    by_cases h : c.f0 = a
    · exact .inl ⟨0, by simp, by simp [posv, h], by rw [List.find?_cons_of_pos (by simpa using h)]; rfl⟩
    · rw [List.find?_cons_of_neg (by simpa using h)]
      have e : posv a (c :: t) i = posv a t (i + 1) := by simp [posv, h]
      rw [e]
      rcases ih (i + 1) with ⟨j, hj, e1, e2⟩ | ⟨e1, e2⟩
      · exact .inl ⟨j + 1, by simp; omega, by rw [e1]; omega, e2⟩
      · exact .inr ⟨e1, e2⟩
theorem spec_l8Find_at (l : List S51) (hl : l.length ≤ 10) (a : Int) (k : Nat) (hk : 20 ≤ k) : (∃ (i : Nat) (h : i < l.length), spec_l8Find.f k l a = some (i : Int) ∧ l.find? (fun c => decide (c.f0 = a)) = some l[i]) ∨ (spec_l8Find.f k l a = some (-1) ∧ l.find? (fun c => decide (c.f0 = a)) = none) := by
  have e : spec_l8Find.f k l a = some (posv a l 0) := by
    unfold spec_l8Find.f
    refine loop_up (fun k (_ : Unit) i => spec_l8Find.l0 k l a i) l.length 0 (fun _ i => posv a (l.drop i) i) (fun _ i => True) ?_ ?_ k () 0 0 rfl (by omega) trivial (by omega)
    · intro k _ _ _
      simp only [spec_l8Find.l0]
      rw [if_neg (by omega), List.drop_length]
      rfl
    · intro k _ i hi _ _ ih
      have e2 : wrap64 ((i : Int) + 1) = (i : Int) + 1 := w64 (by omega) (by omega)
      have hy : rd_T51 l (i : Int) = l[i] := by simp only [rd_T51, Int.toNat_natCast, getD_at _ _ _ hi]
      simp only [spec_l8Find.l0, e2]
      rw [if_pos (by omega), if_pos (by omega), hy, drop_cons l i hi]
      by_cases h : l[i].f0 = a
      · simp [posv, h]
      · rw [if_neg h, ih () trivial]
        simp [posv, h]
  rcases posv_find a l 0 with ⟨j, hj, e1, e2⟩ | ⟨e1, e2⟩
  · exact .inl ⟨j, hj, by rw [e, e1]; simp, e2⟩
  · exact .inr ⟨by rw [e, e1], e2⟩
def fcv (l : List S51) (a : Int) : Int × List S51 × Bool := if vfv l = 0 then (match l.find? (fun c => decide (c.f0 = a)) with | some c => (0, [c], false) | none => (4, [], false)) else (vfv l, [], false)
theorem fcv_len (l : List S51) (a : Int) : (fcv l a).2.1.length ≤ 1 := by
  unfold fcv
  split
  · split <;> simp
  · simp
theorem impl_FindClaim_at (l : List S51) (a : Int) (k : Nat) (hk : 20 ≤ k) : impl_FindClaim.f k l a = some (fcv l a) := by
  unfold impl_FindClaim.f fcv
  rw [impl_ViewFault_at l k hk]
  simp only [Option.bind_some]
  by_cases h : vfv l = 0
  · rw [if_pos h, if_pos h, impl_claimOf_at l (by have := (vfv_ok h).1; omega) a k hk]
    simp only [Option.bind_some]
    cases l.find? (fun c => decide (c.f0 = a)) <;> simp
  · rw [if_neg h, if_neg h]
theorem spec_FindClaim_at (l : List S51) (a : Int) (k : Nat) (hk : 20 ≤ k) : spec_FindClaim.f k l a = some (fcv l a) := by
  unfold spec_FindClaim.f fcv
  rw [spec_ViewFault_at l k hk]
  simp only [Option.bind_some]
  by_cases h : vfv l = 0
  · rw [if_pos h, if_pos h]
    rcases spec_l8Find_at l (by have := (vfv_ok h).1; omega) a k hk with ⟨i, hi, e1, e2⟩ | ⟨e1, e2⟩
    · have hy : rd_T51 l (i : Int) = l[i] := by simp only [rd_T51, Int.toNat_natCast, getD_at _ _ _ hi]
      rw [e1, e2]
      simp only [Option.bind_some]
      rw [if_neg (by omega), if_pos (by omega), if_pos (by omega), hy]
    · rw [e1, e2]
      simp
  · rw [if_neg h, if_neg h]
def nodv (l : List S51) (st : Int) : List Int := (l.filter (fun c => decide (c.f2 = st))).map (·.f0)
theorem nodv_cons (c : S51) (l : List S51) (st : Int) : nodv (c :: l) st = if c.f2 = st then c.f0 :: nodv l st else nodv l st := by
  unfold nodv
  by_cases h : c.f2 = st
  · rw [if_pos h, List.filter_cons_of_pos (by simp [h])]
    rfl
  · rw [if_neg h, List.filter_cons_of_neg (by simp [h])]
theorem spec_l8With_at (l : List S51) (hl : l.length ≤ 10) (st : Int) (k : Nat) (hk : 20 ≤ k) : spec_l8With.f k l st = some (nodv l st) := by
  unfold spec_l8With.f
  refine loop_up (fun k s i => spec_l8With.l0 k l st s i) l.length 0 (fun s i => s ++ nodv (l.drop i) st) (fun s i => s.length ≤ i) ?_ ?_ k [] 0 0 rfl (by omega) (by simp) (by omega)
  · intro k s _ _
    simp only [spec_l8With.l0]
    rw [if_neg (by omega), List.drop_length]
    simp [nodv]
  · intro k s i hi hs _ ih
    have e2 : wrap64 ((i : Int) + 1) = (i : Int) + 1 := w64 (by omega) (by omega)
    have hy : rd_T51 l (i : Int) = l[i] := by simp only [rd_T51, Int.toNat_natCast, getD_at _ _ _ hi]
    simp only [spec_l8With.l0, e2]
    rw [if_pos (by omega), if_pos (by omega), hy, drop_cons l i hi]
    by_cases h : l[i].f2 = st
    · rw [if_pos h, if_pos (by omega), ih _ (by simp; omega), nodv_cons, if_pos h]
      simp
    · rw [if_neg h, ih _ (by omega), nodv_cons, if_neg h]
theorem impl_NodesIn_l0 (l : List S51) (hl : l.length ≤ 10) (st c : Int) (k : Nat) (hk : 20 ≤ k) : impl_NodesIn.l0 k st l (l.length : Int) 0 c [] = some (c, nodv l st) := by
  refine loop_up (fun k s i => impl_NodesIn.l0 k st l (l.length : Int) i c s) l.length 0 (fun s i => (c, s ++ nodv (l.drop i) st)) (fun s i => s.length ≤ i) ?_ ?_ k [] 0 0 rfl (by omega) (by simp) (by omega)
  · intro k s _ _
    simp only [impl_NodesIn.l0]
    rw [if_neg (by omega), List.drop_length]
    simp [nodv]
  · intro k s i hi hs _ ih
    have e2 : wrap64 ((i : Int) + 1) = (i : Int) + 1 := w64 (by omega) (by omega)
    have hy : rd_T51 l (i : Int) = l[i] := by simp only [rd_T51, Int.toNat_natCast, getD_at _ _ _ hi]
    simp only [impl_NodesIn.l0, e2]
    rw [if_pos (by omega), if_pos (by omega), if_pos (by omega), hy, drop_cons l i hi]
    by_cases h : l[i].f2 = st
    · rw [if_pos h, if_pos (by omega), ih _ (by simp; omega), nodv_cons, if_pos h]
      simp
    · rw [if_neg h, ih _ (by omega), nodv_cons, if_neg h]
def niv (l : List S51) (st : Int) : Int × List Int := if vfv l = 0 then (if 0 ≤ st ∧ st ≤ 2 then (0, nodv l st) else (3, [])) else (vfv l, [])
theorem niv_len (l : List S51) (st : Int) : (niv l st).2.length ≤ 4 := by
  unfold niv
  split
  · rename_i h
    have h4 := (vfv_ok h).1
    split
    · have := List.length_filter_le (fun c : S51 => decide (c.f2 = st)) l
      simp only [nodv, List.length_map]
      omega
    · simp
  · simp
theorem spec_NodesIn_at (l : List S51) (st : Int) (k : Nat) (hk : 20 ≤ k) : spec_NodesIn.f k l st = some (niv l st) := by
  unfold spec_NodesIn.f niv
  rw [spec_ViewFault_at l k hk]
  simp only [Option.bind_some, spec_in_at]
  by_cases h : vfv l = 0
  · rw [if_pos h, if_pos h, spec_l8With_at l (by have := (vfv_ok h).1; omega) st k hk]
    by_cases h2 : 0 ≤ st ∧ st ≤ 2
    · rw [if_pos h2, if_pos (by simpa using h2)]
      rfl
    · rw [if_neg h2, if_neg (by simpa using h2)]
  · rw [if_neg h, if_neg h]
theorem impl_NodesIn_at (l : List S51) (st : Int) (k : Nat) (hk : 20 ≤ k) : impl_NodesIn.f k l st = some (niv l st) := by
  unfold impl_NodesIn.f niv impl_isStatus.f
  rw [impl_ViewFault_at l k hk]
  simp only [Option.bind_some, impl_in_at]
  by_cases h : vfv l = 0
  · rw [if_pos h, if_pos h, impl_NodesIn_l0 l (by have := (vfv_ok h).1; omega) st 0 k hk]
    by_cases h2 : 0 ≤ st ∧ st ≤ 2
    · rw [if_pos h2, if_pos (by simpa using h2)]
    · rw [if_neg h2, if_neg (by simpa using h2)]
  · rw [if_neg h, if_neg h]
theorem lwNums_at (a b : List Int) (hl : a.length ≤ 1000000000) (k : Nat) (hk : a.length < k) : laws_lwNums.f k a b = some (decide (a = b)) := by
  unfold laws_lwNums.f
  by_cases hn : a.length = b.length
  rotate_left
  · rw [if_neg (by omega), decide_eq_false (fun h => hn (by rw [h]))]
  rw [if_pos (by omega)]
  refine loop_up (fun k (_ : Unit) i => laws_lwNums.l0 k a b i) a.length 0 (fun _ i => decide (a.drop i = b.drop i)) (fun _ _ => True) ?_ ?_ k () 0 0 rfl (Nat.zero_le _) trivial (by omega)
  · intro k _ _ _
    simp only [laws_lwNums.l0]
    rw [if_neg (by omega), List.drop_length, hn, List.drop_length]
    rfl
  · intro k _ i hi _ _ ih
    have hj : i < b.length := by omega
    simp only [laws_lwNums.l0]
    rw [if_pos (by omega), if_pos (by omega), if_pos (by omega), w64 (by omega) (by omega)]
    have hx : rd a (i : Int) = a[i] := by simp only [rd, Int.toNat_natCast, getD_at _ _ _ hi]
    have hy : rd b (i : Int) = b[i] := by simp only [rd, Int.toNat_natCast, getD_at _ _ _ hj]
    rw [hx, hy, drop_cons a i hi, drop_cons b i hj]
    by_cases h : a[i] = b[i]
    · rw [if_pos h, ih () trivial, h]
      exact congrArg some (by simp only [List.cons.injEq, true_and])
    · rw [if_neg h]
      exact congrArg some (decide_eq_false (fun e => h (List.cons.inj e).1)).symm
theorem l8Draw_l0 {code : List Int} (h : Bytes code) (d : Nat) : ∀ (k : Nat) (l : List S51) (i p : Int), i = 4 - (d : Int) → 0 ≤ i → d < k → (l.length : Int) ≤ i → 0 ≤ p → p + 10 * d ≤ 900000 →
    ∃ l' p', spec_l8Draw.l0 k l i code p = some (l', p') ∧ l'.length ≤ 4 ∧ p ≤ p' ∧ p' ≤ p + 5 * d := by
  induction d with
  | zero =>
    intro k l i p hi h0 hk hl hp hp2
    obtain ⟨k, rfl⟩ : ∃ m, k = m + 1 := ⟨k - 1, by omega⟩
    simp only [spec_l8Draw.l0]
    rw [if_neg (by omega)]
    exact ⟨l, p, rfl, by omega, by omega, by omega⟩
  | succ d ih =>
    intro k l i p hi h0 hk hl hp hp2
    obtain ⟨k, rfl⟩ : ∃ m, k = m + 1 := ⟨k - 1, by omega⟩
    have e2 : wrap64 (i + 1) = i + 1 := w64 (by omega) (by omega)
    obtain ⟨b, e1⟩ := chance_at h p 4 (by omega) (by omega)
    obtain ⟨a, b', c, x, e3, _⟩ := claim_at h (p + 1) (by omega)
    simp only [spec_l8Draw.l0, e2]
    rw [if_pos (by omega), e1]
    simp only [Option.bind_some]
    cases b with
    | true =>
      rw [if_pos rfl]
      obtain ⟨l', p', f1, f2, f3, f4⟩ := ih k l (i + 1) (p + 1) (by omega) (by omega) (by omega) (by omega) (by omega) (by omega)
      exact ⟨l', p', f1, f2, by omega, by omega⟩
    | false =>
      rw [if_neg (by decide), e3]
      simp only [Option.bind_some]
      rw [if_pos (by omega)]
      obtain ⟨l', p', f1, f2, f3, f4⟩ := ih k (l ++ [⟨i, b', c, x⟩]) (i + 1) (p + 1 + 4) (by omega) (by omega) (by omega) (by simp; omega) (by omega) (by omega)
      exact ⟨l', p', f1, f2, by omega, by omega⟩
theorem l8Draw_at {code : List Int} (h : Bytes code) (k : Nat) (p : Int) (hk : 10 ≤ k) (hp : 0 ≤ p) (hp2 : p ≤ 800000) : ∃ l p', spec_l8Draw.f k code p = some (l, p') ∧ l.length ≤ 4 ∧ p ≤ p' ∧ p' ≤ p + 20 := by
  obtain ⟨l, p', f1, f2, f3, f4⟩ := l8Draw_l0 h 4 k [] 0 p (by omega) (by omega) (by omega) (by simp) hp (by omega)
  exact ⟨l, p', f1, f2, f3, by omega⟩
theorem l8Bent_at {code : List Int} (h : Bytes code) (k : Nat) (p : Int) (hk : 10 ≤ k) (hp : 0 ≤ p) (hp2 : p ≤ 700000) : ∃ l p', spec_l8Bent.f k code p = some (l, p') ∧ l.length ≤ 8 ∧ p ≤ p' ∧ p' ≤ p + 30 := by
  obtain ⟨l, q, e1, hl, hq, hq2⟩ := l8Draw_at h k p hk hp (by omega)
  obtain ⟨v, e2, _⟩ := next_at h q 14 (by omega) (by omega)
  obtain ⟨a, b, c, d, e3, _⟩ := claim_at h (q + 1) (by omega)
  obtain ⟨x, e4, _⟩ := pick_at h (q + 1) (by omega) [3, 4] (by decide) (by decide)
  obtain ⟨y, e5, _⟩ := pick_at h (q + 1) (by omega) [3, -1, 2] (by decide) (by decide)
  unfold spec_l8Bent.f
  simp only [e1, e2, e3, e4, e5, Option.bind_some]
  rw [if_pos (show l.length < 4398046511104 by omega), if_pos (show l.length < 4398046511104 by omega), if_pos (show l.length + l.length < 4398046511104 by omega)]
  repeat' split
  all_goals first | exact ⟨_, _, rfl, by omega, by omega, by omega⟩ | exact ⟨_, _, rfl, by simp; omega, by omega, by omega⟩ | (exfalso; omega)
theorem drawNodesIn_at {code : List Int} (h : Bytes code) (k : Nat) (hk : 10 ≤ k) : ∃ l a, spec_DrawNodesIn.f k code = some (l, a) ∧ l.length ≤ 8 := by
  obtain ⟨l, q, e1, hl, hq, hq2⟩ := l8Bent_at h k 0 hk (by omega) (by omega)
  obtain ⟨x, e4, _⟩ := pick_at h q (by omega) [0, 1, 2, 3, -1] (by decide) (by decide)
  unfold spec_DrawNodesIn.f spec_l1Source.f
  simp only [e1, e4, Option.bind_some]
  exact ⟨_, _, rfl, hl⟩
theorem drawFindClaim_at {code : List Int} (h : Bytes code) (k : Nat) (hk : 10 ≤ k) : ∃ l a, spec_DrawFindClaim.f k code = some (l, a) ∧ l.length ≤ 8 := by
  obtain ⟨l, q, e1, hl, hq, hq2⟩ := l8Bent_at h k 0 hk (by omega) (by omega)
  obtain ⟨x, e4, _⟩ := pick_at h q (by omega) [0, 1, 2, 3, 4, -1] (by decide) (by decide)
  unfold spec_DrawFindClaim.f spec_l1Source.f
  simp only [e1, e4, Option.bind_some]
  exact ⟨_, _, rfl, hl⟩
theorem spec_l8Copy_at (l : List S51) (hl : l.length ≤ 1000000) : spec_l8Copy.f l = some l := by
  unfold spec_l8Copy.f
  simp only [Option.bind_some, List.length_nil, List.nil_append]
  rw [if_pos (by omega)]
theorem drawSameViews_at {code : List Int} (h : Bytes code) (k : Nat) (hk : 10 ≤ k) : ∃ a b, spec_DrawSameViews.f k code = some (a, b) ∧ a.length ≤ 8 ∧ b.length ≤ 8 := by
  obtain ⟨l, q, e1, hl, hq, hq2⟩ := l8Draw_at h k 0 hk (by omega) (by omega)
  obtain ⟨b, e2⟩ := chance_at h q 2 (by omega) (by omega)
  obtain ⟨m, q', e3, hm, _⟩ := l8Bent_at h k 0 hk (by omega) (by omega)
  unfold spec_DrawSameViews.f spec_l1Source.f
  simp only [e1, e2, e3, Option.bind_some, spec_l8Copy_at l (by omega)]
  cases b with
  | true => exact ⟨l, l, by rw [if_pos rfl], by omega, by omega⟩
  | false => exact ⟨l, m, by rw [if_neg (by decide)], by omega, by omega⟩
theorem okv_status {l : List S51} (h : l.all okv = true) : ∀ c ∈ l, 0 ≤ c.f2 ∧ c.f2 ≤ 2 := by
  intro c hc
  have h1 := List.all_eq_true.mp h c hc
  unfold okv at h1
  have h2 := cfv_ok (of_decide_eq_true h1)
  exact h2.2.2.1
theorem nodv_sum (l : List S51) (h : ∀ c ∈ l, 0 ≤ c.f2 ∧ c.f2 ≤ 2) : (nodv l 0).length + (nodv l 1).length + (nodv l 2).length = l.length := by
  induction l with
  | nil => rfl
  | cons c t ih =>
    have h1 := h c List.mem_cons_self
    have h2 := ih (fun x hx => h x (List.mem_cons_of_mem _ hx))
    rw [nodv_cons, nodv_cons, nodv_cons]
    rcases (show c.f2 = 0 ∨ c.f2 = 1 ∨ c.f2 = 2 by omega) with e | e | e
    · rw [if_pos e, if_neg (by omega), if_neg (by omega)]
      simp only [List.length_cons]
      omega
    · rw [if_neg (by omega), if_pos e, if_neg (by omega)]
      simp only [List.length_cons]
      omega
    · rw [if_neg (by omega), if_neg (by omega), if_pos e]
      simp only [List.length_cons]
      omega
theorem fcv_one (l : List S51) (a : Int) (h : (fcv l a).1 = 0) : ∃ c, (fcv l a).2.1 = [c] ∧ c.f0 = a := by
  unfold fcv at h ⊢
  by_cases hv : vfv l = 0
  · rw [if_pos hv] at h ⊢
    cases hf : l.find? (fun c => decide (c.f0 = a)) with
    | some c =>
      have := List.find?_some hf
      exact ⟨c, rfl, by simpa using this⟩
    | none =>
      rw [hf] at h
      simp at h
  · rw [if_neg hv] at h
    exact absurd h hv
end Go.Proofs.Ytpinapnhohjipaa.Pure
