/- What the printed functions of the law FnExactWindowFault answer, as plain Lean. -/
import Derived.Test.YtldhhghppgkeaaaStFnExactWindowFault
import Derived.Test.YtldhhghppgkeaaaBase
namespace Go.Proofs.Ytldhhghppgkeaaa.Pure
open Go.RowKit Go.Proofs.Ytldhhghppgkeaaa.Open Go.Proofs.Ytldhhghppgkeaaa.Base Go.Proofs.Ytldhhghppgkeaaa.MFnExactWindowFault Go.Proofs.YtldhhghppgkeaaaW.PrintWords Go.Proofs.YtldhhghppgkeaaaW.PrintLast
set_option linter.unusedVariables false
set_option linter.unusedSimpArgs false
theorem impl_in_at (a b c : Int) : impl_in.f a b c = some (decide (b ≤ a ∧ a ≤ c)) := by
  unfold impl_in.f
  by_cases h : a ≥ b
  · rw [if_pos h]
    have h' : b ≤ a := h
    simp [h']
  · rw [if_neg h]
    have h' : ¬ b ≤ a := h
    simp [h']
theorem spec_in_at (a b c : Int) : spec_l1In.f a b c = some (decide (b ≤ a ∧ a ≤ c)) := by
  unfold spec_l1In.f
  by_cases h : a ≥ b
  · rw [if_pos h]
    have h' : b ≤ a := h
    simp [h']
  · rw [if_neg h]
    have h' : ¬ b ≤ a := h
    simp [h']
theorem eqInt64S_self (l : List Int) (hl : l.length ≤ 1000000000) (k : Nat) (hk : l.length < k) : laws_eqInt64S.f k l l = some true := by
  unfold laws_eqInt64S.f
  rw [if_pos rfl]
  refine loop_up (fun k (_ : Unit) i => laws_eqInt64S.l0 k l l i) l.length 0 (fun _ _ => true) (fun _ _ => True) ?_ ?_ k () 0 0 rfl (Nat.zero_le _) trivial (by omega)
  · intro k _ _ _
    simp only [laws_eqInt64S.l0]
    rw [if_neg (by omega)]
  · intro k _ i hi _ _ ih
    simp only [laws_eqInt64S.l0]
    rw [if_pos (by omega), if_pos (by omega), if_pos (by omega), w64 (by omega) (by omega)]
    simp only [eq_self, ↓reduceIte]
    exact ih () trivial
theorem szInt64S_at (l : List Int) (a : Int) (h0 : 0 ≤ a) (h1 : a ≤ 1048576) (hl : l.length ≤ maxLen) : laws_szInt64S.f l a = some (if a < l.length then -1 else a - l.length) := by
  unfold maxLen at hl
  unfold laws_szInt64S.f
  rw [w64 (by omega) (by omega)]
  by_cases h : a < l.length
  · rw [if_pos (by omega), if_pos h]
  · rw [if_neg (by omega), if_neg h]
theorem toInt64S_at (l : List Int) (hl : l.length ≤ 1000000000) (k : Nat) (hk : l.length < k) : laws_toInt64S.f k l = some l := by
  unfold laws_toInt64S.f
  rw [if_pos (by omega), if_pos (by omega)]
  have h := to_loop (fun k s i => laws_toInt64S.l0 k l s i) l id ?_ ?_ k (List.replicate ((l.length : Int) : Int).toNat 0) (by simp) hk
  · rw [List.map_id] at h
    exact h
  · intro k s hs
    simp only [laws_toInt64S.l0]
    rw [if_neg (by omega)]
  · intro k s i hi hs
    simp only [laws_toInt64S.l0]
    rw [if_pos (by omega), if_pos (by omega), if_pos (by omega), w64 (by omega) (by omega)]
    simp only [Int.toNat_natCast, rd, getD_at _ _ _ hi, id]
def inW (top n : Int) : Bool := decide (0 ≤ n ∧ n ≤ top ∧ ¬ n ≤ top - 16)
def asci : List Int → Bool
  | [] => true
  | [_] => true
  | x :: y :: t => decide (x < y) && asci (y :: t)
def lastv (top : Int) (l : List Int) : Int := if top = -1 then 0 else if l.length = 0 then 8 else if rd l ((l.length : Int) - 1) = top then 0 else 8
def wfv (top : Int) (l : List Int) : Int := if -1 ≤ top ∧ top ≤ 1000000000 then (if l.all (inW top) then (if asci l then lastv top l else 1) else 3) else 3
theorem asci_drop (l : List Int) (i : Nat) (h1 : 1 ≤ i) (h : i < l.length) : asci (l.drop (i - 1)) = (decide (l[i - 1] < l[i]) && asci (l.drop i)) := by
  have e : i - 1 + 1 = i := by omega
  rw [drop_cons l (i - 1) (by omega)]
  simp only [e]
  rw [drop_cons l i h]
  rfl
theorem asci_last (l : List Int) (h : 0 < l.length) : asci (l.drop (l.length - 1)) = true := by
  have e : l.length - 1 + 1 = l.length := by omega
  rw [drop_cons l (l.length - 1) (by omega)]
  simp only [e]
  rw [List.drop_length]
  rfl
theorem spec_WindowFault_l1 (top : Int) (l : List Int) (hl : l.length ≤ 1000000000) (ht : -1 ≤ top) (k : Nat) (hk : l.length + 5 ≤ k) : spec_WindowFault.l1 k 1 top l = some (if asci l then lastv top l else 1) := by
  have eL : wrap64 ((l.length : Int) - 1) = (l.length : Int) - 1 := w64 (by omega) (by omega)
  by_cases h0 : l.length = 0
  · obtain ⟨k, rfl⟩ : ∃ m, k = m + 1 := ⟨k - 1, by omega⟩
    have hn := List.eq_nil_of_length_eq_zero h0
    subst hn
    simp only [spec_WindowFault.l1, lastv, asci, List.length_nil]
    by_cases h : top = -1
    · simp [h]
    · have h2 : top ≥ 0 := by omega
      simp [h, h2]
  refine loop_up (fun k (_ : Unit) i => spec_WindowFault.l1 k i top l) l.length 0 (fun _ i => if asci (l.drop (i - 1)) then lastv top l else 1) (fun _ i => 1 ≤ i) ?_ ?_ k () 1 1 rfl (by omega) (by omega) (by omega)
  · intro k _ _ _
    simp only [spec_WindowFault.l1, eL]
    rw [if_neg (by omega), asci_last l (by omega), if_pos rfl]
    unfold lastv
    by_cases h : top = -1
    · rw [if_neg (by omega), if_pos h]
    · rw [if_pos (by omega), if_neg h, if_neg (by omega), if_neg h0, if_pos (by omega), if_pos (by omega)]
      by_cases h2 : rd l ((l.length : Int) - 1) = top
      · rw [if_pos h2, if_pos h2]
      · rw [if_neg h2, if_neg h2]
  · intro k _ i hi h1 _ ih
    have e1 : wrap64 ((i : Int) - 1) = ((i - 1 : Nat) : Int) := by rw [w64 (by omega) (by omega)]; omega
    have e2 : wrap64 ((i : Int) + 1) = (i : Int) + 1 := w64 (by omega) (by omega)
    have hx : rd l ((i - 1 : Nat) : Int) = l[i - 1] := by simp only [rd, Int.toNat_natCast, getD_at _ _ _ (show i - 1 < l.length by omega)]
    have hy : rd l (i : Int) = l[i] := by simp only [rd, Int.toNat_natCast, getD_at _ _ _ hi]
    simp only [spec_WindowFault.l1, e1, e2]
    rw [if_pos (by omega), if_pos (by omega), if_pos (by omega), if_pos (by omega), hx, hy, asci_drop l i h1 hi]
    by_cases h : l[i] ≤ l[i - 1]
    · rw [if_pos h, decide_eq_false (by omega), Bool.false_and]
      rfl
    · rw [if_neg h, decide_eq_true (by omega), Bool.true_and]
      exact ih () (by omega)
theorem impl_WindowFault_l1 (top : Int) (l : List Int) (hl : l.length ≤ 1000000000) (ht : -1 ≤ top) (k : Nat) (hk : l.length + 5 ≤ k) : impl_WindowFault.l1 k 1 top l = some (if asci l then lastv top l else 1) := by
  have eL : wrap64 ((l.length : Int) - 1) = (l.length : Int) - 1 := w64 (by omega) (by omega)
  by_cases h0 : l.length = 0
  · obtain ⟨k, rfl⟩ : ∃ m, k = m + 1 := ⟨k - 1, by omega⟩
    have hn := List.eq_nil_of_length_eq_zero h0
    subst hn
    simp only [impl_WindowFault.l1, lastv, asci, List.length_nil]
    by_cases h : top = -1
    · simp [h]
    · simp [h]
  refine loop_up (fun k (_ : Unit) i => impl_WindowFault.l1 k i top l) l.length 0 (fun _ i => if asci (l.drop (i - 1)) then lastv top l else 1) (fun _ i => 1 ≤ i) ?_ ?_ k () 1 1 rfl (by omega) (by omega) (by omega)
  · intro k _ _ _
    simp only [impl_WindowFault.l1, eL]
    rw [if_neg (by omega), asci_last l (by omega), if_pos rfl]
    unfold lastv
    by_cases h : top = -1
    · rw [if_pos h, if_pos h]
    · rw [if_neg h, if_neg h, if_neg (by omega), if_neg h0, if_pos (by omega), if_pos (by omega)]
      by_cases h2 : rd l ((l.length : Int) - 1) = top
      · rw [if_pos h2, if_pos h2]
      · rw [if_neg h2, if_neg h2]
  · intro k _ i hi h1 _ ih
    have e1 : wrap64 ((i : Int) - 1) = ((i - 1 : Nat) : Int) := by rw [w64 (by omega) (by omega)]; omega
    have e2 : wrap64 ((i : Int) + 1) = (i : Int) + 1 := w64 (by omega) (by omega)
    have hx : rd l ((i - 1 : Nat) : Int) = l[i - 1] := by simp only [rd, Int.toNat_natCast, getD_at _ _ _ (show i - 1 < l.length by omega)]
    have hy : rd l (i : Int) = l[i] := by simp only [rd, Int.toNat_natCast, getD_at _ _ _ hi]
    simp only [impl_WindowFault.l1, e1, e2]
    rw [if_pos (by omega), if_pos (by omega), if_pos (by omega), if_pos (by omega), hx, hy, asci_drop l i h1 hi]
    by_cases h : l[i - 1] ≥ l[i]
    · rw [if_pos h, decide_eq_false (by omega), Bool.false_and]
      rfl
    · rw [if_neg h, decide_eq_true (by omega), Bool.true_and]
      exact ih () (by omega)
theorem spec_WindowFault_at (top : Int) (l : List Int) (hl : l.length ≤ 1000000000) (k : Nat) (hk : 2 * l.length + 20 ≤ k) : spec_WindowFault.f k top l = some (wfv top l) := by
  simp only [spec_WindowFault.f, spec_in_at, Option.bind_some, decide_eq_true_eq]
  unfold wfv
  by_cases ht : -1 ≤ top ∧ top ≤ 1000000000
  rotate_left
  · rw [if_neg ht, if_neg ht]
  rw [if_pos ht, if_pos ht]
  have e16 : wrap64 (top - 16) = top - 16 := w64 (by omega) (by omega)
  refine loop_up (fun k (_ : Unit) i => spec_WindowFault.l0 k i top l) l.length (l.length + 5) (fun _ i => if (l.drop i).all (inW top) then (if asci l then lastv top l else 1) else 3) (fun _ i => True) ?_ ?_ k () 0 0 rfl (by omega) trivial (by omega)
  · intro k _ _ hm
    simp only [spec_WindowFault.l0]
    rw [if_neg (by omega), spec_WindowFault_l1 top l hl ht.1 k (by omega), List.drop_length]
    rfl
  · intro k _ i hi _ _ ih
    have e2 : wrap64 ((i : Int) + 1) = (i : Int) + 1 := w64 (by omega) (by omega)
    have hy : rd l (i : Int) = l[i] := by simp only [rd, Int.toNat_natCast, getD_at _ _ _ hi]
    simp only [spec_WindowFault.l0, e2, e16, spec_in_at, Option.bind_some, decide_eq_true_eq]
    rw [if_pos (by omega), if_pos (by omega), hy, drop_cons l i hi, List.all_cons]
    by_cases h : 0 ≤ l[i] ∧ l[i] ≤ top
    · rw [if_pos h]
      by_cases h2 : l[i] ≤ top - 16
      · have h3 : inW top l[i] = false := decide_eq_false (by omega)
        rw [if_pos h2, h3, Bool.false_and]
        rfl
      · have h3 : inW top l[i] = true := decide_eq_true (by omega)
        rw [if_neg h2, h3, Bool.true_and]
        exact ih () trivial
    · have h3 : inW top l[i] = false := decide_eq_false (by omega)
      rw [if_neg h, h3, Bool.false_and]
      rfl
theorem impl_WindowFault_at (top : Int) (l : List Int) (hl : l.length ≤ 1000000000) (k : Nat) (hk : 2 * l.length + 20 ≤ k) : impl_WindowFault.f k top l = some (wfv top l) := by
  simp only [impl_WindowFault.f, impl_in_at, Option.bind_some, decide_eq_true_eq]
  unfold wfv
  by_cases ht : -1 ≤ top ∧ top ≤ 1000000000
  rotate_left
  · rw [if_neg ht, if_neg ht]
  rw [if_pos ht, if_pos ht]
  have e16 : wrap64 (top - 16) = top - 16 := w64 (by omega) (by omega)
  refine loop_up (fun k (_ : Unit) i => impl_WindowFault.l0 k l (l.length : Int) i top l) l.length (l.length + 5) (fun _ i => if (l.drop i).all (inW top) then (if asci l then lastv top l else 1) else 3) (fun _ i => True) ?_ ?_ k () 0 0 rfl (by omega) trivial (by omega)
  · intro k _ _ hm
    simp only [impl_WindowFault.l0]
    rw [if_neg (by omega), impl_WindowFault_l1 top l hl ht.1 k (by omega), List.drop_length]
    rfl
  · intro k _ i hi _ _ ih
    have e2 : wrap64 ((i : Int) + 1) = (i : Int) + 1 := w64 (by omega) (by omega)
    have hy : rd l (i : Int) = l[i] := by simp only [rd, Int.toNat_natCast, getD_at _ _ _ hi]
    simp only [impl_WindowFault.l0, e2, e16, impl_in_at, Option.bind_some, decide_eq_true_eq]
    rw [if_pos (by omega), if_pos (by omega), if_pos (by omega), hy, drop_cons l i hi, List.all_cons]
    by_cases h : 0 ≤ l[i] ∧ l[i] ≤ top
    · rw [if_pos h]
      by_cases h2 : l[i] ≤ top - 16
      · have h3 : inW top l[i] = false := decide_eq_false (by omega)
        rw [if_pos h2, h3, Bool.false_and]
        rfl
      · have h3 : inW top l[i] = true := decide_eq_true (by omega)
        rw [if_neg h2, h3, Bool.true_and]
        exact ih () trivial
    · have h3 : inW top l[i] = false := decide_eq_false (by omega)
      rw [if_neg h, h3, Bool.false_and]
      rfl
theorem eqWindow_self (c : Int) (l : List Int) (hl : l.length ≤ 1000000000) (k : Nat) (hk : l.length < k) : laws_eqWindow.f k c l c l = some true := by
  unfold laws_eqWindow.f
  rw [if_pos rfl, eqInt64S_self l hl k hk]
  simp
end Go.Proofs.Ytldhhghppgkeaaa.Pure
