/- What the printed functions of the law FnExactTakeAll answer, as plain Lean. -/
import Derived.Test.YtbnibakamdhpdaaStFnExactTakeAll
import Derived.Test.YtbnibakamdhpdaaBaFnExactTakeAll
namespace Go.Proofs.Ytbnibakamdhpdaa.Pure
open Go.RowKit Go.Proofs.Ytbnibakamdhpdaa.Open Go.Proofs.Ytbnibakamdhpdaa.Base Go.Proofs.Ytbnibakamdhpdaa.MFnExactTakeAll Go.Proofs.YtbnibakamdhpdaaW.PrintWords Go.Proofs.YtbnibakamdhpdaaW.PrintLast Go.Proofs.YtbnibakamdhpdaaW.PrintMore
set_option linter.unusedVariables false
set_option linter.unusedSimpArgs false
theorem impl_in_at (a b c : Int) : impl_in.f a b c = some (decide (b ≤ a ∧ a ≤ c)) := by
  unfold impl_in.f
  by_cases h : a ≥ b
  · rw [if_pos h]
    have h' : b ≤ a := h
    simp [h']
  · rw [if_neg h]
    have h' : ¬ b ≤ a := h
    simp [h']
theorem spec_in_at (a b c : Int) : spec_l1In.f a b c = some (decide (b ≤ a ∧ a ≤ c)) := by
  unfold spec_l1In.f
  by_cases h : a ≥ b
  · rw [if_pos h]
    have h' : b ≤ a := h
    simp [h']
  · rw [if_neg h]
    have h' : ¬ b ≤ a := h
    simp [h']
theorem eqInt64S_self (l : List Int) (hl : l.length ≤ 1000000000) (k : Nat) (hk : l.length < k) : laws_eqInt64S.f k l l = some true := by
  unfold laws_eqInt64S.f
  rw [if_pos rfl]
  refine loop_up (fun k (_ : Unit) i => laws_eqInt64S.l0 k l l i) l.length 0 (fun _ _ => true) (fun _ _ => True) ?_ ?_ k () 0 0 rfl (Nat.zero_le _) trivial (by omega)
  · intro k _ _ _
    simp only [laws_eqInt64S.l0]
    rw [if_neg (by omega)]
  · intro k _ i hi _ _ ih
    simp only [laws_eqInt64S.l0]
    rw [if_pos (by omega), if_pos (by omega), if_pos (by omega), w64 (by omega) (by omega)]
    simp only [eq_self, ↓reduceIte]
    exact ih () trivial
theorem szInt64S_at (l : List Int) (a : Int) (h0 : 0 ≤ a) (h1 : a ≤ 1048576) (hl : l.length ≤ maxLen) : laws_szInt64S.f l a = some (if a < l.length then -1 else a - l.length) := by
  unfold maxLen at hl
  unfold laws_szInt64S.f
  rw [w64 (by omega) (by omega)]
  by_cases h : a < l.length
  · rw [if_pos (by omega), if_pos h]
  · rw [if_neg (by omega), if_neg h]
theorem toInt64S_at (l : List Int) (hl : l.length ≤ 1000000000) (k : Nat) (hk : l.length < k) : laws_toInt64S.f k l = some l := by
  unfold laws_toInt64S.f
  rw [if_pos (by omega), if_pos (by omega)]
  have h := to_loop (fun k s i => laws_toInt64S.l0 k l s i) l id ?_ ?_ k (List.replicate ((l.length : Int) : Int).toNat 0) (by simp) hk
  · rw [List.map_id] at h
    exact h
  · intro k s hs
    simp only [laws_toInt64S.l0]
    rw [if_neg (by omega)]
  · intro k s i hi hs
    simp only [laws_toInt64S.l0]
    rw [if_pos (by omega), if_pos (by omega), if_pos (by omega), w64 (by omega) (by omega)]
    simp only [Int.toNat_natCast, rd, getD_at _ _ _ hi, id]
theorem markInt64S_at (l : List Int) (a : Int) (h0 : 0 ≤ a) (ha : a ≤ 1000000000000) (hl : l.length ≤ 1000000000) (k : Nat) (hk : l.length < k) : laws_markInt64S.f k l a = some (a + 1 * l.length, marks id 1 a l.length) := by
  unfold laws_markInt64S.f
  refine mark_loop (fun k s b i => laws_markInt64S.l0 k s b i) l.length 1 id a ?_ ?_ k l rfl hk
  · intro k s b hs
    simp only [laws_markInt64S.l0]
    rw [if_neg (by omega)]
  · intro k s i hi hs
    show laws_markInt64S.l0 (k + 1) s (a + 1 * (i : Int)) (i : Int) = laws_markInt64S.l0 k (s.set i (a + 1 * (i : Int))) (a + 1 * (i : Int) + 1) ((i : Int) + 1)
    have e1 : wrap64 (a + 1 * (i : Int) + 1) = a + 1 * (i : Int) + 1 := w64 (by omega) (by omega)
    have ei : wrap64 ((i : Int) + 1) = (i : Int) + 1 := w64 (by omega) (by omega)
    simp only [laws_markInt64S.l0]
    rw [if_pos (by omega), if_pos (by omega)]
    simp only [Int.toNat_natCast, e1, ei]
theorem heldInt64S_at (n : Nat) (a : Int) (h0 : 0 ≤ a) (ha : a ≤ 1000000000000) (hl : n ≤ 1000000000) (k : Nat) (hk : n < k) : laws_heldInt64S.f k (marks id 1 a n) a = some (a + 1 * n) := by
  unfold laws_heldInt64S.f
  refine held_loop (fun k b i => laws_heldInt64S.l0 k (marks id 1 a n) b i) n 1 a ?_ ?_ k hk
  · intro k b
    simp only [laws_heldInt64S.l0, marks_len]
    rw [if_neg (by omega)]
  · intro k i hi
    show laws_heldInt64S.l0 (k + 1) (marks id 1 a n) (a + 1 * (i : Int)) (i : Int) = laws_heldInt64S.l0 k (marks id 1 a n) (a + 1 * (i : Int) + 1) ((i : Int) + 1)
    have e1 : wrap64 (a + 1 * (i : Int) + 1) = a + 1 * (i : Int) + 1 := w64 (by omega) (by omega)
    have ei : wrap64 ((i : Int) + 1) = (i : Int) + 1 := w64 (by omega) (by omega)
    have eg : rd (marks id 1 a n) (i : Int) = a + 1 * (i : Int) := by
      simp only [rd, Int.toNat_natCast, List.getD_eq_getElem?_getD, marks_get _ _ _ _ _ hi, Option.getD_some]
      rfl
    simp only [laws_heldInt64S.l0, marks_len]
    rw [if_pos (by omega), if_pos (by omega)]
    simp only [eg, e1, ei, eq_self, ↓reduceIte]
def inW (top n : Int) : Bool := decide (0 ≤ n ∧ n ≤ top ∧ ¬ n ≤ top - 16)
def asci : List Int → Bool
  | [] => true
  | [_] => true
  | x :: y :: t => decide (x < y) && asci (y :: t)
def lastv (top : Int) (l : List Int) : Int := if top = -1 then 0 else if l.length = 0 then 8 else if rd l ((l.length : Int) - 1) = top then 0 else 8
def wfv (top : Int) (l : List Int) : Int := if -1 ≤ top ∧ top ≤ 1000000000 then (if l.all (inW top) then (if asci l then lastv top l else 1) else 3) else 3
theorem asci_drop (l : List Int) (i : Nat) (h1 : 1 ≤ i) (h : i < l.length) : asci (l.drop (i - 1)) = (decide (l[i - 1] < l[i]) && asci (l.drop i)) := by
  have e : i - 1 + 1 = i := by omega
  rw [drop_cons l (i - 1) (by omega)]
  simp only [e]
  rw [drop_cons l i h]
  rfl
theorem asci_last (l : List Int) (h : 0 < l.length) : asci (l.drop (l.length - 1)) = true := by
  have e : l.length - 1 + 1 = l.length := by omega
  rw [drop_cons l (l.length - 1) (by omega)]
  simp only [e]
  rw [List.drop_length]
  rfl
theorem spec_WindowFault_l1 (top : Int) (l : List Int) (hl : l.length ≤ 1000000000) (ht : -1 ≤ top) (k : Nat) (hk : l.length + 5 ≤ k) : spec_WindowFault.l1 k 1 top l = some (if asci l then lastv top l else 1) := by
  have eL : wrap64 ((l.length : Int) - 1) = (l.length : Int) - 1 := w64 (by omega) (by omega)
  by_cases h0 : l.length = 0
  · obtain ⟨k, rfl⟩ : ∃ m, k = m + 1 := ⟨k - 1, by omega⟩
    have hn := List.eq_nil_of_length_eq_zero h0
    subst hn
    simp only [spec_WindowFault.l1, lastv, asci, List.length_nil]
    by_cases h : top = -1
    · simp [h]
    · have h2 : top ≥ 0 := by omega
      simp [h, h2]
  refine loop_up (fun k (_ : Unit) i => spec_WindowFault.l1 k i top l) l.length 0 (fun _ i => if asci (l.drop (i - 1)) then lastv top l else 1) (fun _ i => 1 ≤ i) ?_ ?_ k () 1 1 rfl (by omega) (by omega) (by omega)
  · intro k _ _ _
    simp only [spec_WindowFault.l1, eL]
    rw [if_neg (by omega), asci_last l (by omega), if_pos rfl]
    unfold lastv
    by_cases h : top = -1
    · rw [if_neg (by omega), if_pos h]
    · rw [if_pos (by omega), if_neg h, if_neg (by omega), if_neg h0, if_pos (by omega), if_pos (by omega)]
      by_cases h2 : rd l ((l.length : Int) - 1) = top
      · rw [if_pos h2, if_pos h2]
      · rw [if_neg h2, if_neg h2]
  · intro k _ i hi h1 _ ih
    have e1 : wrap64 ((i : Int) - 1) = ((i - 1 : Nat) : Int) := by rw [w64 (by omega) (by omega)]; omega
    have e2 : wrap64 ((i : Int) + 1) = (i : Int) + 1 := w64 (by omega) (by omega)
    have hx : rd l ((i - 1 : Nat) : Int) = l[i - 1] := by simp only [rd, Int.toNat_natCast, getD_at _ _ _ (show i - 1 < l.length by omega)]
    have hy : rd l (i : Int) = l[i] := by simp only [rd, Int.toNat_natCast, getD_at _ _ _ hi]
    simp only [spec_WindowFault.l1, e1, e2]
    rw [if_pos (by omega), if_pos (by omega), if_pos (by omega), if_pos (by omega), hx, hy, asci_drop l i h1 hi]
    by_cases h : l[i] ≤ l[i - 1]
    · rw [if_pos h, decide_eq_false (by omega), Bool.false_and]
      rfl
    · rw [if_neg h, decide_eq_true (by omega), Bool.true_and]
      exact ih () (by omega)
theorem impl_WindowFault_l1 (top : Int) (l : List Int) (hl : l.length ≤ 1000000000) (ht : -1 ≤ top) (k : Nat) (hk : l.length + 5 ≤ k) : impl_WindowFault.l1 k 1 top l = some (if asci l then lastv top l else 1) := by
  have eL : wrap64 ((l.length : Int) - 1) = (l.length : Int) - 1 := w64 (by omega) (by omega)
  by_cases h0 : l.length = 0
  · obtain ⟨k, rfl⟩ : ∃ m, k = m + 1 := ⟨k - 1, by omega⟩
    have hn := List.eq_nil_of_length_eq_zero h0
    subst hn
    simp only [impl_WindowFault.l1, lastv, asci, List.length_nil]
    by_cases h : top = -1
    · simp [h]
    · simp [h]
  refine loop_up (fun k (_ : Unit) i => impl_WindowFault.l1 k i top l) l.length 0 (fun _ i => if asci (l.drop (i - 1)) then lastv top l else 1) (fun _ i => 1 ≤ i) ?_ ?_ k () 1 1 rfl (by omega) (by omega) (by omega)
  · intro k _ _ _
    simp only [impl_WindowFault.l1, eL]
    rw [if_neg (by omega), asci_last l (by omega), if_pos rfl]
    unfold lastv
    by_cases h : top = -1
    · rw [if_pos h, if_pos h]
    · rw [if_neg h, if_neg h, if_neg (by omega), if_neg h0, if_pos (by omega), if_pos (by omega)]
      by_cases h2 : rd l ((l.length : Int) - 1) = top
      · rw [if_pos h2, if_pos h2]
      · rw [if_neg h2, if_neg h2]
  · intro k _ i hi h1 _ ih
    have e1 : wrap64 ((i : Int) - 1) = ((i - 1 : Nat) : Int) := by rw [w64 (by omega) (by omega)]; omega
    have e2 : wrap64 ((i : Int) + 1) = (i : Int) + 1 := w64 (by omega) (by omega)
    have hx : rd l ((i - 1 : Nat) : Int) = l[i - 1] := by simp only [rd, Int.toNat_natCast, getD_at _ _ _ (show i - 1 < l.length by omega)]
    have hy : rd l (i : Int) = l[i] := by simp only [rd, Int.toNat_natCast, getD_at _ _ _ hi]
    simp only [impl_WindowFault.l1, e1, e2]
    rw [if_pos (by omega), if_pos (by omega), if_pos (by omega), if_pos (by omega), hx, hy, asci_drop l i h1 hi]
    by_cases h : l[i - 1] ≥ l[i]
    · rw [if_pos h, decide_eq_false (by omega), Bool.false_and]
      rfl
    · rw [if_neg h, decide_eq_true (by omega), Bool.true_and]
      exact ih () (by omega)
theorem spec_WindowFault_at (top : Int) (l : List Int) (hl : l.length ≤ 1000000000) (k : Nat) (hk : 2 * l.length + 20 ≤ k) : spec_WindowFault.f k top l = some (wfv top l) := by
  simp only [spec_WindowFault.f, spec_in_at, Option.bind_some, decide_eq_true_eq]
  unfold wfv
  by_cases ht : -1 ≤ top ∧ top ≤ 1000000000
  rotate_left
  · rw [if_neg ht, if_neg ht]
  rw [if_pos ht, if_pos ht]
  have e16 : wrap64 (top - 16) = top - 16 := w64 (by omega) (by omega)
  refine loop_up (fun k (_ : Unit) i => spec_WindowFault.l0 k i top l) l.length (l.length + 5) (fun _ i => if (l.drop i).all (inW top) then (if asci l then lastv top l else 1) else 3) (fun _ i => True) ?_ ?_ k () 0 0 rfl (by omega) trivial (by omega)
  · intro k _ _ hm
    simp only [spec_WindowFault.l0]
    rw [if_neg (by omega), spec_WindowFault_l1 top l hl ht.1 k (by omega), List.drop_length]
    rfl
  · intro k _ i hi _ _ ih
    have e2 : wrap64 ((i : Int) + 1) = (i : Int) + 1 := w64 (by omega) (by omega)
    have hy : rd l (i : Int) = l[i] := by simp only [rd, Int.toNat_natCast, getD_at _ _ _ hi]
    simp only [spec_WindowFault.l0, e2, e16, spec_in_at, Option.bind_some, decide_eq_true_eq]
    rw [if_pos (by omega), if_pos (by omega), hy, drop_cons l i hi, List.all_cons]
    by_cases h : 0 ≤ l[i] ∧ l[i] ≤ top
    · rw [if_pos h]
      by_cases h2 : l[i] ≤ top - 16
      · have h3 : inW top l[i] = false := decide_eq_false (by omega)
        rw [if_pos h2, h3, Bool.false_and]
        rfl
      · have h3 : inW top l[i] = true := decide_eq_true (by omega)
        rw [if_neg h2, h3, Bool.true_and]
        exact ih () trivial
    · have h3 : inW top l[i] = false := decide_eq_false (by omega)
      rw [if_neg h, h3, Bool.false_and]
      rfl
theorem impl_WindowFault_at (top : Int) (l : List Int) (hl : l.length ≤ 1000000000) (k : Nat) (hk : 2 * l.length + 20 ≤ k) : impl_WindowFault.f k top l = some (wfv top l) := by
  simp only [impl_WindowFault.f, impl_in_at, Option.bind_some, decide_eq_true_eq]
  unfold wfv
  by_cases ht : -1 ≤ top ∧ top ≤ 1000000000
  rotate_left
  · rw [if_neg ht, if_neg ht]
  rw [if_pos ht, if_pos ht]
  have e16 : wrap64 (top - 16) = top - 16 := w64 (by omega) (by omega)
  refine loop_up (fun k (_ : Unit) i => impl_WindowFault.l0 k l (l.length : Int) i top l) l.length (l.length + 5) (fun _ i => if (l.drop i).all (inW top) then (if asci l then lastv top l else 1) else 3) (fun _ i => True) ?_ ?_ k () 0 0 rfl (by omega) trivial (by omega)
  · intro k _ _ hm
    simp only [impl_WindowFault.l0]
    rw [if_neg (by omega), impl_WindowFault_l1 top l hl ht.1 k (by omega), List.drop_length]
    rfl
  · intro k _ i hi _ _ ih
    have e2 : wrap64 ((i : Int) + 1) = (i : Int) + 1 := w64 (by omega) (by omega)
    have hy : rd l (i : Int) = l[i] := by simp only [rd, Int.toNat_natCast, getD_at _ _ _ hi]
    simp only [impl_WindowFault.l0, e2, e16, impl_in_at, Option.bind_some, decide_eq_true_eq]
    rw [if_pos (by omega), if_pos (by omega), if_pos (by omega), hy, drop_cons l i hi, List.all_cons]
    by_cases h : 0 ≤ l[i] ∧ l[i] ≤ top
    · rw [if_pos h]
      by_cases h2 : l[i] ≤ top - 16
      · have h3 : inW top l[i] = false := decide_eq_false (by omega)
        rw [if_pos h2, h3, Bool.false_and]
        rfl
      · have h3 : inW top l[i] = true := decide_eq_true (by omega)
        rw [if_neg h2, h3, Bool.true_and]
        exact ih () trivial
    · have h3 : inW top l[i] = false := decide_eq_false (by omega)
      rw [if_neg h, h3, Bool.false_and]
      rfl
theorem eqIntsResult_self (c : Int) (l : List Int) (hl : l.length ≤ 1000000000) (k : Nat) (hk : l.length < k) : laws_eqIntsResult.f k c l c l = some true := by
  unfold laws_eqIntsResult.f
  rw [if_pos rfl, eqInt64S_self l hl k hk]
  simp
theorem eqWindow_self (c : Int) (l : List Int) (hl : l.length ≤ 1000000000) (k : Nat) (hk : l.length < k) : laws_eqWindow.f k c l c l = some true := by
  unfold laws_eqWindow.f
  rw [if_pos rfl, eqInt64S_self l hl k hk]
  simp
def oi (n : Int) : List Int → List Int
  | [] => [n]
  | x :: t => if x > n then n :: x :: t else x :: oi n t
theorem oi_perm (n : Int) (l : List Int) : (oi n l).Perm (n :: l) := by
  induction l with
  | nil => exact List.Perm.refl _
  | cons x t ih =>
    rw [oi]
    split
    · exact List.Perm.refl _
    · exact (List.Perm.cons x ih).trans (List.Perm.swap n x t)
theorem oi_mem (n : Int) (l : List Int) (y : Int) : y ∈ oi n l ↔ y = n ∨ y ∈ l := by
  rw [(oi_perm n l).mem_iff, List.mem_cons]
theorem oi_len (n : Int) (l : List Int) : (oi n l).length = l.length + 1 := by
  rw [(oi_perm n l).length_eq, List.length_cons]
theorem oi_lt (n : Int) (l : List Int) (h : l.Pairwise (· < ·)) (hn : n ∉ l) : (oi n l).Pairwise (· < ·) := by
  induction l with
  | nil => exact List.pairwise_singleton _ _
  | cons x t ih =>
    obtain ⟨h1, h2⟩ := List.pairwise_cons.1 h
    rw [List.mem_cons, not_or] at hn
    rw [oi]
    split
    · rename_i hx
      refine List.pairwise_cons.2 ⟨fun y hy => ?_, h⟩
      rcases List.mem_cons.1 hy with rfl | hy
      · omega
      · have := h1 y hy
        omega
    · rename_i hx
      refine List.pairwise_cons.2 ⟨fun y hy => ?_, ih h2 hn.2⟩
      rcases (oi_mem n t y).1 hy with rfl | hy
      · omega
      · exact h1 y hy
theorem asci_pair : ∀ (l : List Int), asci l = true → l.Pairwise (· < ·)
  | [], _ => List.Pairwise.nil
  | [x], _ => List.pairwise_singleton _ _
  | x :: y :: t, h => by
    have h' : (decide (x < y) && asci (y :: t)) = true := h
    rw [Bool.and_eq_true, decide_eq_true_eq] at h'
    have ih := asci_pair (y :: t) h'.2
    refine List.pairwise_cons.2 ⟨fun z hz => ?_, ih⟩
    rcases List.mem_cons.1 hz with rfl | hz
    · exact h'.1
    · have := (List.pairwise_cons.1 ih).1 z hz
      omega
theorem pair_asci : ∀ (l : List Int), l.Pairwise (· < ·) → asci l = true
  | [], _ => rfl
  | [x], _ => rfl
  | x :: y :: t, h => by
    obtain ⟨h1, h2⟩ := List.pairwise_cons.1 h
    show (decide (x < y) && asci (y :: t)) = true
    rw [Bool.and_eq_true, decide_eq_true_eq]
    exact ⟨h1 y (by simp), pair_asci (y :: t) h2⟩
theorem sort_oi (n : Int) (l : List Int) (h : l.Pairwise (· < ·)) (hn : n ∉ l) : ((l ++ [n]).mergeSort fun x y => decide (x ≤ y)) = oi n l := by
  refine List.Perm.eq_of_pairwise (le := fun a b : Int => a ≤ b) (fun a b _ _ h1 h2 => by omega) ?_ ((oi_lt n l h hn).imp (fun h => by omega)) ?_
  · have := List.pairwise_mergeSort (le := fun x y : Int => decide (x ≤ y)) (fun a b c h1 h2 => by simp only [decide_eq_true_eq] at *; omega) (fun a b => by simp only [Bool.or_eq_true, decide_eq_true_eq]; omega) (l ++ [n])
    exact this.imp (fun h => by simpa using h)
  · exact (List.mergeSort_perm _ _).trans ((List.perm_append_comm (l₁ := l) (l₂ := [n])).trans (oi_perm n l).symm)
def ptop (t x : Int) : Bool := !decide (x ≤ t - 16)
theorem ptop_iff (t x : Int) : ptop t x = true ↔ x > t - 16 := by
  unfold ptop
  simp
theorem l6Take_done (n a0 t : Int) (h0 : -10 ≤ t) (h1 : t ≤ 2000000000) (l : List Int) (hl : l.length ≤ 2000000) (m : Nat) : ∀ (k i : Nat) (s : List Int), l.length - i = m → i ≤ l.length → 2 * m + 2 ≤ k → s.length ≤ i + 10 → spec_l6Take.l0 k n true (i : Int) a0 l t s = some (t, s ++ (l.drop i).filter (ptop t), 0) := by
  induction m with
  | zero =>
    intro k i s hm hi hk hs
    obtain ⟨k, rfl⟩ : ∃ z, k = z + 1 := ⟨k - 1, by omega⟩
    obtain rfl : i = l.length := by omega
    rw [spec_l6Take.l0, if_neg (by omega), if_pos rfl, List.drop_length]
    simp
  | succ m ih =>
    intro k i s hm hi hk hs
    obtain ⟨k, rfl⟩ : ∃ z, k = z + 2 := ⟨k - 2, by omega⟩
    have hlt : i < l.length := by omega
    have hy : rd l (i : Int) = l[i] := by simp only [rd, Int.toNat_natCast, getD_at _ _ _ hlt]
    have e2 : ((i + 1 : Nat) : Int) = (i : Int) + 1 := by omega
    rw [spec_l6Take.l0, if_pos (by omega), if_pos rfl, spec_l6Take.j1, if_neg (by decide), if_pos (by omega), if_pos (by omega), hy, w64 (x := t - 16) (by omega) (by omega), w64 (x := (i : Int) + 1) (by omega) (by omega), ← e2, drop_cons l i hlt, List.filter_cons]
    by_cases hp : l[i] > t - 16
    · rw [if_pos hp, if_pos (by omega), if_pos ((ptop_iff t _).2 hp), ih k (i + 1) _ (by omega) (by omega) (by omega) (by rw [List.length_append, List.length_singleton]; omega), List.append_assoc]
      rfl
    · rw [if_neg hp, if_neg (fun h => hp ((ptop_iff t _).1 h)), ih k (i + 1) _ (by omega) (by omega) (by omega) (by omega)]
theorem l6Take_new (n a0 t : Int) (h0 : -10 ≤ t) (h1 : t ≤ 2000000000) (hn : ptop t n = true) (l : List Int) (hl : l.length ≤ 2000000) (m : Nat) : ∀ (k i : Nat) (s : List Int), l.length - i = m → i ≤ l.length → 2 * m + 2 ≤ k → s.length ≤ i → spec_l6Take.l0 k n false (i : Int) a0 l t s = some (t, s ++ (oi n (l.drop i)).filter (ptop t), 0) := by
  induction m with
  | zero =>
    intro k i s hm hi hk hs
    obtain ⟨k, rfl⟩ : ∃ z, k = z + 1 := ⟨k - 1, by omega⟩
    obtain rfl : i = l.length := by omega
    rw [spec_l6Take.l0, if_neg (by omega), if_neg (by decide), if_pos (by omega), List.drop_length]
    simp [oi, hn]
  | succ m ih =>
    intro k i s hm hi hk hs
    obtain ⟨k, rfl⟩ : ∃ z, k = z + 2 := ⟨k - 2, by omega⟩
    have hlt : i < l.length := by omega
    have hy : rd l (i : Int) = l[i] := by simp only [rd, Int.toNat_natCast, getD_at _ _ _ hlt]
    have e2 : ((i + 1 : Nat) : Int) = (i : Int) + 1 := by omega
    rw [spec_l6Take.l0, if_pos (by omega), if_neg (by decide), if_pos (by omega), hy, drop_cons l i hlt, oi]
    by_cases hx : l[i] > n
    · rw [decide_eq_true hx, if_pos hx, spec_l6Take.j1, if_pos rfl, if_pos (by omega)]
      simp only [Option.bind_some]
      rw [if_pos (by omega), if_pos (by omega), hy, w64 (x := t - 16) (by omega) (by omega), w64 (x := (i : Int) + 1) (by omega) (by omega), ← e2, List.filter_cons, if_pos hn, List.filter_cons]
      by_cases hp : l[i] > t - 16
      · rw [if_pos hp, if_pos (by rw [List.length_append, List.length_singleton]; omega), if_pos ((ptop_iff t _).2 hp), l6Take_done n a0 t h0 h1 l hl _ k (i + 1) _ rfl (by omega) (by omega) (by simp; omega)]
        simp
      · rw [if_neg hp, if_neg (fun h => hp ((ptop_iff t _).1 h)), l6Take_done n a0 t h0 h1 l hl _ k (i + 1) _ rfl (by omega) (by omega) (by simp; omega)]
        simp
    · rw [decide_eq_false hx, if_neg hx, spec_l6Take.j1, if_neg (by decide), if_pos (by omega), if_pos (by omega), hy, w64 (x := t - 16) (by omega) (by omega), w64 (x := (i : Int) + 1) (by omega) (by omega), ← e2, List.filter_cons]
      by_cases hp : l[i] > t - 16
      · rw [if_pos hp, if_pos (by omega), if_pos ((ptop_iff t _).2 hp), ih k (i + 1) _ (by omega) (by omega) (by omega) (by rw [List.length_append, List.length_singleton]; omega), List.append_assoc]
        rfl
      · rw [if_neg hp, if_neg (fun h => hp ((ptop_iff t _).1 h)), ih k (i + 1) _ (by omega) (by omega) (by omega) (by omega)]
theorem l1Has_at (l : List Int) (n : Int) (hl : l.length ≤ 1000000000) (k : Nat) (hk : l.length < k) : spec_l1Has.f k l n = some (decide (n ∈ l)) := by
  unfold spec_l1Has.f
  have key := loop_up (fun k (_ : Unit) i => spec_l1Has.l0 k l n i) l.length 0 (fun _ i => decide (n ∈ l.drop i)) (fun _ _ => True) ?_ ?_ k () 0 0 rfl (Nat.zero_le _) trivial (by omega)
  · exact key
  · intro k _ _ _
    rw [spec_l1Has.l0, if_neg (by omega), List.drop_length]
    rfl
  · intro k _ i hi _ _ ih
    have hy : rd l (i : Int) = l[i] := by simp only [rd, Int.toNat_natCast, getD_at _ _ _ hi]
    rw [spec_l1Has.l0, if_pos (by omega), if_pos (by omega), hy, w64 (by omega) (by omega), ih () trivial, drop_cons l i hi]
    by_cases h : l[i] = n
    · rw [if_pos h, decide_eq_true (by simp [h])]
    · rw [if_neg h]
      congr 1
      rw [decide_eq_decide, List.mem_cons]
      constructor
      · exact .inr
      · rintro (rfl | h2)
        · exact absurd rfl h
        · exact h2
theorem Contains_at (l : List Int) (n : Int) (hl : l.length ≤ 1000000000) (k : Nat) (hk : l.length < k) : slices_Contains_int64_int64.f k l n = some (decide (n ∈ l)) := by
  have key : ∀ (m k i : Nat), l.length - i = m → i ≤ l.length → m < k → ∃ r, slices_Index_int64_int64.l0 k l n (l.length : Int) (i : Int) = some r ∧ (r ≥ 0 ↔ n ∈ l.drop i) := by
    intro m
    induction m with
    | zero =>
      intro k i hm hi hk
      obtain ⟨k, rfl⟩ : ∃ z, k = z + 1 := ⟨k - 1, by omega⟩
      obtain rfl : i = l.length := by omega
      refine ⟨-1, by rw [slices_Index_int64_int64.l0, if_neg (by omega)], ?_⟩
      rw [List.drop_length]
      simp
    | succ m ih =>
      intro k i hm hi hk
      obtain ⟨k, rfl⟩ : ∃ z, k = z + 1 := ⟨k - 1, by omega⟩
      have hlt : i < l.length := by omega
      have hy : rd l (i : Int) = l[i] := by simp only [rd, Int.toNat_natCast, getD_at _ _ _ hlt]
      have e2 : ((i + 1 : Nat) : Int) = (i : Int) + 1 := by omega
      rw [slices_Index_int64_int64.l0, if_pos (by omega), if_pos (by omega), if_pos (by omega), hy, w64 (by omega) (by omega), ← e2, drop_cons l i hlt]
      by_cases h : n = l[i]
      · rw [if_pos h]
        exact ⟨i, rfl, fun _ => List.mem_cons.2 (.inl h), fun _ => by omega⟩
      · rw [if_neg h]
        obtain ⟨r, e, hr⟩ := ih k (i + 1) (by omega) (by omega) (by omega)
        refine ⟨r, e, hr.trans ?_⟩
        rw [List.mem_cons]
        exact ⟨.inr, fun h2 => h2.resolve_left h⟩
  unfold slices_Contains_int64_int64.f slices_Index_int64_int64.f
  obtain ⟨r, e, hr⟩ := key _ k 0 rfl (by omega) (by omega)
  rw [show ((0 : Nat) : Int) = 0 from rfl] at e
  rw [e, Option.bind_some, List.drop_zero] at *
  rw [decide_eq_decide.2 hr]
def mxv (a b : Int) : Int := if a < b then b else a
def tkv (top : Int) (l : List Int) (n : Int) : Int × Int × List Int := if ¬ (0 ≤ n ∧ n ≤ 1000000000) then (3, 0, []) else if n ∈ l then (6, 0, []) else if n ≤ top - 16 then (8, 0, []) else (0, mxv top n, (oi n l).filter (ptop (mxv top n)))
theorem wfv_ok {top : Int} {l : List Int} (h : wfv top l = 0) : -1 ≤ top ∧ top ≤ 1000000000 ∧ l.all (inW top) = true ∧ asci l = true ∧ lastv top l = 0 := by
  unfold wfv at h
  split at h
  · rename_i h1
    split at h
    · rename_i h2
      split at h
      · rename_i h3
        exact ⟨h1.1, h1.2, h2, h3, h⟩
      · omega
    · omega
  · omega
theorem l6Take_at (top : Int) (l : List Int) (n : Int) (hl : l.length ≤ 2000000) (h0 : -1 ≤ top) (h1 : top ≤ 1000000000) (k : Nat) (hk : 2 * l.length + 20 ≤ k) : spec_l6Take.f k top l n = some ((tkv top l n).2.1, (tkv top l n).2.2, (tkv top l n).1) := by
  unfold spec_l6Take.f tkv
  rw [spec_in_at]
  simp only [Option.bind_some, decide_eq_true_eq]
  by_cases hr : 0 ≤ n ∧ n ≤ 1000000000
  rotate_left
  · rw [if_neg hr, if_pos hr]
  rw [if_pos hr, if_neg (show ¬ ¬ (0 ≤ n ∧ n ≤ 1000000000) from fun h => h hr), l1Has_at l n (by omega) k (by omega)]
  simp only [Option.bind_some, decide_eq_true_eq]
  by_cases hm : n ∈ l
  · rw [if_pos hm, if_pos hm]
  rw [if_neg hm, if_neg hm, w64 (by omega) (by omega)]
  by_cases hb : n ≤ top - 16
  · rw [if_pos hb, if_pos hb]
  rw [if_neg hb, if_neg hb]
  have e : spec_l1Max.f top n = some (mxv top n) := by
    unfold spec_l1Max.f mxv
    by_cases h : top > n
    · rw [if_pos h, if_neg (by omega)]
    · rw [if_neg h]
      by_cases h2 : top < n
      · rw [if_pos h2]
      · rw [if_neg h2, show top = n by omega]
  have hmx : mxv top n = top ∧ n ≤ top ∨ mxv top n = n ∧ top < n := by
    unfold mxv
    split <;> omega
  rw [e, Option.bind_some]
  have key := l6Take_new n top (mxv top n) (by omega) (by omega) ((ptop_iff _ _).2 (by omega)) l hl _ k 0 [] rfl (by omega) (by omega) (by simp)
  rw [show ((0 : Nat) : Int) = 0 from rfl] at key
  rw [key, List.drop_zero, List.nil_append]
theorem tkv_len (top : Int) (l : List Int) (n : Int) : (tkv top l n).2.2.length ≤ l.length + 1 := by
  unfold tkv
  split
  · simp
  · split
    · simp
    · split
      · simp
      · have := List.length_filter_le (ptop (mxv top n)) (oi n l)
        rw [oi_len] at this
        exact this
theorem last_top (l : List Int) (h : l.Pairwise (· < ·)) (t : Int) (ht : t ∈ l) (ha : ∀ x ∈ l, x ≤ t) : rd l ((l.length : Int) - 1) = t := by
  have hp : 0 < l.length := List.length_pos_of_mem ht
  have e : rd l ((l.length : Int) - 1) = l[l.length - 1] := by
    rw [show (l.length : Int) - 1 = ((l.length - 1 : Nat) : Int) by omega]
    simp only [rd, Int.toNat_natCast, getD_at _ _ _ (show l.length - 1 < l.length by omega)]
  rw [e]
  have h1 := ha _ (List.getElem_mem (show l.length - 1 < l.length by omega))
  obtain ⟨i, hi, rfl⟩ := List.getElem_of_mem ht
  rcases Nat.lt_or_ge i (l.length - 1) with h2 | h2
  · have := List.pairwise_iff_getElem.1 h i (l.length - 1) hi (by omega) h2
    omega
  · have : i = l.length - 1 := by omega
    subst this
    rfl
theorem tkv_ok {top : Int} {l : List Int} {n : Int} (h : wfv top l = 0) (hc : (tkv top l n).1 = 0) : wfv (tkv top l n).2.1 (tkv top l n).2.2 = 0 := by
  obtain ⟨w1, w2, w3, w4, w5⟩ := wfv_ok h
  unfold tkv at hc ⊢
  split at hc
  · simp at hc
  rename_i hr
  have hr' : 0 ≤ n ∧ n ≤ 1000000000 := Classical.not_not.1 hr
  split at hc
  · simp at hc
  rename_i hm
  split at hc
  · simp at hc
  rename_i hb
  rw [if_neg hr, if_neg hm, if_neg hb]
  show wfv (mxv top n) ((oi n l).filter (ptop (mxv top n))) = 0
  have hmx : mxv top n = top ∧ n ≤ top ∨ mxv top n = n ∧ top < n := by
    unfold mxv
    split <;> omega
  have hw : ∀ x ∈ l, 0 ≤ x ∧ x ≤ top ∧ ¬ x ≤ top - 16 := fun x hx => by
    have := List.all_eq_true.1 w3 x hx
    unfold inW at this
    simpa using this
  have hpl := oi_lt n l (asci_pair l w4) hm
  have hpf := hpl.filter (ptop (mxv top n))
  have hin : ∀ x ∈ (oi n l).filter (ptop (mxv top n)), 0 ≤ x ∧ x ≤ mxv top n ∧ x > mxv top n - 16 := fun x hx => by
    obtain ⟨hx1, hx2⟩ := List.mem_filter.1 hx
    have hx3 := (ptop_iff _ _).1 hx2
    rcases (oi_mem n l x).1 hx1 with rfl | hx4
    · omega
    · have := hw x hx4
      omega
  have htop : mxv top n ∈ (oi n l).filter (ptop (mxv top n)) := by
    refine List.mem_filter.2 ⟨(oi_mem n l _).2 ?_, (ptop_iff _ _).2 (by omega)⟩
    rcases hmx with ⟨e, h2⟩ | ⟨e, h2⟩
    · rw [e]
      unfold lastv at w5
      split at w5
      · omega
      · split at w5
        · omega
        · rename_i hlen
          split at w5
          · rename_i hlast
            refine .inr ?_
            rw [← hlast, show (l.length : Int) - 1 = ((l.length - 1 : Nat) : Int) by omega]
            simp only [rd, Int.toNat_natCast, getD_at _ _ _ (show l.length - 1 < l.length by omega)]
            exact List.getElem_mem _
          · omega
    · exact .inl e
  have hlen : 0 < ((oi n l).filter (ptop (mxv top n))).length := List.length_pos_of_mem htop
  have hall : ((oi n l).filter (ptop (mxv top n))).all (inW (mxv top n)) = true := List.all_eq_true.2 fun x hx => by
    have := hin x hx
    unfold inW
    simp only [decide_eq_true_eq]
    omega
  unfold wfv
  rw [if_pos (by omega), if_pos hall, if_pos (pair_asci _ hpf)]
  unfold lastv
  rw [if_neg (by omega), if_neg (by omega), if_pos (last_top _ hpf _ htop (fun x hx => (hin x hx).2.1))]
def twv (top : Int) (l : List Int) (n : Int) : Int × Int × List Int := if wfv top l = 0 then tkv top l n else (wfv top l, 0, [])
theorem twv_len (top : Int) (l : List Int) (n : Int) : (twv top l n).2.2.length ≤ l.length + 1 := by
  unfold twv
  split
  · exact tkv_len top l n
  · simp
theorem impl_TakeCounter_at (top : Int) (l : List Int) (n : Int) (hl : l.length ≤ 2000000) (k : Nat) (hk : 2 * l.length + 30 ≤ k) : impl_TakeCounter.f k top l n = some (twv top l n) := by
  obtain ⟨k, rfl⟩ : ∃ z, k = z + 1 := ⟨k - 1, by omega⟩
  unfold impl_TakeCounter.f twv
  rw [impl_WindowFault_at top l (by omega) _ (by omega)]
  simp only [Option.bind_some]
  by_cases h : wfv top l = 0
  rotate_left
  · rw [if_neg h, if_neg h, impl_TakeCounter.j0, if_neg h]
  obtain ⟨w1, w2, w3, w4, w5⟩ := wfv_ok h
  rw [if_pos h, if_pos h, impl_in_at]
  simp only [Option.bind_some, decide_eq_true_eq]
  unfold tkv
  by_cases hr : 0 ≤ n ∧ n ≤ 1000000000
  rotate_left
  · rw [if_neg hr, if_pos hr, impl_TakeCounter.j0, if_neg (by decide)]
  rw [if_pos hr, if_neg (show ¬ ¬ (0 ≤ n ∧ n ≤ 1000000000) from fun h => h hr), Contains_at l n (by omega) _ (by omega)]
  simp only [Option.bind_some, decide_eq_true_eq]
  by_cases hm : n ∈ l
  · rw [if_pos hm, if_pos hm, impl_TakeCounter.j0, if_neg (by decide)]
  rw [if_neg hm, if_neg hm, w64 (by omega) (by omega)]
  by_cases hb : n ≤ top - 16
  · rw [if_pos hb, if_pos hb, impl_TakeCounter.j0, if_neg (by decide)]
  rw [if_neg hb, if_neg hb, h, impl_TakeCounter.j0, if_pos rfl]
  unfold slices_Clone_int64_int64.f slices_Sort_int64_int64.f slices_DeleteFunc_int64_int64.f
  rw [if_pos (by omega)]
  simp only [Option.bind_some]
  have hmx : mxv top n = top ∧ n ≤ top ∨ mxv top n = n ∧ top < n := by
    unfold mxv
    split <;> omega
  have emx : mx top n = mxv top n := rfl
  rw [if_pos (by simp; omega), if_pos (by simp), if_pos (by simp; omega), sort_oi n l (asci_pair l w4) hm]
  simp only [Option.bind_some]
  rw [if_pos (by rw [oi_len]; omega), if_pos (by rw [oi_len]; omega), emx, w64 (by omega) (by omega)]
  rfl
theorem szWindow_at (t : Int) (l : List Int) (a : Int) (h0 : 0 ≤ a) (h1 : a ≤ 1048576) (hl : l.length ≤ maxLen) : laws_szWindow.f t l a = some (if a < l.length then -1 else a - l.length) := by
  unfold laws_szWindow.f
  rw [szInt64S_at l a h0 h1 hl]
  simp only [Option.bind_some]
  by_cases h : a < l.length
  · simp [h]
  · rw [if_neg h, if_neg (by omega)]
theorem toWindow_at (t : Int) (l : List Int) (hl : l.length ≤ 1000000000) (k : Nat) (hk : l.length < k) : laws_toWindow.f k t l = some (t, l) := by
  unfold laws_toWindow.f
  rw [toInt64S_at l hl k hk]
  rfl
def taf : List Int → Int → Int → List Int → List Int → List Int
  | [], _, _, _, s => s
  | n :: t, j, top, l, s => if (tkv top l n).1 = 0 then taf t (j + 1) (tkv top l n).2.1 (tkv top l n).2.2 (s ++ [j]) else taf t (j + 1) top l s
theorem taf_len : ∀ (ns : List Int) (j top : Int) (l s : List Int), (taf ns j top l s).length ≤ s.length + ns.length
  | [], _, _, _, _ => Nat.le_refl _
  | n :: t, j, top, l, s => by
    rw [taf, List.length_cons]
    split
    · have := taf_len t (j + 1) (tkv top l n).2.1 (tkv top l n).2.2 (s ++ [j])
      rw [List.length_append, List.length_singleton] at this
      omega
    · have := taf_len t (j + 1) top l s
      omega
def tav (top : Int) (l ns : List Int) : Int × List Int := if wfv top l = 0 then (if ns.length > 200 then (2, []) else (0, taf ns 0 top l [])) else (wfv top l, [])
theorem tav_len (top : Int) (l ns : List Int) : (tav top l ns).2.length ≤ 200 := by
  unfold tav
  split
  · split
    · simp
    · have := taf_len ns 0 top l []
      show (taf ns 0 top l []).length ≤ 200
      simp at this
      omega
  · simp
theorem spec_TakeAll_l0 (ns : List Int) (hn : ns.length ≤ 1000) (c : Int) (m : Nat) : ∀ (k i : Nat) (top : Int) (l s : List Int), ns.length - i = m → i ≤ ns.length → wfv top l = 0 → l.length + m ≤ 1500000 → s.length ≤ i → m + 3000100 ≤ k → spec_TakeAll.l0 k ns (i : Int) c s top l = some (c, taf (ns.drop i) (i : Int) top l s) := by
  induction m with
  | zero =>
    intro k i top l s hm hi hw hl hs hk
    obtain ⟨k, rfl⟩ : ∃ z, k = z + 1 := ⟨k - 1, by omega⟩
    obtain rfl : i = ns.length := by omega
    rw [spec_TakeAll.l0, if_neg (by omega), List.drop_length]
    rfl
  | succ m ih =>
    intro k i top l s hm hi hw hl hs hk
    obtain ⟨k, rfl⟩ : ∃ z, k = z + 1 := ⟨k - 1, by omega⟩
    have hlt : i < ns.length := by omega
    have hy : rd ns (i : Int) = ns[i] := by simp only [rd, Int.toNat_natCast, getD_at _ _ _ hlt]
    have e2 : ((i + 1 : Nat) : Int) = (i : Int) + 1 := by omega
    obtain ⟨w1, w2, _⟩ := wfv_ok hw
    rw [spec_TakeAll.l0, if_pos (by omega), if_pos (by omega), hy, l6Take_at top l ns[i] (by omega) w1 w2 k (by omega), w64 (x := (i : Int) + 1) (by omega) (by omega), drop_cons ns i hlt, taf, ← e2]
    simp only [Option.bind_some]
    by_cases hc : (tkv top l ns[i]).1 = 0
    · have := tkv_len top l ns[i]
      rw [if_pos hc, if_pos hc, if_pos (by omega), ih k (i + 1) _ _ _ (by omega) (by omega) (tkv_ok hw hc) (by omega) (by rw [List.length_append, List.length_singleton]; omega) (by omega)]
    · rw [if_neg hc, if_neg hc, ih k (i + 1) _ _ _ (by omega) (by omega) hw (by omega) (by omega) (by omega)]
theorem impl_TakeAll_l0 (ns : List Int) (hn : ns.length ≤ 1000) (c : Int) (m : Nat) : ∀ (k i : Nat) (top : Int) (l s : List Int), ns.length - i = m → i ≤ ns.length → wfv top l = 0 → l.length + m ≤ 1500000 → s.length ≤ i → m + 3000100 ≤ k → impl_TakeAll.l0 k ns (ns.length : Int) (i : Int) top l c s = some (c, taf (ns.drop i) (i : Int) top l s) := by
  induction m with
  | zero =>
    intro k i top l s hm hi hw hl hs hk
    obtain ⟨k, rfl⟩ : ∃ z, k = z + 1 := ⟨k - 1, by omega⟩
    obtain rfl : i = ns.length := by omega
    rw [impl_TakeAll.l0, if_neg (by omega), List.drop_length]
    rfl
  | succ m ih =>
    intro k i top l s hm hi hw hl hs hk
    obtain ⟨k, rfl⟩ : ∃ z, k = z + 1 := ⟨k - 1, by omega⟩
    have hlt : i < ns.length := by omega
    have hy : rd ns (i : Int) = ns[i] := by simp only [rd, Int.toNat_natCast, getD_at _ _ _ hlt]
    have e2 : ((i + 1 : Nat) : Int) = (i : Int) + 1 := by omega
    have et : twv top l ns[i] = tkv top l ns[i] := by
      unfold twv
      rw [if_pos hw]
    rw [impl_TakeAll.l0, if_pos (by omega), if_pos (by omega), if_pos (by omega), hy, impl_TakeCounter_at top l ns[i] (by omega) k (by omega), et, w64 (x := (i : Int) + 1) (by omega) (by omega), drop_cons ns i hlt, taf, ← e2]
    simp only [Option.bind_some]
    by_cases hc : (tkv top l ns[i]).1 = 0
    · have := tkv_len top l ns[i]
      rw [if_pos hc, if_pos hc, if_pos (by omega), ih k (i + 1) _ _ _ (by omega) (by omega) (tkv_ok hw hc) (by omega) (by rw [List.length_append, List.length_singleton]; omega) (by omega)]
    · rw [if_neg hc, if_neg hc, ih k (i + 1) _ _ _ (by omega) (by omega) hw (by omega) (by omega) (by omega)]
theorem spec_TakeAll_at (top : Int) (l ns : List Int) (hl : l.length ≤ 1400000) (k : Nat) (hk : 4000000 ≤ k) : spec_TakeAll.f k top l ns = some (tav top l ns) := by
  unfold spec_TakeAll.f tav
  rw [spec_WindowFault_at top l (by omega) _ (by omega)]
  simp only [Option.bind_some]
  by_cases h : wfv top l = 0
  · rw [if_pos h, if_pos h]
    by_cases h2 : ns.length > 200
    · rw [if_pos (by omega), if_pos h2]
    · have e := spec_TakeAll_l0 ns (by omega) 0 _ k 0 top l [] rfl (by omega) h (by omega) (by simp) (by omega)
      rw [show ((0 : Nat) : Int) = 0 from rfl] at e
      rw [if_neg (by omega), if_neg h2, e, List.drop_zero]
  · rw [if_neg h, if_neg h]
theorem impl_TakeAll_at (top : Int) (l ns : List Int) (hl : l.length ≤ 1400000) (k : Nat) (hk : 4000000 ≤ k) : impl_TakeAll.f k top l ns = some (tav top l ns) := by
  unfold impl_TakeAll.f tav
  rw [impl_WindowFault_at top l (by omega) _ (by omega)]
  simp only [Option.bind_some]
  by_cases h : wfv top l = 0
  · rw [if_pos h, if_pos h]
    by_cases h2 : ns.length > 200
    · rw [if_pos (by omega), if_pos h2]
    · have e := impl_TakeAll_l0 ns (by omega) 0 _ k 0 top l [] rfl (by omega) h (by omega) (by simp) (by omega)
      rw [show ((0 : Nat) : Int) = 0 from rfl] at e
      rw [if_neg (by omega), if_neg h2, e, List.drop_zero]
  · rw [if_neg h, if_neg h]
end Go.Proofs.Ytbnibakamdhpdaa.Pure
