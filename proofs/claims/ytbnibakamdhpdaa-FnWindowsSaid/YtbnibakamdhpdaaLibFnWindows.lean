/- What the printed functions of the law FnWindows answer, as plain Lean. -/
import Derived.Test.YtbnibakamdhpdaaStFnWindows
import Derived.Test.YtbnibakamdhpdaaBaFnWindows
namespace Go.Proofs.Ytbnibakamdhpdaa.Pure
open Go.RowKit Go.Proofs.Ytbnibakamdhpdaa.Open Go.Proofs.Ytbnibakamdhpdaa.Base Go.Proofs.Ytbnibakamdhpdaa.MFnWindows Go.Proofs.YtbnibakamdhpdaaW.PrintWords Go.Proofs.YtbnibakamdhpdaaW.PrintLast Go.Proofs.YtbnibakamdhpdaaW.PrintMore
set_option linter.unusedVariables false
set_option linter.unusedSimpArgs false
theorem impl_in_at (a b c : Int) : impl_in.f a b c = some (decide (b ≤ a ∧ a ≤ c)) := by
  unfold impl_in.f
  by_cases h : a ≥ b
  · rw [if_pos h]
    have h' : b ≤ a := h
    simp [h']
  · rw [if_neg h]
    have h' : ¬ b ≤ a := h
    simp [h']
theorem spec_in_at (a b c : Int) : spec_l1In.f a b c = some (decide (b ≤ a ∧ a ≤ c)) := by
  unfold spec_l1In.f
  by_cases h : a ≥ b
  · rw [if_pos h]
    have h' : b ≤ a := h
    simp [h']
  · rw [if_neg h]
    have h' : ¬ b ≤ a := h
    simp [h']
theorem tmod_in (a n : Int) (ha : 0 ≤ a) (hn : 0 < n) : 0 ≤ Int.tmod a n ∧ Int.tmod a n < n := ⟨Int.tmod_nonneg n ha, Int.tmod_lt_of_pos a hn⟩
def Bytes (code : List Int) : Prop := code.length ≤ 1048576 ∧ ∀ x ∈ code, 0 ≤ x ∧ x ≤ 255
theorem bytes_of {code : List Int} (hl : code.length ≤ 1048576) (h : ∀ x ∈ code, (Lit.int .u8 x).wf = true) : Bytes code := by
  refine ⟨hl, fun x hx => ?_⟩
  have h2 : (decide ((IntKind.u8).min ≤ x) && decide (x ≤ (IntKind.u8).max)) = true := h x hx
  rw [Bool.and_eq_true, decide_eq_true_eq, decide_eq_true_eq] at h2
  have e1 : (IntKind.u8).min = 0 := by decide
  have e2 : (IntKind.u8).max = 255 := by decide
  rw [e1, e2] at h2
  exact h2
theorem byte_in {code : List Int} (h : Bytes code) (i : Int) (h0 : 0 ≤ i) (h1 : i < code.length) : 0 ≤ rd code i ∧ rd code i ≤ 255 := by
  have e : rd code i = code[i.toNat]'(by omega) := by
    simp only [rd, List.getD_eq_getElem?_getD]
    rw [List.getElem?_eq_getElem (by omega)]
    rfl
  rw [e]
  exact h.2 _ (List.getElem_mem _)
theorem next_at {code : List Int} (h : Bytes code) (p n : Int) (hp : 0 ≤ p ∧ p ≤ 1000000) (hn : n ≤ 1000000000) : ∃ v, spec_l1Next.f code p n = some (v, p + 1) ∧ 0 ≤ v ∧ (1 ≤ n → v < n) ∧ (n < 1 → v = 0) := by
  have hl := h.1
  unfold spec_l1Next.f
  have e0 : wrap64 (p + 1) = p + 1 := w64 (by omega) (by omega)
  have e1 : wrap64 (p + 1 - 1) = p := by rw [w64 (by omega) (by omega)]; omega
  have e2 : wrap64 (p + 2) = p + 2 := w64 (by omega) (by omega)
  simp only [e0, e1, e2]
  by_cases hn1 : n < 1
  · rw [if_pos hn1]
    exact ⟨0, rfl, by omega, by omega, fun _ => rfl⟩
  rw [if_neg hn1]
  by_cases hz : (code.length : Int) = 0
  · rw [if_pos hz, if_neg (by omega), w64 (x := p * 7) (by omega) (by omega)]
    exact ⟨_, rfl, (tmod_in _ _ (by omega) (by omega)).1, fun _ => (tmod_in _ _ (by omega) (by omega)).2, by omega⟩
  rw [if_neg hz]
  have hL : 0 < (code.length : Int) := by omega
  have j0 := tmod_in p _ hp.1 hL
  have j1 := tmod_in (p + 1) _ (by omega) hL
  have j2 := tmod_in (p + 2) _ (by omega) hL
  have b0 := byte_in h _ j0.1 j0.2
  have b1 := byte_in h _ j1.1 j1.2
  have b2 := byte_in h _ j2.1 j2.2
  have q0 : 0 ≤ Int.tdiv p (code.length : Int) := Int.tdiv_nonneg hp.1 (by omega)
  have q1 : Int.tdiv p (code.length : Int) ≤ p := Int.tdiv_le_self _ hp.1
  generalize Int.tdiv p (code.length : Int) = q at *
  generalize rd code (Int.tmod p (code.length : Int)) = c0 at *
  generalize rd code (Int.tmod (p + 1) (code.length : Int)) = c1 at *
  generalize rd code (Int.tmod (p + 2) (code.length : Int)) = c2 at *
  rw [if_pos j0.1, if_pos j0.2]
  by_cases h2 : n > 200
  · rw [if_pos h2, if_pos j1.1, if_pos j1.2]
    by_cases h6 : n > 60000
    · rw [if_pos h6, if_pos j2.1, if_pos j2.2, if_neg (by omega)]
      simp (disch := omega) only [w64]
      exact ⟨_, rfl, (tmod_in _ _ (by omega) (by omega)).1, fun _ => (tmod_in _ _ (by omega) (by omega)).2, by omega⟩
    · rw [if_neg h6, if_neg (by omega)]
      simp (disch := omega) only [w64]
      exact ⟨_, rfl, (tmod_in _ _ (by omega) (by omega)).1, fun _ => (tmod_in _ _ (by omega) (by omega)).2, by omega⟩
  · rw [if_neg h2, if_neg (by omega), if_neg (by omega)]
    simp (disch := omega) only [w64]
    exact ⟨_, rfl, (tmod_in _ _ (by omega) (by omega)).1, fun _ => (tmod_in _ _ (by omega) (by omega)).2, by omega⟩
theorem lwBig_at (l : List Int) : laws_lwBig.f l = some (decide ((l.length : Int) > 1048576)) := rfl
theorem pick_at {code : List Int} (h : Bytes code) (p : Int) (hp : 0 ≤ p ∧ p ≤ 1000000) (l : List Int) (hl : 0 < l.length) (hm : l.length ≤ 1000000) : ∃ v, spec_l1Pick.f code p l = some (v, p + 1) ∧ v ∈ l := by
  obtain ⟨i, e, h0, h1, _⟩ := next_at h p (l.length : Int) hp (by omega)
  have h2 := h1 (by omega)
  unfold spec_l1Pick.f
  rw [e]
  simp only [Option.bind_some]
  rw [if_pos h0, if_pos h2]
  refine ⟨_, rfl, ?_⟩
  have e : rd l i = l[i.toNat]'(by omega) := by
    simp only [rd, List.getD_eq_getElem?_getD]
    rw [List.getElem?_eq_getElem (by omega)]
    rfl
  rw [e]
  exact List.getElem_mem _
theorem chance_at {code : List Int} (h : Bytes code) (p n : Int) (hp : 0 ≤ p ∧ p ≤ 1000000) (hn : n ≤ 1000000000) : ∃ b, spec_l1Chance.f code p n = some (b, p + 1) := by
  obtain ⟨v, e, _⟩ := next_at h p n hp hn
  unfold spec_l1Chance.f
  rw [e]
  exact ⟨_, rfl⟩
theorem l1Same_at (a b : List Int) (hl : a.length ≤ 1000000000) (k : Nat) (hk : a.length < k) : spec_l1Same.f k a b = some (decide (a = b)) := by
  unfold spec_l1Same.f
  by_cases hn : a.length = b.length
  rotate_left
  · rw [if_neg (by omega), decide_eq_false (fun h => hn (by rw [h]))]
  rw [if_pos (by omega)]
  refine loop_up (fun k (_ : Unit) i => spec_l1Same.l0 k a b i) a.length 0 (fun _ i => decide (a.drop i = b.drop i)) (fun _ _ => True) ?_ ?_ k () 0 0 rfl (Nat.zero_le _) trivial (by omega)
  · intro k _ _ _
    simp only [spec_l1Same.l0]
    rw [if_neg (by omega), List.drop_length, hn, List.drop_length]
    rfl
  · intro k _ i hi _ _ ih
    have hj : i < b.length := by omega
    simp only [spec_l1Same.l0]
    rw [if_pos (by omega), if_pos (by omega), if_pos (by omega), w64 (by omega) (by omega)]
    have hx : rd a (i : Int) = a[i] := by simp only [rd, Int.toNat_natCast, getD_at _ _ _ hi]
    have hy : rd b (i : Int) = b[i] := by simp only [rd, Int.toNat_natCast, getD_at _ _ _ hj]
    rw [hx, hy, drop_cons a i hi, drop_cons b i hj]
    by_cases h : a[i] = b[i]
    · rw [if_pos h, ih () trivial, h]
      exact congrArg some (by simp only [List.cons.injEq, true_and])
    · rw [if_neg h]
      exact congrArg some (decide_eq_false (fun e => h (List.cons.inj e).1)).symm
theorem equalInts_at (a b : List Int) (hl : a.length ≤ 1000000000) (k : Nat) (hk : a.length < k) : slices_Equal_int64_int64.f k a b = some (decide (a = b)) := by
  unfold slices_Equal_int64_int64.f
  by_cases hn : a.length = b.length
  rotate_left
  · rw [if_neg (by omega), decide_eq_false (fun h => hn (by rw [h]))]
  rw [if_pos (by omega)]
  refine loop_up (fun k (_ : Unit) i => slices_Equal_int64_int64.l0 k a b (a.length : Int) i) a.length 0 (fun _ i => decide (a.drop i = b.drop i)) (fun _ _ => True) ?_ ?_ k () 0 0 rfl (Nat.zero_le _) trivial (by omega)
  · intro k _ _ _
    simp only [slices_Equal_int64_int64.l0]
    rw [if_neg (by omega), List.drop_length, hn, List.drop_length]
    rfl
  · intro k _ i hi _ _ ih
    have hj : i < b.length := by omega
    simp only [slices_Equal_int64_int64.l0]
    rw [if_pos (by omega), if_pos (by omega), if_pos (by omega), if_pos (by omega), w64 (by omega) (by omega)]
    have hx : rd a (i : Int) = a[i] := by simp only [rd, Int.toNat_natCast, getD_at _ _ _ hi]
    have hy : rd b (i : Int) = b[i] := by simp only [rd, Int.toNat_natCast, getD_at _ _ _ hj]
    rw [hx, hy, drop_cons a i hi, drop_cons b i hj]
    by_cases h : a[i] = b[i]
    · rw [if_pos h, ih () trivial, h]
      exact congrArg some (by simp only [List.cons.injEq, true_and])
    · rw [if_neg h]
      exact congrArg some (decide_eq_false (fun e => h (List.cons.inj e).1)).symm
def inW (top n : Int) : Bool := decide (0 ≤ n ∧ n ≤ top ∧ ¬ n ≤ top - 16)
def asci : List Int → Bool
  | [] => true
  | [_] => true
  | x :: y :: t => decide (x < y) && asci (y :: t)
def lastv (top : Int) (l : List Int) : Int := if top = -1 then 0 else if l.length = 0 then 8 else if rd l ((l.length : Int) - 1) = top then 0 else 8
def wfv (top : Int) (l : List Int) : Int := if -1 ≤ top ∧ top ≤ 1000000000 then (if l.all (inW top) then (if asci l then lastv top l else 1) else 3) else 3
theorem asci_drop (l : List Int) (i : Nat) (h1 : 1 ≤ i) (h : i < l.length) : asci (l.drop (i - 1)) = (decide (l[i - 1] < l[i]) && asci (l.drop i)) := by
  have e : i - 1 + 1 = i := by omega
  rw [drop_cons l (i - 1) (by omega)]
  simp only [e]
  rw [drop_cons l i h]
  rfl
theorem asci_last (l : List Int) (h : 0 < l.length) : asci (l.drop (l.length - 1)) = true := by
  have e : l.length - 1 + 1 = l.length := by omega
  rw [drop_cons l (l.length - 1) (by omega)]
  simp only [e]
  rw [List.drop_length]
  rfl
theorem spec_WindowFault_l1 (top : Int) (l : List Int) (hl : l.length ≤ 1000000000) (ht : -1 ≤ top) (k : Nat) (hk : l.length + 5 ≤ k) : spec_WindowFault.l1 k 1 top l = some (if asci l then lastv top l else 1) := by
  have eL : wrap64 ((l.length : Int) - 1) = (l.length : Int) - 1 := w64 (by omega) (by omega)
  by_cases h0 : l.length = 0
  · obtain ⟨k, rfl⟩ : ∃ m, k = m + 1 := ⟨k - 1, by omega⟩
    have hn := List.eq_nil_of_length_eq_zero h0
    subst hn
    simp only [spec_WindowFault.l1, lastv, asci, List.length_nil]
    by_cases h : top = -1
    · simp [h]
    · have h2 : top ≥ 0 := by omega
      simp [h, h2]
  refine loop_up (fun k (_ : Unit) i => spec_WindowFault.l1 k i top l) l.length 0 (fun _ i => if asci (l.drop (i - 1)) then lastv top l else 1) (fun _ i => 1 ≤ i) ?_ ?_ k () 1 1 rfl (by omega) (by omega) (by omega)
  · intro k _ _ _
    simp only [spec_WindowFault.l1, eL]
    rw [if_neg (by omega), asci_last l (by omega), if_pos rfl]
    unfold lastv
    by_cases h : top = -1
    · rw [if_neg (by omega), if_pos h]
    · rw [if_pos (by omega), if_neg h, if_neg (by omega), if_neg h0, if_pos (by omega), if_pos (by omega)]
      by_cases h2 : rd l ((l.length : Int) - 1) = top
      · rw [if_pos h2, if_pos h2]
      · rw [if_neg h2, if_neg h2]
  · intro k _ i hi h1 _ ih
    have e1 : wrap64 ((i : Int) - 1) = ((i - 1 : Nat) : Int) := by rw [w64 (by omega) (by omega)]; omega
    have e2 : wrap64 ((i : Int) + 1) = (i : Int) + 1 := w64 (by omega) (by omega)
    have hx : rd l ((i - 1 : Nat) : Int) = l[i - 1] := by simp only [rd, Int.toNat_natCast, getD_at _ _ _ (show i - 1 < l.length by omega)]
    have hy : rd l (i : Int) = l[i] := by simp only [rd, Int.toNat_natCast, getD_at _ _ _ hi]
    simp only [spec_WindowFault.l1, e1, e2]
    rw [if_pos (by omega), if_pos (by omega), if_pos (by omega), if_pos (by omega), hx, hy, asci_drop l i h1 hi]
    by_cases h : l[i] ≤ l[i - 1]
    · rw [if_pos h, decide_eq_false (by omega), Bool.false_and]
      rfl
    · rw [if_neg h, decide_eq_true (by omega), Bool.true_and]
      exact ih () (by omega)
theorem impl_WindowFault_l1 (top : Int) (l : List Int) (hl : l.length ≤ 1000000000) (ht : -1 ≤ top) (k : Nat) (hk : l.length + 5 ≤ k) : impl_WindowFault.l1 k 1 top l = some (if asci l then lastv top l else 1) := by
  have eL : wrap64 ((l.length : Int) - 1) = (l.length : Int) - 1 := w64 (by omega) (by omega)
  by_cases h0 : l.length = 0
  · obtain ⟨k, rfl⟩ : ∃ m, k = m + 1 := ⟨k - 1, by omega⟩
    have hn := List.eq_nil_of_length_eq_zero h0
    subst hn
    simp only [impl_WindowFault.l1, lastv, asci, List.length_nil]
    by_cases h : top = -1
    · simp [h]
    · simp [h]
  refine loop_up (fun k (_ : Unit) i => impl_WindowFault.l1 k i top l) l.length 0 (fun _ i => if asci (l.drop (i - 1)) then lastv top l else 1) (fun _ i => 1 ≤ i) ?_ ?_ k () 1 1 rfl (by omega) (by omega) (by omega)
  · intro k _ _ _
    simp only [impl_WindowFault.l1, eL]
    rw [if_neg (by omega), asci_last l (by omega), if_pos rfl]
    unfold lastv
    by_cases h : top = -1
    · rw [if_pos h, if_pos h]
    · rw [if_neg h, if_neg h, if_neg (by omega), if_neg h0, if_pos (by omega), if_pos (by omega)]
      by_cases h2 : rd l ((l.length : Int) - 1) = top
      · rw [if_pos h2, if_pos h2]
      · rw [if_neg h2, if_neg h2]
  · intro k _ i hi h1 _ ih
    have e1 : wrap64 ((i : Int) - 1) = ((i - 1 : Nat) : Int) := by rw [w64 (by omega) (by omega)]; omega
    have e2 : wrap64 ((i : Int) + 1) = (i : Int) + 1 := w64 (by omega) (by omega)
    have hx : rd l ((i - 1 : Nat) : Int) = l[i - 1] := by simp only [rd, Int.toNat_natCast, getD_at _ _ _ (show i - 1 < l.length by omega)]
    have hy : rd l (i : Int) = l[i] := by simp only [rd, Int.toNat_natCast, getD_at _ _ _ hi]
    simp only [impl_WindowFault.l1, e1, e2]
    rw [if_pos (by omega), if_pos (by omega), if_pos (by omega), if_pos (by omega), hx, hy, asci_drop l i h1 hi]
    by_cases h : l[i - 1] ≥ l[i]
    · rw [if_pos h, decide_eq_false (by omega), Bool.false_and]
      rfl
    · rw [if_neg h, decide_eq_true (by omega), Bool.true_and]
      exact ih () (by omega)
theorem spec_WindowFault_at (top : Int) (l : List Int) (hl : l.length ≤ 1000000000) (k : Nat) (hk : 2 * l.length + 20 ≤ k) : spec_WindowFault.f k top l = some (wfv top l) := by
  simp only [spec_WindowFault.f, spec_in_at, Option.bind_some, decide_eq_true_eq]
  unfold wfv
  by_cases ht : -1 ≤ top ∧ top ≤ 1000000000
  rotate_left
  · rw [if_neg ht, if_neg ht]
  rw [if_pos ht, if_pos ht]
  have e16 : wrap64 (top - 16) = top - 16 := w64 (by omega) (by omega)
  refine loop_up (fun k (_ : Unit) i => spec_WindowFault.l0 k i top l) l.length (l.length + 5) (fun _ i => if (l.drop i).all (inW top) then (if asci l then lastv top l else 1) else 3) (fun _ i => True) ?_ ?_ k () 0 0 rfl (by omega) trivial (by omega)
  · intro k _ _ hm
    simp only [spec_WindowFault.l0]
    rw [if_neg (by omega), spec_WindowFault_l1 top l hl ht.1 k (by omega), List.drop_length]
    rfl
  · intro k _ i hi _ _ ih
    have e2 : wrap64 ((i : Int) + 1) = (i : Int) + 1 := w64 (by omega) (by omega)
    have hy : rd l (i : Int) = l[i] := by simp only [rd, Int.toNat_natCast, getD_at _ _ _ hi]
    simp only [spec_WindowFault.l0, e2, e16, spec_in_at, Option.bind_some, decide_eq_true_eq]
    rw [if_pos (by omega), if_pos (by omega), hy, drop_cons l i hi, List.all_cons]
    by_cases h : 0 ≤ l[i] ∧ l[i] ≤ top
    · rw [if_pos h]
      by_cases h2 : l[i] ≤ top - 16
      · have h3 : inW top l[i] = false := decide_eq_false (by omega)
        rw [if_pos h2, h3, Bool.false_and]
        rfl
      · have h3 : inW top l[i] = true := decide_eq_true (by omega)
        rw [if_neg h2, h3, Bool.true_and]
        exact ih () trivial
    · have h3 : inW top l[i] = false := decide_eq_false (by omega)
      rw [if_neg h, h3, Bool.false_and]
      rfl
theorem impl_WindowFault_at (top : Int) (l : List Int) (hl : l.length ≤ 1000000000) (k : Nat) (hk : 2 * l.length + 20 ≤ k) : impl_WindowFault.f k top l = some (wfv top l) := by
  simp only [impl_WindowFault.f, impl_in_at, Option.bind_some, decide_eq_true_eq]
  unfold wfv
  by_cases ht : -1 ≤ top ∧ top ≤ 1000000000
  rotate_left
  · rw [if_neg ht, if_neg ht]
  rw [if_pos ht, if_pos ht]
  have e16 : wrap64 (top - 16) = top - 16 := w64 (by omega) (by omega)
  refine loop_up (fun k (_ : Unit) i => impl_WindowFault.l0 k l (l.length : Int) i top l) l.length (l.length + 5) (fun _ i => if (l.drop i).all (inW top) then (if asci l then lastv top l else 1) else 3) (fun _ i => True) ?_ ?_ k () 0 0 rfl (by omega) trivial (by omega)
  · intro k _ _ hm
    simp only [impl_WindowFault.l0]
    rw [if_neg (by omega), impl_WindowFault_l1 top l hl ht.1 k (by omega), List.drop_length]
    rfl
  · intro k _ i hi _ _ ih
    have e2 : wrap64 ((i : Int) + 1) = (i : Int) + 1 := w64 (by omega) (by omega)
    have hy : rd l (i : Int) = l[i] := by simp only [rd, Int.toNat_natCast, getD_at _ _ _ hi]
    simp only [impl_WindowFault.l0, e2, e16, impl_in_at, Option.bind_some, decide_eq_true_eq]
    rw [if_pos (by omega), if_pos (by omega), if_pos (by omega), hy, drop_cons l i hi, List.all_cons]
    by_cases h : 0 ≤ l[i] ∧ l[i] ≤ top
    · rw [if_pos h]
      by_cases h2 : l[i] ≤ top - 16
      · have h3 : inW top l[i] = false := decide_eq_false (by omega)
        rw [if_pos h2, h3, Bool.false_and]
        rfl
      · have h3 : inW top l[i] = true := decide_eq_true (by omega)
        rw [if_neg h2, h3, Bool.true_and]
        exact ih () trivial
    · have h3 : inW top l[i] = false := decide_eq_false (by omega)
      rw [if_neg h, h3, Bool.false_and]
      rfl
theorem lwNums_at (a b : List Int) (hl : a.length ≤ 1000000000) (k : Nat) (hk : a.length < k) : laws_lwNums.f k a b = some (decide (a = b)) := by
  unfold laws_lwNums.f
  by_cases hn : a.length = b.length
  rotate_left
  · rw [if_neg (by omega), decide_eq_false (fun h => hn (by rw [h]))]
  rw [if_pos (by omega)]
  refine loop_up (fun k (_ : Unit) i => laws_lwNums.l0 k a b i) a.length 0 (fun _ i => decide (a.drop i = b.drop i)) (fun _ _ => True) ?_ ?_ k () 0 0 rfl (Nat.zero_le _) trivial (by omega)
  · intro k _ _ _
    simp only [laws_lwNums.l0]
    rw [if_neg (by omega), List.drop_length, hn, List.drop_length]
    rfl
  · intro k _ i hi _ _ ih
    have hj : i < b.length := by omega
    simp only [laws_lwNums.l0]
    rw [if_pos (by omega), if_pos (by omega), if_pos (by omega), w64 (by omega) (by omega)]
    have hx : rd a (i : Int) = a[i] := by simp only [rd, Int.toNat_natCast, getD_at _ _ _ hi]
    have hy : rd b (i : Int) = b[i] := by simp only [rd, Int.toNat_natCast, getD_at _ _ _ hj]
    rw [hx, hy, drop_cons a i hi, drop_cons b i hj]
    by_cases h : a[i] = b[i]
    · rw [if_pos h, ih () trivial, h]
      exact congrArg some (by simp only [List.cons.injEq, true_and])
    · rw [if_neg h]
      exact congrArg some (decide_eq_false (fun e => h (List.cons.inj e).1)).symm
def oi (n : Int) : List Int → List Int
  | [] => [n]
  | x :: t => if x > n then n :: x :: t else x :: oi n t
theorem oi_perm (n : Int) (l : List Int) : (oi n l).Perm (n :: l) := by
  induction l with
  | nil => exact List.Perm.refl _
  | cons x t ih =>
    rw [oi]
    split
    · exact List.Perm.refl _
    · exact (List.Perm.cons x ih).trans (List.Perm.swap n x t)
theorem oi_mem (n : Int) (l : List Int) (y : Int) : y ∈ oi n l ↔ y = n ∨ y ∈ l := by
  rw [(oi_perm n l).mem_iff, List.mem_cons]
theorem oi_len (n : Int) (l : List Int) : (oi n l).length = l.length + 1 := by
  rw [(oi_perm n l).length_eq, List.length_cons]
theorem oi_lt (n : Int) (l : List Int) (h : l.Pairwise (· < ·)) (hn : n ∉ l) : (oi n l).Pairwise (· < ·) := by
  induction l with
  | nil => exact List.pairwise_singleton _ _
  | cons x t ih =>
    obtain ⟨h1, h2⟩ := List.pairwise_cons.1 h
    rw [List.mem_cons, not_or] at hn
    rw [oi]
    split
    · rename_i hx
      refine List.pairwise_cons.2 ⟨fun y hy => ?_, h⟩
      rcases List.mem_cons.1 hy with rfl | hy
      · omega
      · have := h1 y hy
        omega
    · rename_i hx
      refine List.pairwise_cons.2 ⟨fun y hy => ?_, ih h2 hn.2⟩
      rcases (oi_mem n t y).1 hy with rfl | hy
      · omega
      · exact h1 y hy
theorem asci_pair : ∀ (l : List Int), asci l = true → l.Pairwise (· < ·)
  | [], _ => List.Pairwise.nil
  | [x], _ => List.pairwise_singleton _ _
  | x :: y :: t, h => by
    have h' : (decide (x < y) && asci (y :: t)) = true := h
    rw [Bool.and_eq_true, decide_eq_true_eq] at h'
    have ih := asci_pair (y :: t) h'.2
    refine List.pairwise_cons.2 ⟨fun z hz => ?_, ih⟩
    rcases List.mem_cons.1 hz with rfl | hz
    · exact h'.1
    · have := (List.pairwise_cons.1 ih).1 z hz
      omega
theorem pair_asci : ∀ (l : List Int), l.Pairwise (· < ·) → asci l = true
  | [], _ => rfl
  | [x], _ => rfl
  | x :: y :: t, h => by
    obtain ⟨h1, h2⟩ := List.pairwise_cons.1 h
    show (decide (x < y) && asci (y :: t)) = true
    rw [Bool.and_eq_true, decide_eq_true_eq]
    exact ⟨h1 y (by simp), pair_asci (y :: t) h2⟩
theorem sort_oi (n : Int) (l : List Int) (h : l.Pairwise (· < ·)) (hn : n ∉ l) : ((l ++ [n]).mergeSort fun x y => decide (x ≤ y)) = oi n l := by
  refine List.Perm.eq_of_pairwise (le := fun a b : Int => a ≤ b) (fun a b _ _ h1 h2 => by omega) ?_ ((oi_lt n l h hn).imp (fun h => by omega)) ?_
  · have := List.pairwise_mergeSort (le := fun x y : Int => decide (x ≤ y)) (fun a b c h1 h2 => by simp only [decide_eq_true_eq] at *; omega) (fun a b => by simp only [Bool.or_eq_true, decide_eq_true_eq]; omega) (l ++ [n])
    exact this.imp (fun h => by simpa using h)
  · exact (List.mergeSort_perm _ _).trans ((List.perm_append_comm (l₁ := l) (l₂ := [n])).trans (oi_perm n l).symm)
def ptop (t x : Int) : Bool := !decide (x ≤ t - 16)
theorem ptop_iff (t x : Int) : ptop t x = true ↔ x > t - 16 := by
  unfold ptop
  simp
theorem l6Take_done (n a0 t : Int) (h0 : -10 ≤ t) (h1 : t ≤ 2000000000) (l : List Int) (hl : l.length ≤ 2000000) (m : Nat) : ∀ (k i : Nat) (s : List Int), l.length - i = m → i ≤ l.length → 2 * m + 2 ≤ k → s.length ≤ i + 10 → spec_l6Take.l0 k n true (i : Int) a0 l t s = some (t, s ++ (l.drop i).filter (ptop t), 0) := by
  induction m with
  | zero =>
    intro k i s hm hi hk hs
    obtain ⟨k, rfl⟩ : ∃ z, k = z + 1 := ⟨k - 1, by omega⟩
    obtain rfl : i = l.length := by omega
    rw [spec_l6Take.l0, if_neg (by omega), if_pos rfl, List.drop_length]
    simp
  | succ m ih =>
    intro k i s hm hi hk hs
    obtain ⟨k, rfl⟩ : ∃ z, k = z + 2 := ⟨k - 2, by omega⟩
    have hlt : i < l.length := by omega
    have hy : rd l (i : Int) = l[i] := by simp only [rd, Int.toNat_natCast, getD_at _ _ _ hlt]
    have e2 : ((i + 1 : Nat) : Int) = (i : Int) + 1 := by omega
    rw [spec_l6Take.l0, if_pos (by omega), if_pos rfl, spec_l6Take.j1, if_neg (by decide), if_pos (by omega), if_pos (by omega), hy, w64 (x := t - 16) (by omega) (by omega), w64 (x := (i : Int) + 1) (by omega) (by omega), ← e2, drop_cons l i hlt, List.filter_cons]
    by_cases hp : l[i] > t - 16
    · rw [if_pos hp, if_pos (by omega), if_pos ((ptop_iff t _).2 hp), ih k (i + 1) _ (by omega) (by omega) (by omega) (by rw [List.length_append, List.length_singleton]; omega), List.append_assoc]
      rfl
    · rw [if_neg hp, if_neg (fun h => hp ((ptop_iff t _).1 h)), ih k (i + 1) _ (by omega) (by omega) (by omega) (by omega)]
theorem l6Take_new (n a0 t : Int) (h0 : -10 ≤ t) (h1 : t ≤ 2000000000) (hn : ptop t n = true) (l : List Int) (hl : l.length ≤ 2000000) (m : Nat) : ∀ (k i : Nat) (s : List Int), l.length - i = m → i ≤ l.length → 2 * m + 2 ≤ k → s.length ≤ i → spec_l6Take.l0 k n false (i : Int) a0 l t s = some (t, s ++ (oi n (l.drop i)).filter (ptop t), 0) := by
  induction m with
  | zero =>
    intro k i s hm hi hk hs
    obtain ⟨k, rfl⟩ : ∃ z, k = z + 1 := ⟨k - 1, by omega⟩
    obtain rfl : i = l.length := by omega
    rw [spec_l6Take.l0, if_neg (by omega), if_neg (by decide), if_pos (by omega), List.drop_length]
    simp [oi, hn]
  | succ m ih =>
    intro k i s hm hi hk hs
    obtain ⟨k, rfl⟩ : ∃ z, k = z + 2 := ⟨k - 2, by omega⟩
    have hlt : i < l.length := by omega
    have hy : rd l (i : Int) = l[i] := by simp only [rd, Int.toNat_natCast, getD_at _ _ _ hlt]
    have e2 : ((i + 1 : Nat) : Int) = (i : Int) + 1 := by omega
    rw [spec_l6Take.l0, if_pos (by omega), if_neg (by decide), if_pos (by omega), hy, drop_cons l i hlt, oi]
    by_cases hx : l[i] > n
    · rw [decide_eq_true hx, if_pos hx, spec_l6Take.j1, if_pos rfl, if_pos (by omega)]
      simp only [Option.bind_some]
      rw [if_pos (by omega), if_pos (by omega), hy, w64 (x := t - 16) (by omega) (by omega), w64 (x := (i : Int) + 1) (by omega) (by omega), ← e2, List.filter_cons, if_pos hn, List.filter_cons]
      by_cases hp : l[i] > t - 16
      · rw [if_pos hp, if_pos (by rw [List.length_append, List.length_singleton]; omega), if_pos ((ptop_iff t _).2 hp), l6Take_done n a0 t h0 h1 l hl _ k (i + 1) _ rfl (by omega) (by omega) (by simp; omega)]
        simp
      · rw [if_neg hp, if_neg (fun h => hp ((ptop_iff t _).1 h)), l6Take_done n a0 t h0 h1 l hl _ k (i + 1) _ rfl (by omega) (by omega) (by simp; omega)]
        simp
    · rw [decide_eq_false hx, if_neg hx, spec_l6Take.j1, if_neg (by decide), if_pos (by omega), if_pos (by omega), hy, w64 (x := t - 16) (by omega) (by omega), w64 (x := (i : Int) + 1) (by omega) (by omega), ← e2, List.filter_cons]
      by_cases hp : l[i] > t - 16
      · rw [if_pos hp, if_pos (by omega), if_pos ((ptop_iff t _).2 hp), ih k (i + 1) _ (by omega) (by omega) (by omega) (by rw [List.length_append, List.length_singleton]; omega), List.append_assoc]
        rfl
      · rw [if_neg hp, if_neg (fun h => hp ((ptop_iff t _).1 h)), ih k (i + 1) _ (by omega) (by omega) (by omega) (by omega)]
theorem l1Has_at (l : List Int) (n : Int) (hl : l.length ≤ 1000000000) (k : Nat) (hk : l.length < k) : spec_l1Has.f k l n = some (decide (n ∈ l)) := by
  unfold spec_l1Has.f
  have key := loop_up (fun k (_ : Unit) i => spec_l1Has.l0 k l n i) l.length 0 (fun _ i => decide (n ∈ l.drop i)) (fun _ _ => True) ?_ ?_ k () 0 0 rfl (Nat.zero_le _) trivial (by omega)
  · exact key
  · intro k _ _ _
    rw [spec_l1Has.l0, if_neg (by omega), List.drop_length]
    rfl
  · intro k _ i hi _ _ ih
    have hy : rd l (i : Int) = l[i] := by simp only [rd, Int.toNat_natCast, getD_at _ _ _ hi]
    rw [spec_l1Has.l0, if_pos (by omega), if_pos (by omega), hy, w64 (by omega) (by omega), ih () trivial, drop_cons l i hi]
    by_cases h : l[i] = n
    · rw [if_pos h, decide_eq_true (by simp [h])]
    · rw [if_neg h]
      congr 1
      rw [decide_eq_decide, List.mem_cons]
      constructor
      · exact .inr
      · rintro (rfl | h2)
        · exact absurd rfl h
        · exact h2
theorem Contains_at (l : List Int) (n : Int) (hl : l.length ≤ 1000000000) (k : Nat) (hk : l.length < k) : slices_Contains_int64_int64.f k l n = some (decide (n ∈ l)) := by
  have key : ∀ (m k i : Nat), l.length - i = m → i ≤ l.length → m < k → ∃ r, slices_Index_int64_int64.l0 k l n (l.length : Int) (i : Int) = some r ∧ (r ≥ 0 ↔ n ∈ l.drop i) := by
    intro m
    induction m with
    | zero =>
      intro k i hm hi hk
      obtain ⟨k, rfl⟩ : ∃ z, k = z + 1 := ⟨k - 1, by omega⟩
      obtain rfl : i = l.length := by omega
      refine ⟨-1, by rw [slices_Index_int64_int64.l0, if_neg (by omega)], ?_⟩
      rw [List.drop_length]
      simp
    | succ m ih =>
      intro k i hm hi hk
      obtain ⟨k, rfl⟩ : ∃ z, k = z + 1 := ⟨k - 1, by omega⟩
      have hlt : i < l.length := by omega
      have hy : rd l (i : Int) = l[i] := by simp only [rd, Int.toNat_natCast, getD_at _ _ _ hlt]
      have e2 : ((i + 1 : Nat) : Int) = (i : Int) + 1 := by omega
      rw [slices_Index_int64_int64.l0, if_pos (by omega), if_pos (by omega), if_pos (by omega), hy, w64 (by omega) (by omega), ← e2, drop_cons l i hlt]
      by_cases h : n = l[i]
      · rw [if_pos h]
        exact ⟨i, rfl, fun _ => List.mem_cons.2 (.inl h), fun _ => by omega⟩
      · rw [if_neg h]
        obtain ⟨r, e, hr⟩ := ih k (i + 1) (by omega) (by omega) (by omega)
        refine ⟨r, e, hr.trans ?_⟩
        rw [List.mem_cons]
        exact ⟨.inr, fun h2 => h2.resolve_left h⟩
  unfold slices_Contains_int64_int64.f slices_Index_int64_int64.f
  obtain ⟨r, e, hr⟩ := key _ k 0 rfl (by omega) (by omega)
  rw [show ((0 : Nat) : Int) = 0 from rfl] at e
  rw [e, Option.bind_some, List.drop_zero] at *
  rw [decide_eq_decide.2 hr]
def mxv (a b : Int) : Int := if a < b then b else a
def tkv (top : Int) (l : List Int) (n : Int) : Int × Int × List Int := if ¬ (0 ≤ n ∧ n ≤ 1000000000) then (3, 0, []) else if n ∈ l then (6, 0, []) else if n ≤ top - 16 then (8, 0, []) else (0, mxv top n, (oi n l).filter (ptop (mxv top n)))
theorem wfv_ok {top : Int} {l : List Int} (h : wfv top l = 0) : -1 ≤ top ∧ top ≤ 1000000000 ∧ l.all (inW top) = true ∧ asci l = true ∧ lastv top l = 0 := by
  unfold wfv at h
  split at h
  · rename_i h1
    split at h
    · rename_i h2
      split at h
      · rename_i h3
        exact ⟨h1.1, h1.2, h2, h3, h⟩
      · omega
    · omega
  · omega
theorem l6Take_at (top : Int) (l : List Int) (n : Int) (hl : l.length ≤ 2000000) (h0 : -1 ≤ top) (h1 : top ≤ 1000000000) (k : Nat) (hk : 2 * l.length + 20 ≤ k) : spec_l6Take.f k top l n = some ((tkv top l n).2.1, (tkv top l n).2.2, (tkv top l n).1) := by
  unfold spec_l6Take.f tkv
  rw [spec_in_at]
  simp only [Option.bind_some, decide_eq_true_eq]
  by_cases hr : 0 ≤ n ∧ n ≤ 1000000000
  rotate_left
  · rw [if_neg hr, if_pos hr]
  rw [if_pos hr, if_neg (show ¬ ¬ (0 ≤ n ∧ n ≤ 1000000000) from fun h => h hr), l1Has_at l n (by omega) k (by omega)]
  simp only [Option.bind_some, decide_eq_true_eq]
  by_cases hm : n ∈ l
  · rw [if_pos hm, if_pos hm]
  rw [if_neg hm, if_neg hm, w64 (by omega) (by omega)]
  by_cases hb : n ≤ top - 16
  · rw [if_pos hb, if_pos hb]
  rw [if_neg hb, if_neg hb]
  have e : spec_l1Max.f top n = some (mxv top n) := by
    unfold spec_l1Max.f mxv
    by_cases h : top > n
    · rw [if_pos h, if_neg (by omega)]
    · rw [if_neg h]
      by_cases h2 : top < n
      · rw [if_pos h2]
      · rw [if_neg h2, show top = n by omega]
  have hmx : mxv top n = top ∧ n ≤ top ∨ mxv top n = n ∧ top < n := by
    unfold mxv
    split <;> omega
  rw [e, Option.bind_some]
  have key := l6Take_new n top (mxv top n) (by omega) (by omega) ((ptop_iff _ _).2 (by omega)) l hl _ k 0 [] rfl (by omega) (by omega) (by simp)
  rw [show ((0 : Nat) : Int) = 0 from rfl] at key
  rw [key, List.drop_zero, List.nil_append]
theorem tkv_len (top : Int) (l : List Int) (n : Int) : (tkv top l n).2.2.length ≤ l.length + 1 := by
  unfold tkv
  split
  · simp
  · split
    · simp
    · split
      · simp
      · have := List.length_filter_le (ptop (mxv top n)) (oi n l)
        rw [oi_len] at this
        exact this
theorem last_top (l : List Int) (h : l.Pairwise (· < ·)) (t : Int) (ht : t ∈ l) (ha : ∀ x ∈ l, x ≤ t) : rd l ((l.length : Int) - 1) = t := by
  have hp : 0 < l.length := List.length_pos_of_mem ht
  have e : rd l ((l.length : Int) - 1) = l[l.length - 1] := by
    rw [show (l.length : Int) - 1 = ((l.length - 1 : Nat) : Int) by omega]
    simp only [rd, Int.toNat_natCast, getD_at _ _ _ (show l.length - 1 < l.length by omega)]
  rw [e]
  have h1 := ha _ (List.getElem_mem (show l.length - 1 < l.length by omega))
  obtain ⟨i, hi, rfl⟩ := List.getElem_of_mem ht
  rcases Nat.lt_or_ge i (l.length - 1) with h2 | h2
  · have := List.pairwise_iff_getElem.1 h i (l.length - 1) hi (by omega) h2
    omega
  · have : i = l.length - 1 := by omega
    subst this
    rfl
theorem tkv_ok {top : Int} {l : List Int} {n : Int} (h : wfv top l = 0) (hc : (tkv top l n).1 = 0) : wfv (tkv top l n).2.1 (tkv top l n).2.2 = 0 := by
  obtain ⟨w1, w2, w3, w4, w5⟩ := wfv_ok h
  unfold tkv at hc ⊢
  split at hc
  · simp at hc
  rename_i hr
  have hr' : 0 ≤ n ∧ n ≤ 1000000000 := Classical.not_not.1 hr
  split at hc
  · simp at hc
  rename_i hm
  split at hc
  · simp at hc
  rename_i hb
  rw [if_neg hr, if_neg hm, if_neg hb]
  show wfv (mxv top n) ((oi n l).filter (ptop (mxv top n))) = 0
  have hmx : mxv top n = top ∧ n ≤ top ∨ mxv top n = n ∧ top < n := by
    unfold mxv
    split <;> omega
  have hw : ∀ x ∈ l, 0 ≤ x ∧ x ≤ top ∧ ¬ x ≤ top - 16 := fun x hx => by
    have := List.all_eq_true.1 w3 x hx
    unfold inW at this
    simpa using this
  have hpl := oi_lt n l (asci_pair l w4) hm
  have hpf := hpl.filter (ptop (mxv top n))
  have hin : ∀ x ∈ (oi n l).filter (ptop (mxv top n)), 0 ≤ x ∧ x ≤ mxv top n ∧ x > mxv top n - 16 := fun x hx => by
    obtain ⟨hx1, hx2⟩ := List.mem_filter.1 hx
    have hx3 := (ptop_iff _ _).1 hx2
    rcases (oi_mem n l x).1 hx1 with rfl | hx4
    · omega
    · have := hw x hx4
      omega
  have htop : mxv top n ∈ (oi n l).filter (ptop (mxv top n)) := by
    refine List.mem_filter.2 ⟨(oi_mem n l _).2 ?_, (ptop_iff _ _).2 (by omega)⟩
    rcases hmx with ⟨e, h2⟩ | ⟨e, h2⟩
    · rw [e]
      unfold lastv at w5
      split at w5
      · omega
      · split at w5
        · omega
        · rename_i hlen
          split at w5
          · rename_i hlast
            refine .inr ?_
            rw [← hlast, show (l.length : Int) - 1 = ((l.length - 1 : Nat) : Int) by omega]
            simp only [rd, Int.toNat_natCast, getD_at _ _ _ (show l.length - 1 < l.length by omega)]
            exact List.getElem_mem _
          · omega
    · exact .inl e
  have hlen : 0 < ((oi n l).filter (ptop (mxv top n))).length := List.length_pos_of_mem htop
  have hall : ((oi n l).filter (ptop (mxv top n))).all (inW (mxv top n)) = true := List.all_eq_true.2 fun x hx => by
    have := hin x hx
    unfold inW
    simp only [decide_eq_true_eq]
    omega
  unfold wfv
  rw [if_pos (by omega), if_pos hall, if_pos (pair_asci _ hpf)]
  unfold lastv
  rw [if_neg (by omega), if_neg (by omega), if_pos (last_top _ hpf _ htop (fun x hx => (hin x hx).2.1))]
def twv (top : Int) (l : List Int) (n : Int) : Int × Int × List Int := if wfv top l = 0 then tkv top l n else (wfv top l, 0, [])
theorem twv_len (top : Int) (l : List Int) (n : Int) : (twv top l n).2.2.length ≤ l.length + 1 := by
  unfold twv
  split
  · exact tkv_len top l n
  · simp
theorem impl_TakeCounter_at (top : Int) (l : List Int) (n : Int) (hl : l.length ≤ 2000000) (k : Nat) (hk : 2 * l.length + 30 ≤ k) : impl_TakeCounter.f k top l n = some (twv top l n) := by
  obtain ⟨k, rfl⟩ : ∃ z, k = z + 1 := ⟨k - 1, by omega⟩
  unfold impl_TakeCounter.f twv
  rw [impl_WindowFault_at top l (by omega) _ (by omega)]
  simp only [Option.bind_some]
  by_cases h : wfv top l = 0
  rotate_left
  · rw [if_neg h, if_neg h, impl_TakeCounter.j0, if_neg h]
  obtain ⟨w1, w2, w3, w4, w5⟩ := wfv_ok h
  rw [if_pos h, if_pos h, impl_in_at]
  simp only [Option.bind_some, decide_eq_true_eq]
  unfold tkv
  by_cases hr : 0 ≤ n ∧ n ≤ 1000000000
  rotate_left
  · rw [if_neg hr, if_pos hr, impl_TakeCounter.j0, if_neg (by decide)]
  rw [if_pos hr, if_neg (show ¬ ¬ (0 ≤ n ∧ n ≤ 1000000000) from fun h => h hr), Contains_at l n (by omega) _ (by omega)]
  simp only [Option.bind_some, decide_eq_true_eq]
  by_cases hm : n ∈ l
  · rw [if_pos hm, if_pos hm, impl_TakeCounter.j0, if_neg (by decide)]
  rw [if_neg hm, if_neg hm, w64 (by omega) (by omega)]
  by_cases hb : n ≤ top - 16
  · rw [if_pos hb, if_pos hb, impl_TakeCounter.j0, if_neg (by decide)]
  rw [if_neg hb, if_neg hb, h, impl_TakeCounter.j0, if_pos rfl]
  unfold slices_Clone_int64_int64.f slices_Sort_int64_int64.f slices_DeleteFunc_int64_int64.f
  rw [if_pos (by omega)]
  simp only [Option.bind_some]
  have hmx : mxv top n = top ∧ n ≤ top ∨ mxv top n = n ∧ top < n := by
    unfold mxv
    split <;> omega
  have emx : mx top n = mxv top n := rfl
  rw [if_pos (by simp; omega), if_pos (by simp), if_pos (by simp; omega), sort_oi n l (asci_pair l w4) hm]
  simp only [Option.bind_some]
  rw [if_pos (by rw [oi_len]; omega), if_pos (by rw [oi_len]; omega), emx, w64 (by omega) (by omega)]
  rfl
theorem spec_TakeCounter_at (top : Int) (l : List Int) (n : Int) (hl : l.length ≤ 2000000) (k : Nat) (hk : 2 * l.length + 30 ≤ k) : spec_TakeCounter.f k top l n = some (twv top l n) := by
  unfold spec_TakeCounter.f twv
  rw [spec_WindowFault_at top l (by omega) _ (by omega)]
  simp only [Option.bind_some]
  by_cases h : wfv top l = 0
  · obtain ⟨w1, w2, _⟩ := wfv_ok h
    rw [if_pos h, if_pos h, l6Take_at top l n hl w1 w2 k (by omega)]
    rfl
  · rw [if_neg h, if_neg h]
def taf : List Int → Int → Int → List Int → List Int → List Int
  | [], _, _, _, s => s
  | n :: t, j, top, l, s => if (tkv top l n).1 = 0 then taf t (j + 1) (tkv top l n).2.1 (tkv top l n).2.2 (s ++ [j]) else taf t (j + 1) top l s
theorem taf_len : ∀ (ns : List Int) (j top : Int) (l s : List Int), (taf ns j top l s).length ≤ s.length + ns.length
  | [], _, _, _, _ => Nat.le_refl _
  | n :: t, j, top, l, s => by
    rw [taf, List.length_cons]
    split
    · have := taf_len t (j + 1) (tkv top l n).2.1 (tkv top l n).2.2 (s ++ [j])
      rw [List.length_append, List.length_singleton] at this
      omega
    · have := taf_len t (j + 1) top l s
      omega
def tav (top : Int) (l ns : List Int) : Int × List Int := if wfv top l = 0 then (if ns.length > 200 then (2, []) else (0, taf ns 0 top l [])) else (wfv top l, [])
theorem tav_len (top : Int) (l ns : List Int) : (tav top l ns).2.length ≤ 200 := by
  unfold tav
  split
  · split
    · simp
    · have := taf_len ns 0 top l []
      show (taf ns 0 top l []).length ≤ 200
      simp at this
      omega
  · simp
theorem spec_TakeAll_l0 (ns : List Int) (hn : ns.length ≤ 1000) (c : Int) (m : Nat) : ∀ (k i : Nat) (top : Int) (l s : List Int), ns.length - i = m → i ≤ ns.length → wfv top l = 0 → l.length + m ≤ 1500000 → s.length ≤ i → m + 3000100 ≤ k → spec_TakeAll.l0 k ns (i : Int) c s top l = some (c, taf (ns.drop i) (i : Int) top l s) := by
  induction m with
  | zero =>
    intro k i top l s hm hi hw hl hs hk
    obtain ⟨k, rfl⟩ : ∃ z, k = z + 1 := ⟨k - 1, by omega⟩
    obtain rfl : i = ns.length := by omega
    rw [spec_TakeAll.l0, if_neg (by omega), List.drop_length]
    rfl
  | succ m ih =>
    intro k i top l s hm hi hw hl hs hk
    obtain ⟨k, rfl⟩ : ∃ z, k = z + 1 := ⟨k - 1, by omega⟩
    have hlt : i < ns.length := by omega
    have hy : rd ns (i : Int) = ns[i] := by simp only [rd, Int.toNat_natCast, getD_at _ _ _ hlt]
    have e2 : ((i + 1 : Nat) : Int) = (i : Int) + 1 := by omega
    obtain ⟨w1, w2, _⟩ := wfv_ok hw
    rw [spec_TakeAll.l0, if_pos (by omega), if_pos (by omega), hy, l6Take_at top l ns[i] (by omega) w1 w2 k (by omega), w64 (x := (i : Int) + 1) (by omega) (by omega), drop_cons ns i hlt, taf, ← e2]
    simp only [Option.bind_some]
    by_cases hc : (tkv top l ns[i]).1 = 0
    · have := tkv_len top l ns[i]
      rw [if_pos hc, if_pos hc, if_pos (by omega), ih k (i + 1) _ _ _ (by omega) (by omega) (tkv_ok hw hc) (by omega) (by rw [List.length_append, List.length_singleton]; omega) (by omega)]
    · rw [if_neg hc, if_neg hc, ih k (i + 1) _ _ _ (by omega) (by omega) hw (by omega) (by omega) (by omega)]
theorem impl_TakeAll_l0 (ns : List Int) (hn : ns.length ≤ 1000) (c : Int) (m : Nat) : ∀ (k i : Nat) (top : Int) (l s : List Int), ns.length - i = m → i ≤ ns.length → wfv top l = 0 → l.length + m ≤ 1500000 → s.length ≤ i → m + 3000100 ≤ k → impl_TakeAll.l0 k ns (ns.length : Int) (i : Int) top l c s = some (c, taf (ns.drop i) (i : Int) top l s) := by
  induction m with
  | zero =>
    intro k i top l s hm hi hw hl hs hk
    obtain ⟨k, rfl⟩ : ∃ z, k = z + 1 := ⟨k - 1, by omega⟩
    obtain rfl : i = ns.length := by omega
    rw [impl_TakeAll.l0, if_neg (by omega), List.drop_length]
    rfl
  | succ m ih =>
    intro k i top l s hm hi hw hl hs hk
    obtain ⟨k, rfl⟩ : ∃ z, k = z + 1 := ⟨k - 1, by omega⟩
    have hlt : i < ns.length := by omega
    have hy : rd ns (i : Int) = ns[i] := by simp only [rd, Int.toNat_natCast, getD_at _ _ _ hlt]
    have e2 : ((i + 1 : Nat) : Int) = (i : Int) + 1 := by omega
    have et : twv top l ns[i] = tkv top l ns[i] := by
      unfold twv
      rw [if_pos hw]
    rw [impl_TakeAll.l0, if_pos (by omega), if_pos (by omega), if_pos (by omega), hy, impl_TakeCounter_at top l ns[i] (by omega) k (by omega), et, w64 (x := (i : Int) + 1) (by omega) (by omega), drop_cons ns i hlt, taf, ← e2]
    simp only [Option.bind_some]
    by_cases hc : (tkv top l ns[i]).1 = 0
    · have := tkv_len top l ns[i]
      rw [if_pos hc, if_pos hc, if_pos (by omega), ih k (i + 1) _ _ _ (by omega) (by omega) (tkv_ok hw hc) (by omega) (by rw [List.length_append, List.length_singleton]; omega) (by omega)]
    · rw [if_neg hc, if_neg hc, ih k (i + 1) _ _ _ (by omega) (by omega) hw (by omega) (by omega) (by omega)]
theorem spec_TakeAll_at (top : Int) (l ns : List Int) (hl : l.length ≤ 1400000) (k : Nat) (hk : 4000000 ≤ k) : spec_TakeAll.f k top l ns = some (tav top l ns) := by
  unfold spec_TakeAll.f tav
  rw [spec_WindowFault_at top l (by omega) _ (by omega)]
  simp only [Option.bind_some]
  by_cases h : wfv top l = 0
  · rw [if_pos h, if_pos h]
    by_cases h2 : ns.length > 200
    · rw [if_pos (by omega), if_pos h2]
    · have e := spec_TakeAll_l0 ns (by omega) 0 _ k 0 top l [] rfl (by omega) h (by omega) (by simp) (by omega)
      rw [show ((0 : Nat) : Int) = 0 from rfl] at e
      rw [if_neg (by omega), if_neg h2, e, List.drop_zero]
  · rw [if_neg h, if_neg h]
theorem impl_TakeAll_at (top : Int) (l ns : List Int) (hl : l.length ≤ 1400000) (k : Nat) (hk : 4000000 ≤ k) : impl_TakeAll.f k top l ns = some (tav top l ns) := by
  unfold impl_TakeAll.f tav
  rw [impl_WindowFault_at top l (by omega) _ (by omega)]
  simp only [Option.bind_some]
  by_cases h : wfv top l = 0
  · rw [if_pos h, if_pos h]
    by_cases h2 : ns.length > 200
    · rw [if_pos (by omega), if_pos h2]
    · have e := impl_TakeAll_l0 ns (by omega) 0 _ k 0 top l [] rfl (by omega) h (by omega) (by simp) (by omega)
      rw [show ((0 : Nat) : Int) = 0 from rfl] at e
      rw [if_neg (by omega), if_neg h2, e, List.drop_zero]
  · rw [if_neg h, if_neg h]
theorem tkv_zero {top : Int} {l : List Int} {n : Int} (hc : (tkv top l n).1 = 0) : (0 ≤ n ∧ n ≤ 1000000000) ∧ n ∉ l ∧ ¬ n ≤ top - 16 ∧ tkv top l n = (0, mxv top n, (oi n l).filter (ptop (mxv top n))) := by
  unfold tkv at hc ⊢
  split at hc
  · simp at hc
  rename_i hr
  split at hc
  · simp at hc
  rename_i hm
  split at hc
  · simp at hc
  rename_i hb
  refine ⟨Classical.not_not.1 hr, hm, hb, ?_⟩
  rw [if_neg hr, if_neg hm, if_neg hb]
theorem mxv_or (top n : Int) : mxv top n = top ∧ n ≤ top ∨ mxv top n = n ∧ top < n := by
  unfold mxv
  split <;> omega
theorem l6Draw_l0 {code : List Int} (h : Bytes code) (b : Int) (hb0 : 0 ≤ b) (hb1 : b ≤ 1000) (d : Nat) : ∀ (k : Nat) (i p top : Int) (l : List Int), i = d → d + 300 ≤ k → -1 ≤ top → top ≤ 1000000000 → l.length + d ≤ 20 → 0 ≤ p → p + 10 * d ≤ 900000 →
    ∃ t' l' p', spec_l6Draw.l0 k b i code p top l = some (t', l', p') ∧ l'.length ≤ 20 ∧ p ≤ p' ∧ p' ≤ p + 10 * d := by
  induction d with
  | zero =>
    intro k i p top l hi hk ht0 ht1 hl hp hp2
    obtain ⟨k, rfl⟩ : ∃ z, k = z + 1 := ⟨k - 1, by omega⟩
    rw [spec_l6Draw.l0, if_neg (by omega)]
    exact ⟨_, _, _, rfl, by omega, by omega, by omega⟩
  | succ d ih =>
    intro k i p top l hi hk ht0 ht1 hl hp hp2
    obtain ⟨k, rfl⟩ : ∃ z, k = z + 1 := ⟨k - 1, by omega⟩
    obtain ⟨v, e1, hv0, hv1, _⟩ := next_at h p 24 ⟨hp, by omega⟩ (by omega)
    have hv := hv1 (by omega)
    rw [spec_l6Draw.l0, if_pos (by omega), e1]
    simp only [Option.bind_some]
    rw [w64 (by omega) (by omega), l6Take_at top l (b + v) (by omega) ht0 ht1 k (by omega)]
    simp only [Option.bind_some]
    have ei : wrap64 (i - 1) = (d : Int) := by rw [w64 (by omega) (by omega)]; omega
    rw [ei]
    by_cases hc : (tkv top l (b + v)).1 = 0
    · obtain ⟨hr, _, _, he⟩ := tkv_zero hc
      have hx := mxv_or top (b + v)
      have hlen := tkv_len top l (b + v)
      rw [if_pos hc]
      have e2 : (tkv top l (b + v)).2.1 = mxv top (b + v) := by rw [he]
      obtain ⟨t', l', p', e, a1, a2, a3⟩ := ih k d (p + 1) (tkv top l (b + v)).2.1 (tkv top l (b + v)).2.2 rfl (by omega) (by omega) (by omega) (by omega) (by omega) (by omega)
      exact ⟨t', l', p', e, a1, by omega, by omega⟩
    · rw [if_neg hc]
      obtain ⟨t', l', p', e, a1, a2, a3⟩ := ih k d (p + 1) top l rfl (by omega) ht0 ht1 (by omega) (by omega) (by omega)
      exact ⟨t', l', p', e, a1, by omega, by omega⟩
theorem l6Draw_at {code : List Int} (h : Bytes code) (k : Nat) (hk : 400 ≤ k) (p : Int) (hp : 0 ≤ p) (hp2 : p ≤ 800000) : ∃ t l p', spec_l6Draw.f k code p = some (t, l, p') ∧ l.length ≤ 20 ∧ p ≤ p' ∧ p' ≤ p + 100 := by
  unfold spec_l6Draw.f spec_NewWindow.f
  simp only [Option.bind_some]
  obtain ⟨b, e1, hb⟩ := pick_at h p ⟨hp, by omega⟩ [0, 0, 5, 900] (by simp) (by simp)
  have hb' : 0 ≤ b ∧ b ≤ 1000 := by
    simp only [List.mem_cons, List.not_mem_nil, or_false] at hb
    omega
  rw [e1]
  simp only [Option.bind_some]
  obtain ⟨v, e2, hv0, hv1, _⟩ := next_at h (p + 1) 9 ⟨by omega, by omega⟩ (by omega)
  have hv := hv1 (by omega)
  rw [e2]
  simp only [Option.bind_some]
  obtain ⟨t', l', p', e, a1, a2, a3⟩ := l6Draw_l0 h b hb'.1 hb'.2 v.toNat k v (p + 1 + 1) (-1) [] (by omega) (by omega) (by omega) (by omega) (by simp; omega) (by omega) (by omega)
  exact ⟨t', l', p', e, a1, by omega, by omega⟩
theorem l6Bent_at {code : List Int} (h : Bytes code) (k : Nat) (hk : 400 ≤ k) (p : Int) (hp : 0 ≤ p) (hp2 : p ≤ 700000) : ∃ t l p', spec_l6Bent.f k code p = some (t, l, p') ∧ l.length ≤ 30 ∧ p ≤ p' ∧ p' ≤ p + 200 := by
  unfold spec_l6Bent.f
  obtain ⟨t, l, p1, e, a1, a2, a3⟩ := l6Draw_at h k hk p hp (by omega)
  rw [e]
  simp only [Option.bind_some]
  obtain ⟨v, e2, _, _, _⟩ := next_at h p1 12 ⟨by omega, by omega⟩ (by omega)
  rw [e2]
  simp only [Option.bind_some]
  by_cases h0 : v = 0
  · obtain ⟨b, e3, _⟩ := pick_at h (p1 + 1) ⟨by omega, by omega⟩ [-2, -1, 7, 1000000000, 1000000001] (by simp) (by simp)
    rw [if_pos h0, e3]
    exact ⟨_, _, _, rfl, by omega, by omega, by omega⟩
  rw [if_neg h0]
  by_cases h1 : v = 1
  · obtain ⟨b, e3, _⟩ := pick_at h (p1 + 1) ⟨by omega, by omega⟩ [0, -1, t, wrap64 (t + 1)] (by simp) (by simp)
    rw [if_pos h1, e3]
    simp only [Option.bind_some]
    rw [if_pos (by omega)]
    exact ⟨_, _, _, rfl, by rw [List.length_append, List.length_singleton]; omega, by omega, by omega⟩
  rw [if_neg h1]
  by_cases h2 : v = 2
  · rw [if_pos h2]
    exact ⟨_, _, _, rfl, by simp, by omega, by omega⟩
  · rw [if_neg h2]
    exact ⟨_, _, _, rfl, by omega, by omega, by omega⟩
theorem drawTakeCounter_at {code : List Int} (h : Bytes code) (k : Nat) (hk : 400 ≤ k) : ∃ t l n, spec_DrawTakeCounter.f k code = some (t, l, n) ∧ l.length ≤ 30 := by
  unfold spec_DrawTakeCounter.f spec_l1Source.f
  simp only [Option.bind_some]
  obtain ⟨t, l, p1, e, a1, a2, a3⟩ := l6Bent_at h k hk 0 (by omega) (by omega)
  rw [e]
  simp only [Option.bind_some]
  obtain ⟨v, e2, _, _, _⟩ := next_at h p1 30 ⟨by omega, by omega⟩ (by omega)
  rw [e2]
  simp only [Option.bind_some]
  obtain ⟨b, e3, _⟩ := pick_at h (p1 + 1) ⟨by omega, by omega⟩ [wrap64 (t + 1), t, wrap64 (t - 1), wrap64 (t - 15), wrap64 (t - 16), wrap64 (t + 20), v, -1, 1000000001] (by simp) (by simp)
  rw [e3]
  exact ⟨_, _, _, rfl, a1⟩
theorem drawTakeAll_l0 {code : List Int} (h : Bytes code) (t : Int) (l : List Int) (d : Nat) : ∀ (k : Nat) (s : List Int) (i p : Int), i = d → d < k → s.length + d ≤ 300 → 0 ≤ p → p + 10 * d ≤ 900000 → ∃ ns, spec_DrawTakeAll.l0 k s i code p t l = some (t, l, ns) := by
  induction d with
  | zero =>
    intro k s i p hi hk hs hp hp2
    obtain ⟨k, rfl⟩ : ∃ z, k = z + 1 := ⟨k - 1, by omega⟩
    rw [spec_DrawTakeAll.l0, if_neg (by omega)]
    exact ⟨_, rfl⟩
  | succ d ih =>
    intro k s i p hi hk hs hp hp2
    obtain ⟨k, rfl⟩ : ∃ z, k = z + 1 := ⟨k - 1, by omega⟩
    obtain ⟨v, e1, _, _, _⟩ := next_at h p 40 ⟨hp, by omega⟩ (by omega)
    obtain ⟨v2, e2, _, _, _⟩ := next_at h (p + 1) 10 ⟨by omega, by omega⟩ (by omega)
    obtain ⟨b, e3, _⟩ := pick_at h (p + 1 + 1) ⟨by omega, by omega⟩ [v, v2, -1] (by simp) (by simp)
    have ei : wrap64 (i - 1) = (d : Int) := by rw [w64 (by omega) (by omega)]; omega
    rw [spec_DrawTakeAll.l0, if_pos (by omega), e1]
    simp only [Option.bind_some]
    rw [e2]
    simp only [Option.bind_some]
    rw [e3]
    simp only [Option.bind_some]
    rw [if_pos (by omega), ei]
    exact ih k _ d _ rfl (by omega) (by rw [List.length_append, List.length_singleton]; omega) (by omega) (by omega)
theorem drawTakeAll_at {code : List Int} (h : Bytes code) (k : Nat) (hk : 600 ≤ k) : ∃ t l ns, spec_DrawTakeAll.f k code = some (t, l, ns) ∧ l.length ≤ 30 := by
  obtain ⟨k, rfl⟩ : ∃ z, k = z + 1 := ⟨k - 1, by omega⟩
  unfold spec_DrawTakeAll.f spec_l1Source.f
  simp only [Option.bind_some, spec_DrawTakeAll.j0]
  obtain ⟨t, l, p1, e, a1, a2, a3⟩ := l6Bent_at h (k + 1) (by omega) 0 (by omega) (by omega)
  rw [e]
  simp only [Option.bind_some]
  obtain ⟨v, e2, hv0, hv1, _⟩ := next_at h p1 12 ⟨by omega, by omega⟩ (by omega)
  have hv := hv1 (by omega)
  rw [e2]
  simp only [Option.bind_some]
  obtain ⟨c, e3⟩ := chance_at h (p1 + 1) 40 ⟨by omega, by omega⟩ (by omega)
  rw [e3]
  simp only [Option.bind_some]
  by_cases hc : c = true
  · obtain ⟨b, e4, hb⟩ := pick_at h (p1 + 1 + 1) ⟨by omega, by omega⟩ [200, 201] (by simp) (by simp)
    have hb' : 200 ≤ b ∧ b ≤ 201 := by
      simp only [List.mem_cons, List.not_mem_nil, or_false] at hb
      omega
    rw [if_pos hc, e4]
    simp only [Option.bind_some]
    obtain ⟨ns, en⟩ := drawTakeAll_l0 h t l b.toNat k [] b (p1 + 1 + 1 + 1) (by omega) (by omega) (by simp; omega) (by omega) (by omega)
    exact ⟨t, l, ns, en, a1⟩
  · rw [if_neg hc]
    obtain ⟨ns, en⟩ := drawTakeAll_l0 h t l v.toNat k [] v (p1 + 1 + 1) (by omega) (by omega) (by simp; omega) (by omega) (by omega)
    exact ⟨t, l, ns, en, a1⟩
theorem drawSameWindows_at {code : List Int} (h : Bytes code) (k : Nat) (hk : 600 ≤ k) : ∃ t l t' l', spec_DrawSameWindows.f k code = some (t, l, t', l') ∧ l.length ≤ 30 ∧ l'.length ≤ 30 := by
  unfold spec_DrawSameWindows.f spec_l1Source.f
  simp only [Option.bind_some]
  obtain ⟨t, l, p1, e, a1, a2, a3⟩ := l6Draw_at h k (by omega) 0 (by omega) (by omega)
  rw [e]
  simp only [Option.bind_some]
  obtain ⟨c, e3⟩ := chance_at h p1 2 ⟨by omega, by omega⟩ (by omega)
  rw [e3]
  simp only [Option.bind_some]
  by_cases hc : c = true
  · rw [if_pos hc]
    unfold spec_l1Ints.f
    simp only [Option.bind_some]
    rw [if_pos (by simp; omega)]
    exact ⟨_, _, _, _, rfl, by omega, by simp; omega⟩
  · rw [if_neg hc]
    obtain ⟨t2, l2, p2, e2, b1, _, _⟩ := l6Bent_at h k (by omega) 0 (by omega) (by omega)
    rw [e2]
    exact ⟨_, _, _, _, rfl, by omega, b1⟩
theorem taf_inv (ns : List Int) (m : Nat) : ∀ (i : Nat) (top : Int) (l s : List Int), ns.length - i = m → i ≤ ns.length → (∀ x ∈ s, 0 ≤ x ∧ x < ns.length) → (s.map (rd ns)).Nodup → (∀ x ∈ s, rd ns x ∈ l ∨ rd ns x ≤ top - 16) →
    (∀ x ∈ taf (ns.drop i) (i : Int) top l s, 0 ≤ x ∧ x < ns.length) ∧ ((taf (ns.drop i) (i : Int) top l s).map (rd ns)).Nodup := by
  induction m with
  | zero =>
    intro i top l s hm hi h1 h2 h3
    obtain rfl : i = ns.length := by omega
    rw [List.drop_length]
    exact ⟨h1, h2⟩
  | succ m ih =>
    intro i top l s hm hi h1 h2 h3
    have hlt : i < ns.length := by omega
    have hy : rd ns (i : Int) = ns[i] := by simp only [rd, Int.toNat_natCast, getD_at _ _ _ hlt]
    have e2 : ((i + 1 : Nat) : Int) = (i : Int) + 1 := by omega
    rw [drop_cons ns i hlt, taf, ← e2]
    by_cases hc : (tkv top l ns[i]).1 = 0
    · obtain ⟨hr, hn, hb, he⟩ := tkv_zero hc
      have hx := mxv_or top ns[i]
      rw [if_pos hc, he]
      refine ih (i + 1) _ _ _ (by omega) (by omega) (fun x hx => ?_) ?_ (fun x hxs => ?_)
      · rcases List.mem_append.1 hx with hx | hx
        · exact h1 x hx
        · rw [List.mem_singleton.1 hx]
          omega
      · rw [List.map_append, List.map_singleton, hy]
        refine List.nodup_append.2 ⟨h2, by simp, fun a ha b hb2 => ?_⟩
        rw [List.mem_singleton.1 hb2]
        obtain ⟨x, hx2, rfl⟩ := List.mem_map.1 ha
        rintro e
        rcases h3 x hx2 with h4 | h4
        · exact hn (e ▸ h4)
        · omega
      · have key : ∀ y : Int, y ∈ oi ns[i] l → y ∈ (oi ns[i] l).filter (ptop (mxv top ns[i])) ∨ y ≤ mxv top ns[i] - 16 := fun y hy2 => by
          by_cases hp : y > mxv top ns[i] - 16
          · exact .inl (List.mem_filter.2 ⟨hy2, (ptop_iff _ _).2 hp⟩)
          · exact .inr (by omega)
        rcases List.mem_append.1 hxs with hxs | hxs
        · rcases h3 x hxs with h4 | h4
          · exact key _ ((oi_mem _ _ _).2 (.inr h4))
          · exact .inr (show rd ns x ≤ mxv top ns[i] - 16 by omega)
        · rw [List.mem_singleton.1 hxs, hy]
          exact key _ ((oi_mem _ _ _).2 (.inl rfl))
    · rw [if_neg hc]
      exact ih (i + 1) _ _ _ (by omega) (by omega) h1 h2 h3
theorem tav_inv (top : Int) (l ns : List Int) : (∀ x ∈ (tav top l ns).2, 0 ≤ x ∧ x < ns.length) ∧ ((tav top l ns).2.map (rd ns)).Nodup := by
  unfold tav
  split
  · split
    · simp
    · have := taf_inv ns _ 0 top l [] rfl (by omega) (by simp) (by simp) (by simp)
      rw [show ((0 : Nat) : Int) = 0 from rfl, List.drop_zero] at this
      exact this
  · simp
theorem win_l1 (n c top t' : Int) (l0 l' ns x r : List Int) (i v tc : Int) (B : Nat) (hx : x.length ≤ 300) (hv : v ∉ x) (hC : ∀ k, B ≤ k → laws_FnWindows.l0 k n ns (x ++ [v]) (wrap64 (i + 1)) top l0 c t' l' tc r = some true) (m : Nat) : ∀ (k j : Nat), x.length - j = m → j ≤ x.length → B + m + 1 ≤ k → laws_FnWindows.l1 k n ns x i v (j : Int) top l0 c t' l' tc r = some true := by
  induction m with
  | zero =>
    intro k j hm hj hk
    obtain ⟨k, rfl⟩ : ∃ z, k = z + 1 := ⟨k - 1, by omega⟩
    obtain rfl : j = x.length := by omega
    rw [laws_FnWindows.l1, if_neg (by omega), if_pos (by omega)]
    exact hC k (by omega)
  | succ m ih =>
    intro k j hm hj hk
    obtain ⟨k, rfl⟩ : ∃ z, k = z + 1 := ⟨k - 1, by omega⟩
    have hlt : j < x.length := by omega
    have hy : rd x (j : Int) = x[j] := by simp only [rd, Int.toNat_natCast, getD_at _ _ _ hlt]
    have e2 : ((j + 1 : Nat) : Int) = (j : Int) + 1 := by omega
    rw [laws_FnWindows.l1, if_pos (by omega), if_pos (by omega), hy, if_neg (fun e : x[j] = v => hv (e ▸ List.getElem_mem hlt)), w64 (by omega) (by omega), ← e2]
    exact ih k (j + 1) (by omega) (by omega) (by omega)
theorem win_l0 (n c top t' : Int) (l0 l' ns r : List Int) (tc : Int) (K0 : Nat) (hr : r.length ≤ 200) (hi : ∀ x ∈ r, 0 ≤ x ∧ x < (ns.length : Int))
    (hT : ∀ k, K0 ≤ k → (if c = 0 then (if n > top then laws_FnWindows.j3 k n n c t' l' else laws_FnWindows.j3 k n top c t' l') else some true) = some true) (m : Nat) : ∀ (k i : Nat) (x : List Int), r.length - i = m → i ≤ r.length → x.length ≤ i → (x ++ (r.drop i).map (rd ns)).Nodup → K0 + 500 * m + 1 ≤ k → laws_FnWindows.l0 k n ns x (i : Int) top l0 c t' l' tc r = some true := by
  induction m with
  | zero =>
    intro k i x hm hj hx hnd hk
    obtain ⟨k, rfl⟩ : ∃ z, k = z + 1 := ⟨k - 1, by omega⟩
    obtain rfl : i = r.length := by omega
    rw [laws_FnWindows.l0, if_neg (by omega)]
    exact hT k (by omega)
  | succ m ih =>
    intro k i x hm hj hx hnd hk
    obtain ⟨k, rfl⟩ : ∃ z, k = z + 1 := ⟨k - 1, by omega⟩
    have hlt : i < r.length := by omega
    have hy : rd r (i : Int) = r[i] := by simp only [rd, Int.toNat_natCast, getD_at _ _ _ hlt]
    have hb := hi _ (List.getElem_mem hlt)
    have e2 : ((i + 1 : Nat) : Int) = (i : Int) + 1 := by omega
    rw [drop_cons r i hlt, List.map_cons] at hnd
    have hnd2 : (x ++ [rd ns r[i]] ++ (r.drop (i + 1)).map (rd ns)).Nodup := by
      rw [List.append_assoc]
      exact hnd
    rw [laws_FnWindows.l0, if_pos (by omega), if_pos (by omega), hy, if_pos hb.1, if_pos hb.2]
    have hv : rd ns r[i] ∉ x := fun hm2 => (List.nodup_append.1 hnd).2.2 _ hm2 _ (List.mem_cons_self) rfl
    refine win_l1 n c top t' l0 l' ns x r i (rd ns r[i]) tc (K0 + 500 * m + 1) (by omega) hv (fun k hk => ?_) _ k 0 rfl (by omega) (by omega)
    rw [w64 (by omega) (by omega), ← e2]
    exact ih k (i + 1) _ (by omega) (by omega) (by rw [List.length_append, List.length_singleton]; omega) hnd2 hk
theorem impl_IsNews_at (top : Int) (l : List Int) (n : Int) (hl : l.length ≤ 2000000) (k : Nat) (hk : 2 * l.length + 30 ≤ k) : impl_IsNews.f k top l n = some ((twv top l n).1 == 0) := by
  unfold impl_IsNews.f
  rw [impl_TakeCounter_at top l n hl k hk]
  rfl
theorem win_j3 (top n : Int) (l : List Int) (hl : l.length ≤ 1000) (hw : wfv top l = 0) (hc : (tkv top l n).1 = 0) (k : Nat) (hk : 3000 ≤ k) : laws_FnWindows.j3 k n (mxv top n) (tkv top l n).1 (tkv top l n).2.1 (tkv top l n).2.2 = some true := by
  obtain ⟨k, rfl⟩ : ∃ z, k = z + 1 := ⟨k - 1, by omega⟩
  obtain ⟨hr, hn, hb, he⟩ := tkv_zero hc
  have hx := mxv_or top n
  have hlen := tkv_len top l n
  have hw2 := tkv_ok hw hc
  obtain ⟨w1, w2, w3, _⟩ := wfv_ok hw
  have hin : n ∈ (tkv top l n).2.2 := by
    rw [he]
    exact List.mem_filter.2 ⟨(oi_mem _ _ _).2 (.inl rfl), (ptop_iff _ _).2 (by omega)⟩
  have htop : (tkv top l n).2.1 = mxv top n := by rw [he]
  rw [laws_FnWindows.j3, impl_WindowFault_at _ _ (by omega) _ (by omega)]
  simp only [Option.bind_some]
  rw [if_pos hw2, if_pos htop, impl_TakeCounter_at _ _ _ (by omega) _ (by omega)]
  simp only [Option.bind_some]
  have e6 : (twv (tkv top l n).2.1 (tkv top l n).2.2 n).1 = 6 := by
    unfold twv
    rw [if_pos hw2]
    generalize (tkv top l n).2.2 = z at *
    generalize (tkv top l n).2.1 = y at *
    unfold tkv
    rw [if_neg (show ¬ ¬ (0 ≤ n ∧ n ≤ 1000000000) from fun h => h hr), if_pos hin]
  rw [if_pos e6, impl_IsNews_at _ _ _ (by omega) _ (by omega)]
  simp only [Option.bind_some]
  have e0 : ((twv (tkv top l n).2.1 (tkv top l n).2.2 (wrap64 (mxv top n - 16))).1 == 0) = false := by
    rw [beq_eq_false_iff_ne]
    intro h0
    unfold twv at h0
    rw [if_pos hw2, w64 (by omega) (by omega)] at h0
    have := (tkv_zero h0).2.2.1
    omega
  rw [e0, if_neg (by decide)]
  have ew : wfv (-1) [] = 0 := by decide
  have eN : (twv (-1) [] n).1 = 0 := by
    unfold twv tkv
    rw [if_pos ew, if_neg (show ¬ ¬ (0 ≤ n ∧ n ≤ 1000000000) from fun h => h hr), if_neg (by simp), if_neg (by omega)]
  simp only [impl_NewWindow.f, Option.bind_some]
  rw [impl_WindowFault_at _ _ (by simp) _ (by simp; omega)]
  simp only [Option.bind_some]
  rw [if_pos ew, if_pos trivial, impl_IsNews_at _ _ _ (by simp) _ (by simp; omega)]
  simp [eN]
theorem impl_SameWindows_at (t : Int) (l : List Int) (t' : Int) (l' : List Int) (hl : l.length ≤ 1000000) (k : Nat) (hk : l.length < k) : impl_SameWindows.f k t l t' l' = some (decide (t = t' ∧ l = l')) := by
  unfold impl_SameWindows.f
  rw [equalInts_at l l' (by omega) k hk]
  by_cases h : t = t'
  · simp [h]
  · simp [h]
theorem spec_SameWindows_at (t : Int) (l : List Int) (t' : Int) (l' : List Int) (hl : l.length ≤ 1000000) (k : Nat) (hk : l.length < k) : spec_SameWindows.f k t l t' l' = some (decide (t = t' ∧ l = l')) := by
  unfold spec_SameWindows.f
  rw [l1Same_at l l' (by omega) k hk]
  by_cases h : t = t'
  · simp [h]
  · simp [h]
end Go.Proofs.Ytbnibakamdhpdaa.Pure
