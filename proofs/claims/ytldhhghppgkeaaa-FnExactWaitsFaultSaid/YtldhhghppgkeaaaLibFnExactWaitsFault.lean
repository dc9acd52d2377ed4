/- What the printed functions of the law FnExactWaitsFault answer, as plain Lean. -/
import Derived.Test.YtldhhghppgkeaaaStFnExactWaitsFault
import Derived.Test.YtldhhghppgkeaaaBase
namespace Go.Proofs.Ytldhhghppgkeaaa.Pure
open Go.RowKit Go.Proofs.Ytldhhghppgkeaaa.Open Go.Proofs.Ytldhhghppgkeaaa.Base Go.Proofs.Ytldhhghppgkeaaa.MFnExactWaitsFault Go.Proofs.YtldhhghppgkeaaaW.PrintWords Go.Proofs.YtldhhghppgkeaaaW.PrintLast
set_option linter.unusedVariables false
set_option linter.unusedSimpArgs false

theorem eqWaitS_self (l : List S90) (hl : l.length ≤ 1000000000) (k : Nat) (hk : l.length < k) : laws_eqWaitS.f k l l = some true := by
  unfold laws_eqWaitS.f
  rw [if_pos rfl]
  refine loop_up (fun k (_ : Unit) i => laws_eqWaitS.l0 k l l i) l.length 0 (fun _ _ => true) (fun _ _ => True) ?_ ?_ k () 0 0 rfl (Nat.zero_le _) trivial (by omega)
  · intro k _ _ _
    simp only [laws_eqWaitS.l0]
    rw [if_neg (by omega)]
  · intro k _ i hi _ _ ih
    simp only [laws_eqWaitS.l0, laws_eqWait.f]
    rw [if_pos (by omega), if_pos (by omega), if_pos (by omega), w64 (by omega) (by omega)]
    simp only [eq_self, ↓reduceIte, Option.bind_some]
    exact ih () trivial

theorem szWaitS_at (l : List S92) (a : Int) (h0 : 0 ≤ a) (h1 : a ≤ 1048576) (hl : l.length ≤ maxLen) : laws_szWaitS.f l a = some (if a < l.length then -1 else a - l.length) := by
  unfold maxLen at hl
  unfold laws_szWaitS.f
  rw [w64 (by omega) (by omega)]
  by_cases h : a < l.length
  · rw [if_pos (by omega), if_pos h]
  · rw [if_neg (by omega), if_neg h]

def cvWait (x : S92) : S90 := ⟨x.f0, x.f1, x.f2, x.f3, x.f4, x.f5, x.f6⟩
theorem toWaitS_at (l : List S92) (hl : l.length ≤ 1000000000) (k : Nat) (hk : l.length < k) : laws_toWaitS.f k l = some (l.map cvWait) := by
  unfold laws_toWaitS.f
  rw [if_pos (by omega), if_pos (by omega)]
  refine to_loop (fun k s i => laws_toWaitS.l0 k l s i) l cvWait ?_ ?_ k _ (by simp) hk
  · intro k s hs
    simp only [laws_toWaitS.l0]
    rw [if_neg (by omega)]
  · intro k s i hi hs
    simp only [laws_toWaitS.l0, laws_toWait.f]
    rw [if_pos (by omega), if_pos (by omega)]
    simp only [Option.bind_some]
    rw [if_pos (by omega), w64 (by omega) (by omega)]
    simp only [Int.toNat_natCast, rd_T92, getD_at _ _ _ hi, cvWait]
theorem impl_in_at (a b c : Int) : impl_in.f a b c = some (decide (b ≤ a ∧ a ≤ c)) := by
  unfold impl_in.f
  by_cases h : a ≥ b
  · rw [if_pos h]
    have h' : b ≤ a := h
    simp [h']
  · rw [if_neg h]
    have h' : ¬ b ≤ a := h
    simp [h']
theorem spec_in_at (a b c : Int) : spec_l1In.f a b c = some (decide (b ≤ a ∧ a ≤ c)) := by
  unfold spec_l1In.f
  by_cases h : a ≥ b
  · rw [if_pos h]
    have h' : b ≤ a := h
    simp [h']
  · rw [if_neg h]
    have h' : ¬ b ≤ a := h
    simp [h']
def wok (b c d e f g : Int) : Bool := decide ((0 ≤ b ∧ b ≤ 1000000) ∧ (0 ≤ c ∧ c ≤ 3) ∧ (0 ≤ d ∧ d ≤ 1000000) ∧ (1 ≤ e ∧ e ≤ 9) ∧ (0 ≤ f ∧ f ≤ 3) ∧ (0 ≤ g ∧ g ≤ 1000000))
def wtv (a b c d e f g : Int) : Int := if (1 ≤ a ∧ a ≤ 4) ∧ (a = 4 ∨ (f = 0 ∧ g = 0)) then (if wok b c d e f g = true then 0 else 3) else 1
theorem spec_l9Wait_j0 (k : Nat) (x : Bool) (a b c d e f g : Int) : spec_l9Wait.j0 (k + 1) x a b c d e f g = some (if x = true then 1 else if wok b c d e f g = true then 0 else 3, a, b, c, d, e, f, g) := by
  cases x
  · simp only [spec_l9Wait.j0, spec_l9Node.f, spec_in_at, Option.bind_some, wok, decide_eq_true_eq, Bool.false_eq_true, if_false]
    repeat' split
    all_goals first | rfl | (exfalso; omega)
  · rfl
theorem spec_l9Wait_at (k : Nat) (a b c d e f g : Int) : spec_l9Wait.f (k + 1) a b c d e f g = some (wtv a b c d e f g, a, b, c, d, e, f, g) := by
  simp only [spec_l9Wait.f, spec_l9Wait_j0, spec_in_at, Option.bind_some, decide_eq_true_eq, wtv, bne_iff_ne, ne_eq]
  repeat' split
  all_goals first | rfl | (exfalso; omega) | (exfalso; simp_all; omega) | (exfalso; simp_all)
theorem spec_l9WaitAt_at (k : Nat) (a b c d e f g : Int) : spec_l9WaitAt.f (k + 1) a b c d e f g = some (wtv a b c d e f g) := by
  unfold spec_l9WaitAt.f
  rw [spec_l9Wait_at]
  rfl
def wof (c : S90) : Int := wtv c.f0 c.f1 c.f2 c.f3 c.f4 c.f5 c.f6
def wffv : List S90 → Int
  | [] => 0
  | c :: t => if wof c = 0 then wffv t else wof c
def wfv (l : List S90) : Int := if l.length > 40 then 2 else wffv l
theorem spec_WaitsFault_at (l : List S90) (k : Nat) (hk : 100 ≤ k) : spec_WaitsFault.f k l = some (wfv l) := by
  unfold spec_WaitsFault.f wfv
  by_cases hl : l.length > 40
  · rw [if_pos (by omega), if_pos hl]
  rw [if_neg (by omega), if_neg hl]
  refine loop_up (fun k (_ : Unit) i => spec_WaitsFault.l0 k l i) l.length 10 (fun _ i => wffv (l.drop i)) (fun _ i => True) ?_ ?_ k () 0 0 rfl (by omega) trivial (by omega)
  · intro k _ _ hm
    simp only [spec_WaitsFault.l0]
    rw [if_neg (by omega), List.drop_length]
    rfl
  · intro k _ i hi _ hm ih
    obtain ⟨k, rfl⟩ : ∃ x, k = x + 1 := ⟨k - 1, by omega⟩
    have e2 : wrap64 ((i : Int) + 1) = (i : Int) + 1 := w64 (by omega) (by omega)
    have hy : rd_T90 l (i : Int) = l[i] := by simp only [rd_T90, Int.toNat_natCast, getD_at _ _ _ hi]
    rw [spec_WaitsFault.l0]
    simp only [e2, spec_l9WaitAt_at, Option.bind_some]
    rw [if_pos (by omega), if_pos (by omega), hy, drop_cons l i hi]
    simp only [wffv]
    have hw : wtv l[i].f0 l[i].f1 l[i].f2 l[i].f3 l[i].f4 l[i].f5 l[i].f6 = wof l[i] := rfl
    rw [hw]
    by_cases h : wof l[i] = 0
    · rw [if_pos h, if_pos h]
      exact ih () trivial
    · rw [if_neg h, if_neg h]
theorem impl_WaitsFault_j1 (k : Nat) (l : List S90) (n i : Int) (x : Bool) (a b c d e f g : Int) : impl_WaitsFault.j1 (k + 1) l n i x a b c d e f g = if x = true then some 1 else if wok b c d e f g = true then impl_WaitsFault.l0 k l n (wrap64 (i + 1)) else some 3 := by
  rw [impl_WaitsFault.j1]
  cases x
  · simp only [impl_isSeq.f, impl_isNode.f, impl_in_at, Option.bind_some, wok, decide_eq_true_eq, Bool.false_eq_true, if_false]
    repeat' split
    all_goals first | rfl | (exfalso; omega)
  · rfl
theorem impl_WaitsFault_at (l : List S90) (k : Nat) (hk : 200 ≤ k) : impl_WaitsFault.f k l = some (wfv l) := by
  unfold impl_WaitsFault.f wfv
  by_cases hl : l.length > 40
  · rw [if_pos (by omega), if_pos hl]
  rw [if_neg (by omega), if_neg hl]
  refine loop_upc 2 (by omega) (fun k (_ : Unit) i => impl_WaitsFault.l0 k l (l.length : Int) i) l.length 10 (fun _ i => wffv (l.drop i)) (fun _ i => True) ?_ ?_ l.length k () 0 0 rfl (by omega) (by omega) trivial (by omega)
  · intro k _ _ hm
    rw [impl_WaitsFault.l0]
    rw [if_neg (by omega), List.drop_length]
    rfl
  · intro k _ i hi _ hm ih
    have e2 : wrap64 ((i : Int) + 1) = (i : Int) + 1 := w64 (by omega) (by omega)
    have hy : rd_T90 l (i : Int) = l[i] := by simp only [rd_T90, Int.toNat_natCast, getD_at _ _ _ hi]
    rw [impl_WaitsFault.l0]
    simp only [impl_WaitsFault_j1, e2, impl_in_at, Option.bind_some, decide_eq_true_eq]
    rw [if_pos (by omega), if_pos (by omega), if_pos (by omega), hy, drop_cons l i hi]
    have ih' := ih () trivial
    simp only [wffv]
    rw [show impl_WaitsFault.l0 k l (l.length : Int) ((i : Int) + 1) = _ from ih']
    generalize wffv (l.drop (i + 1)) = z
    unfold wof wtv
    simp only [bne_iff_ne, ne_eq]
    repeat' split
    all_goals first | rfl | (exfalso; omega) | (exfalso; simp_all; omega) | (exfalso; simp_all)
end Go.Proofs.Ytldhhghppgkeaaa.Pure
