/- What the printed functions of the law FnExactSameWaits answer, as plain Lean. -/
import Derived.Test.YtldhhghppgkeaaaStFnExactSameWaits
import Derived.Test.YtldhhghppgkeaaaBase
namespace Go.Proofs.Ytldhhghppgkeaaa.Pure
open Go.RowKit Go.Proofs.Ytldhhghppgkeaaa.Open Go.Proofs.Ytldhhghppgkeaaa.Base Go.Proofs.Ytldhhghppgkeaaa.PFnExactSameWaits Go.Proofs.YtldhhghppgkeaaaW.PrintWords Go.Proofs.YtldhhghppgkeaaaW.PrintLast
set_option linter.unusedVariables false
set_option linter.unusedSimpArgs false

theorem eqWaitS_self (l : List S90) (hl : l.length ≤ 1000000000) (k : Nat) (hk : l.length < k) : laws_eqWaitS.f k l l = some true := by
  unfold laws_eqWaitS.f
  rw [if_pos rfl]
  refine loop_up (fun k (_ : Unit) i => laws_eqWaitS.l0 k l l i) l.length 0 (fun _ _ => true) (fun _ _ => True) ?_ ?_ k () 0 0 rfl (Nat.zero_le _) trivial (by omega)
  · intro k _ _ _
    simp only [laws_eqWaitS.l0]
    rw [if_neg (by omega)]
  · intro k _ i hi _ _ ih
    simp only [laws_eqWaitS.l0, laws_eqWait.f]
    rw [if_pos (by omega), if_pos (by omega), if_pos (by omega), w64 (by omega) (by omega)]
    simp only [eq_self, ↓reduceIte, Option.bind_some]
    exact ih () trivial

theorem szWaitS_at (l : List S92) (a : Int) (h0 : 0 ≤ a) (h1 : a ≤ 1048576) (hl : l.length ≤ maxLen) : laws_szWaitS.f l a = some (if a < l.length then -1 else a - l.length) := by
  unfold maxLen at hl
  unfold laws_szWaitS.f
  rw [w64 (by omega) (by omega)]
  by_cases h : a < l.length
  · rw [if_pos (by omega), if_pos h]
  · rw [if_neg (by omega), if_neg h]

def cvWait (x : S92) : S90 := ⟨x.f0, x.f1, x.f2, x.f3, x.f4, x.f5, x.f6⟩
theorem toWaitS_at (l : List S92) (hl : l.length ≤ 1000000000) (k : Nat) (hk : l.length < k) : laws_toWaitS.f k l = some (l.map cvWait) := by
  unfold laws_toWaitS.f
  rw [if_pos (by omega), if_pos (by omega)]
  refine to_loop (fun k s i => laws_toWaitS.l0 k l s i) l cvWait ?_ ?_ k _ (by simp) hk
  · intro k s hs
    simp only [laws_toWaitS.l0]
    rw [if_neg (by omega)]
  · intro k s i hi hs
    simp only [laws_toWaitS.l0, laws_toWait.f]
    rw [if_pos (by omega), if_pos (by omega)]
    simp only [Option.bind_some]
    rw [if_pos (by omega), w64 (by omega) (by omega)]
    simp only [Int.toNat_natCast, rd_T92, getD_at _ _ _ hi, cvWait]

def eqvWait (x y : S90) : Bool := ((x.f0 == y.f0) && ((x.f1 == y.f1) && ((x.f2 == y.f2) && ((x.f3 == y.f3) && ((x.f4 == y.f4) && ((x.f5 == y.f5) && (x.f6 == y.f6)))))))
def sameWaitS (a b : List S90) : Bool := decide (a.length = b.length) && (a.zip b).all fun x => eqvWait x.1 x.2
theorem spec_SameWaits_at (a b : List S90) (hl : a.length ≤ 1000000000) (k : Nat) (hk : a.length < k) : spec_SameWaits.f k a b = some (sameWaitS a b) := by
  unfold spec_SameWaits.f sameWaitS
  by_cases hn : a.length = b.length
  rotate_left
  · rw [if_neg (by omega)]
    simp [hn]
  rw [if_pos (by omega), decide_eq_true hn, Bool.true_and]
  refine loop_up (fun k (_ : Unit) i => spec_SameWaits.l0 k a b i) a.length 0 (fun _ i => ((a.drop i).zip (b.drop i)).all fun x => eqvWait x.1 x.2) (fun _ _ => True) ?_ ?_ k () 0 0 rfl (Nat.zero_le _) trivial (by omega)
  · intro k _ _ _
    simp only [spec_SameWaits.l0]
    rw [if_neg (by omega)]
    simp
  · intro k _ i hi _ _ ih
    have hj : i < b.length := by omega
    simp only [spec_SameWaits.l0]
    rw [if_pos (by omega), if_pos (by omega), if_pos (by omega), w64 (by omega) (by omega)]
    have hx : rd_T90 a (i : Int) = a[i] := by simp only [rd_T90, Int.toNat_natCast, getD_at _ _ _ hi]
    have hy : rd_T90 b (i : Int) = b[i] := by simp only [rd_T90, Int.toNat_natCast, getD_at _ _ _ hj]
    rw [hx, hy]
    have hr : ((a.drop i).zip (b.drop i)).all (fun x => eqvWait x.1 x.2) = (eqvWait a[i] b[i] && ((a.drop (i + 1)).zip (b.drop (i + 1))).all (fun x => eqvWait x.1 x.2)) := by
      rw [drop_cons a i hi, drop_cons b i hj]
      rfl
    rw [hr]
    have hb : eqvWait a[i] b[i] = ((a[i].f0 == b[i].f0) && ((a[i].f1 == b[i].f1) && ((a[i].f2 == b[i].f2) && ((a[i].f3 == b[i].f3) && ((a[i].f4 == b[i].f4) && ((a[i].f5 == b[i].f5) && (a[i].f6 == b[i].f6))))))) := rfl
    by_cases h : eqvWait a[i] b[i] = true
    · rw [h, Bool.true_and, if_neg (by rw [h] at hb; simp only [Bool.true_eq, Bool.and_eq_true] at hb; simp [hb]), ih () trivial]
    · have h' : eqvWait a[i] b[i] = false := by simpa using h
      rw [h', Bool.false_and, if_pos (by rw [h'] at hb; have hb' := congrArg (fun z => !z) hb; simp only [Bool.not_and, Bool.not_false] at hb'; exact hb'.symm)]

theorem impl_Wait_at (a b : List S90) (hl : a.length ≤ 1000000000) (k : Nat) (hk : a.length < k) : impl_Wait.f k a b = some (sameWaitS a b) := by
  unfold impl_Wait.f sameWaitS
  by_cases hn : a.length = b.length
  rotate_left
  · rw [if_neg (by omega)]
    simp [hn]
  rw [if_pos (by omega), decide_eq_true hn, Bool.true_and]
  refine loop_up (fun k (_ : Unit) i => impl_Wait.l0 k a b (a.length : Int) i) a.length 0 (fun _ i => ((a.drop i).zip (b.drop i)).all fun x => eqvWait x.1 x.2) (fun _ _ => True) ?_ ?_ k () 0 0 rfl (Nat.zero_le _) trivial (by omega)
  · intro k _ _ _
    simp only [impl_Wait.l0]
    rw [if_neg (by omega)]
    simp
  · intro k _ i hi _ _ ih
    have hj : i < b.length := by omega
    simp only [impl_Wait.l0]
    rw [if_pos (by omega), if_pos (by omega), if_pos (by omega), if_pos (by omega), w64 (by omega) (by omega)]
    have hx : rd_T90 a (i : Int) = a[i] := by simp only [rd_T90, Int.toNat_natCast, getD_at _ _ _ hi]
    have hy : rd_T90 b (i : Int) = b[i] := by simp only [rd_T90, Int.toNat_natCast, getD_at _ _ _ hj]
    rw [hx, hy]
    have hr : ((a.drop i).zip (b.drop i)).all (fun x => eqvWait x.1 x.2) = (eqvWait a[i] b[i] && ((a.drop (i + 1)).zip (b.drop (i + 1))).all (fun x => eqvWait x.1 x.2)) := by
      rw [drop_cons a i hi, drop_cons b i hj]
      rfl
    rw [hr]
    have hb : eqvWait a[i] b[i] = ((a[i].f0 == b[i].f0) && ((a[i].f1 == b[i].f1) && ((a[i].f2 == b[i].f2) && ((a[i].f3 == b[i].f3) && ((a[i].f4 == b[i].f4) && ((a[i].f5 == b[i].f5) && (a[i].f6 == b[i].f6))))))) := rfl
    by_cases h : eqvWait a[i] b[i] = true
    · rw [h, Bool.true_and, if_neg (by rw [h] at hb; simp only [Bool.true_eq, Bool.and_eq_true] at hb; simp [hb]), ih () trivial]
    · have h' : eqvWait a[i] b[i] = false := by simpa using h
      rw [h', Bool.false_and, if_pos (by rw [h'] at hb; have hb' := congrArg (fun z => !z) hb; simp only [Bool.not_and, Bool.not_false] at hb'; exact hb'.symm)]

theorem impl_SameWaits_at (a b : List S90) (hl : a.length ≤ 1000000000) (k : Nat) (hk : a.length < k) : impl_SameWaits.f k a b = some (sameWaitS a b) := by
  unfold impl_SameWaits.f
  rw [impl_Wait_at a b hl k hk]
  rfl
end Go.Proofs.Ytldhhghppgkeaaa.Pure
