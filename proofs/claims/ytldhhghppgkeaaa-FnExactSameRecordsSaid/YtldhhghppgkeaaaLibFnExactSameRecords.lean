/- What the printed functions of the law FnExactSameRecords answer, as plain Lean. -/
import Derived.Test.YtldhhghppgkeaaaStFnExactSameRecords
import Derived.Test.YtldhhghppgkeaaaBase
namespace Go.Proofs.Ytldhhghppgkeaaa.Pure
open Go.RowKit Go.Proofs.Ytldhhghppgkeaaa.Open Go.Proofs.Ytldhhghppgkeaaa.Base Go.Proofs.Ytldhhghppgkeaaa.PFnExactSameRecords Go.Proofs.YtldhhghppgkeaaaW.PrintWords Go.Proofs.YtldhhghppgkeaaaW.PrintLast
set_option linter.unusedVariables false
set_option linter.unusedSimpArgs false

theorem eqRecordS_self (l : List S84) (hl : l.length ≤ 1000000000) (k : Nat) (hk : l.length < k) : laws_eqRecordS.f k l l = some true := by
  unfold laws_eqRecordS.f
  rw [if_pos rfl]
  refine loop_up (fun k (_ : Unit) i => laws_eqRecordS.l0 k l l i) l.length 0 (fun _ _ => true) (fun _ _ => True) ?_ ?_ k () 0 0 rfl (Nat.zero_le _) trivial (by omega)
  · intro k _ _ _
    simp only [laws_eqRecordS.l0]
    rw [if_neg (by omega)]
  · intro k _ i hi _ _ ih
    simp only [laws_eqRecordS.l0, laws_eqRecord.f]
    rw [if_pos (by omega), if_pos (by omega), if_pos (by omega), w64 (by omega) (by omega)]
    simp only [eq_self, ↓reduceIte, Option.bind_some]
    exact ih () trivial

theorem szRecordS_at (l : List S86) (a : Int) (h0 : 0 ≤ a) (h1 : a ≤ 1048576) (hl : l.length ≤ maxLen) : laws_szRecordS.f l a = some (if a < l.length then -1 else a - l.length) := by
  unfold maxLen at hl
  unfold laws_szRecordS.f
  rw [w64 (by omega) (by omega)]
  by_cases h : a < l.length
  · rw [if_pos (by omega), if_pos h]
  · rw [if_neg (by omega), if_neg h]

def cvRecord (x : S86) : S84 := ⟨x.f0, x.f1, x.f2⟩
theorem toRecordS_at (l : List S86) (hl : l.length ≤ 1000000000) (k : Nat) (hk : l.length < k) : laws_toRecordS.f k l = some (l.map cvRecord) := by
  unfold laws_toRecordS.f
  rw [if_pos (by omega), if_pos (by omega)]
  refine to_loop (fun k s i => laws_toRecordS.l0 k l s i) l cvRecord ?_ ?_ k _ (by simp) hk
  · intro k s hs
    simp only [laws_toRecordS.l0]
    rw [if_neg (by omega)]
  · intro k s i hi hs
    simp only [laws_toRecordS.l0, laws_toRecord.f]
    rw [if_pos (by omega), if_pos (by omega)]
    simp only [Option.bind_some]
    rw [if_pos (by omega), w64 (by omega) (by omega)]
    simp only [Int.toNat_natCast, rd_T86, getD_at _ _ _ hi, cvRecord]

def eqvRecord (x y : S84) : Bool := ((x.f0 == y.f0) && ((x.f1 == y.f1) && (x.f2 == y.f2)))
def sameRecordS (a b : List S84) : Bool := decide (a.length = b.length) && (a.zip b).all fun x => eqvRecord x.1 x.2
theorem spec_SameRecords_at (a b : List S84) (hl : a.length ≤ 1000000000) (k : Nat) (hk : a.length < k) : spec_SameRecords.f k a b = some (sameRecordS a b) := by
  unfold spec_SameRecords.f sameRecordS
  by_cases hn : a.length = b.length
  rotate_left
  · rw [if_neg (by omega)]
    simp [hn]
  rw [if_pos (by omega), decide_eq_true hn, Bool.true_and]
  refine loop_up (fun k (_ : Unit) i => spec_SameRecords.l0 k a b i) a.length 0 (fun _ i => ((a.drop i).zip (b.drop i)).all fun x => eqvRecord x.1 x.2) (fun _ _ => True) ?_ ?_ k () 0 0 rfl (Nat.zero_le _) trivial (by omega)
  · intro k _ _ _
    simp only [spec_SameRecords.l0]
    rw [if_neg (by omega)]
    simp
  · intro k _ i hi _ _ ih
    have hj : i < b.length := by omega
    simp only [spec_SameRecords.l0]
    rw [if_pos (by omega), if_pos (by omega), if_pos (by omega), w64 (by omega) (by omega)]
    have hx : rd_T84 a (i : Int) = a[i] := by simp only [rd_T84, Int.toNat_natCast, getD_at _ _ _ hi]
    have hy : rd_T84 b (i : Int) = b[i] := by simp only [rd_T84, Int.toNat_natCast, getD_at _ _ _ hj]
    rw [hx, hy]
    have hr : ((a.drop i).zip (b.drop i)).all (fun x => eqvRecord x.1 x.2) = (eqvRecord a[i] b[i] && ((a.drop (i + 1)).zip (b.drop (i + 1))).all (fun x => eqvRecord x.1 x.2)) := by
      rw [drop_cons a i hi, drop_cons b i hj]
      rfl
    rw [hr]
    have hb : eqvRecord a[i] b[i] = ((a[i].f0 == b[i].f0) && ((a[i].f1 == b[i].f1) && (a[i].f2 == b[i].f2))) := rfl
    by_cases h : eqvRecord a[i] b[i] = true
    · rw [h, Bool.true_and, if_neg (by rw [h] at hb; simp only [Bool.true_eq, Bool.and_eq_true] at hb; simp [hb]), ih () trivial]
    · have h' : eqvRecord a[i] b[i] = false := by simpa using h
      rw [h', Bool.false_and, if_pos (by rw [h'] at hb; have hb' := congrArg (fun z => !z) hb; simp only [Bool.not_and, Bool.not_false] at hb'; exact hb'.symm)]

theorem impl_Record_at (a b : List S84) (hl : a.length ≤ 1000000000) (k : Nat) (hk : a.length < k) : impl_Record.f k a b = some (sameRecordS a b) := by
  unfold impl_Record.f sameRecordS
  by_cases hn : a.length = b.length
  rotate_left
  · rw [if_neg (by omega)]
    simp [hn]
  rw [if_pos (by omega), decide_eq_true hn, Bool.true_and]
  refine loop_up (fun k (_ : Unit) i => impl_Record.l0 k a b (a.length : Int) i) a.length 0 (fun _ i => ((a.drop i).zip (b.drop i)).all fun x => eqvRecord x.1 x.2) (fun _ _ => True) ?_ ?_ k () 0 0 rfl (Nat.zero_le _) trivial (by omega)
  · intro k _ _ _
    simp only [impl_Record.l0]
    rw [if_neg (by omega)]
    simp
  · intro k _ i hi _ _ ih
    have hj : i < b.length := by omega
    simp only [impl_Record.l0]
    rw [if_pos (by omega), if_pos (by omega), if_pos (by omega), if_pos (by omega), w64 (by omega) (by omega)]
    have hx : rd_T84 a (i : Int) = a[i] := by simp only [rd_T84, Int.toNat_natCast, getD_at _ _ _ hi]
    have hy : rd_T84 b (i : Int) = b[i] := by simp only [rd_T84, Int.toNat_natCast, getD_at _ _ _ hj]
    rw [hx, hy]
    have hr : ((a.drop i).zip (b.drop i)).all (fun x => eqvRecord x.1 x.2) = (eqvRecord a[i] b[i] && ((a.drop (i + 1)).zip (b.drop (i + 1))).all (fun x => eqvRecord x.1 x.2)) := by
      rw [drop_cons a i hi, drop_cons b i hj]
      rfl
    rw [hr]
    have hb : eqvRecord a[i] b[i] = ((a[i].f0 == b[i].f0) && ((a[i].f1 == b[i].f1) && (a[i].f2 == b[i].f2))) := rfl
    by_cases h : eqvRecord a[i] b[i] = true
    · rw [h, Bool.true_and, if_neg (by rw [h] at hb; simp only [Bool.true_eq, Bool.and_eq_true] at hb; simp [hb]), ih () trivial]
    · have h' : eqvRecord a[i] b[i] = false := by simpa using h
      rw [h', Bool.false_and, if_pos (by rw [h'] at hb; have hb' := congrArg (fun z => !z) hb; simp only [Bool.not_and, Bool.not_false] at hb'; exact hb'.symm)]

theorem impl_SameRecords_at (a b : List S84) (hl : a.length ≤ 1000000000) (k : Nat) (hk : a.length < k) : impl_SameRecords.f k a b = some (sameRecordS a b) := by
  unfold impl_SameRecords.f
  rw [impl_Record_at a b hl k hk]
  rfl
end Go.Proofs.Ytldhhghppgkeaaa.Pure
