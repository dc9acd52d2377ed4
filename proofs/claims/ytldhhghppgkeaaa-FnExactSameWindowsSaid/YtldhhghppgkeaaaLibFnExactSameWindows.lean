/- What the printed functions of the law FnExactSameWindows answer, as plain Lean. -/
import Derived.Test.YtldhhghppgkeaaaStFnExactSameWindows
import Derived.Test.YtldhhghppgkeaaaBase
namespace Go.Proofs.Ytldhhghppgkeaaa.Pure
open Go.RowKit Go.Proofs.Ytldhhghppgkeaaa.Open Go.Proofs.Ytldhhghppgkeaaa.Base Go.Proofs.Ytldhhghppgkeaaa.PFnExactSameWindows Go.Proofs.YtldhhghppgkeaaaW.PrintWords Go.Proofs.YtldhhghppgkeaaaW.PrintLast
set_option linter.unusedVariables false
set_option linter.unusedSimpArgs false
theorem eqInt64S_self (l : List Int) (hl : l.length ≤ 1000000000) (k : Nat) (hk : l.length < k) : laws_eqInt64S.f k l l = some true := by
  unfold laws_eqInt64S.f
  rw [if_pos rfl]
  refine loop_up (fun k (_ : Unit) i => laws_eqInt64S.l0 k l l i) l.length 0 (fun _ _ => true) (fun _ _ => True) ?_ ?_ k () 0 0 rfl (Nat.zero_le _) trivial (by omega)
  · intro k _ _ _
    simp only [laws_eqInt64S.l0]
    rw [if_neg (by omega)]
  · intro k _ i hi _ _ ih
    simp only [laws_eqInt64S.l0]
    rw [if_pos (by omega), if_pos (by omega), if_pos (by omega), w64 (by omega) (by omega)]
    simp only [eq_self, ↓reduceIte]
    exact ih () trivial
theorem szInt64S_at (l : List Int) (a : Int) (h0 : 0 ≤ a) (h1 : a ≤ 1048576) (hl : l.length ≤ maxLen) : laws_szInt64S.f l a = some (if a < l.length then -1 else a - l.length) := by
  unfold maxLen at hl
  unfold laws_szInt64S.f
  rw [w64 (by omega) (by omega)]
  by_cases h : a < l.length
  · rw [if_pos (by omega), if_pos h]
  · rw [if_neg (by omega), if_neg h]
theorem toInt64S_at (l : List Int) (hl : l.length ≤ 1000000000) (k : Nat) (hk : l.length < k) : laws_toInt64S.f k l = some l := by
  unfold laws_toInt64S.f
  rw [if_pos (by omega), if_pos (by omega)]
  have h := to_loop (fun k s i => laws_toInt64S.l0 k l s i) l id ?_ ?_ k (List.replicate ((l.length : Int) : Int).toNat 0) (by simp) hk
  · rw [List.map_id] at h
    exact h
  · intro k s hs
    simp only [laws_toInt64S.l0]
    rw [if_neg (by omega)]
  · intro k s i hi hs
    simp only [laws_toInt64S.l0]
    rw [if_pos (by omega), if_pos (by omega), if_pos (by omega), w64 (by omega) (by omega)]
    simp only [Int.toNat_natCast, rd, getD_at _ _ _ hi, id]
theorem l1Same_at (a b : List Int) (hl : a.length ≤ 1000000000) (k : Nat) (hk : a.length < k) : spec_l1Same.f k a b = some (decide (a = b)) := by
  unfold spec_l1Same.f
  by_cases hn : a.length = b.length
  rotate_left
  · rw [if_neg (by omega), decide_eq_false (fun h => hn (by rw [h]))]
  rw [if_pos (by omega)]
  refine loop_up (fun k (_ : Unit) i => spec_l1Same.l0 k a b i) a.length 0 (fun _ i => decide (a.drop i = b.drop i)) (fun _ _ => True) ?_ ?_ k () 0 0 rfl (Nat.zero_le _) trivial (by omega)
  · intro k _ _ _
    simp only [spec_l1Same.l0]
    rw [if_neg (by omega), List.drop_length, hn, List.drop_length]
    rfl
  · intro k _ i hi _ _ ih
    have hj : i < b.length := by omega
    simp only [spec_l1Same.l0]
    rw [if_pos (by omega), if_pos (by omega), if_pos (by omega), w64 (by omega) (by omega)]
    have hx : rd a (i : Int) = a[i] := by simp only [rd, Int.toNat_natCast, getD_at _ _ _ hi]
    have hy : rd b (i : Int) = b[i] := by simp only [rd, Int.toNat_natCast, getD_at _ _ _ hj]
    rw [hx, hy, drop_cons a i hi, drop_cons b i hj]
    by_cases h : a[i] = b[i]
    · rw [if_pos h, ih () trivial, h]
      exact congrArg some (by simp only [List.cons.injEq, true_and])
    · rw [if_neg h]
      exact congrArg some (decide_eq_false (fun e => h (List.cons.inj e).1)).symm
theorem equalInts_at (a b : List Int) (hl : a.length ≤ 1000000000) (k : Nat) (hk : a.length < k) : slices_Equal_int64_int64.f k a b = some (decide (a = b)) := by
  unfold slices_Equal_int64_int64.f
  by_cases hn : a.length = b.length
  rotate_left
  · rw [if_neg (by omega), decide_eq_false (fun h => hn (by rw [h]))]
  rw [if_pos (by omega)]
  refine loop_up (fun k (_ : Unit) i => slices_Equal_int64_int64.l0 k a b (a.length : Int) i) a.length 0 (fun _ i => decide (a.drop i = b.drop i)) (fun _ _ => True) ?_ ?_ k () 0 0 rfl (Nat.zero_le _) trivial (by omega)
  · intro k _ _ _
    simp only [slices_Equal_int64_int64.l0]
    rw [if_neg (by omega), List.drop_length, hn, List.drop_length]
    rfl
  · intro k _ i hi _ _ ih
    have hj : i < b.length := by omega
    simp only [slices_Equal_int64_int64.l0]
    rw [if_pos (by omega), if_pos (by omega), if_pos (by omega), if_pos (by omega), w64 (by omega) (by omega)]
    have hx : rd a (i : Int) = a[i] := by simp only [rd, Int.toNat_natCast, getD_at _ _ _ hi]
    have hy : rd b (i : Int) = b[i] := by simp only [rd, Int.toNat_natCast, getD_at _ _ _ hj]
    rw [hx, hy, drop_cons a i hi, drop_cons b i hj]
    by_cases h : a[i] = b[i]
    · rw [if_pos h, ih () trivial, h]
      exact congrArg some (by simp only [List.cons.injEq, true_and])
    · rw [if_neg h]
      exact congrArg some (decide_eq_false (fun e => h (List.cons.inj e).1)).symm
theorem eqWindow_self (c : Int) (l : List Int) (hl : l.length ≤ 1000000000) (k : Nat) (hk : l.length < k) : laws_eqWindow.f k c l c l = some true := by
  unfold laws_eqWindow.f
  rw [if_pos rfl, eqInt64S_self l hl k hk]
  simp
end Go.Proofs.Ytldhhghppgkeaaa.Pure
