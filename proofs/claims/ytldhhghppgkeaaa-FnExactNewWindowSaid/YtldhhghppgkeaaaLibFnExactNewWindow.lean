/- What the printed functions of the law FnExactNewWindow answer, as plain Lean. -/
import Derived.Test.YtldhhghppgkeaaaStFnExactNewWindow
import Derived.Test.YtldhhghppgkeaaaBase
namespace Go.Proofs.Ytldhhghppgkeaaa.Pure
open Go.RowKit Go.Proofs.Ytldhhghppgkeaaa.Open Go.Proofs.Ytldhhghppgkeaaa.Base Go.Proofs.Ytldhhghppgkeaaa.PFnExactNewWindow Go.Proofs.YtldhhghppgkeaaaW.PrintWords Go.Proofs.YtldhhghppgkeaaaW.PrintLast
set_option linter.unusedVariables false
set_option linter.unusedSimpArgs false
theorem eqInt64S_self (l : List Int) (hl : l.length ≤ 1000000000) (k : Nat) (hk : l.length < k) : laws_eqInt64S.f k l l = some true := by
  unfold laws_eqInt64S.f
  rw [if_pos rfl]
  refine loop_up (fun k (_ : Unit) i => laws_eqInt64S.l0 k l l i) l.length 0 (fun _ _ => true) (fun _ _ => True) ?_ ?_ k () 0 0 rfl (Nat.zero_le _) trivial (by omega)
  · intro k _ _ _
    simp only [laws_eqInt64S.l0]
    rw [if_neg (by omega)]
  · intro k _ i hi _ _ ih
    simp only [laws_eqInt64S.l0]
    rw [if_pos (by omega), if_pos (by omega), if_pos (by omega), w64 (by omega) (by omega)]
    simp only [eq_self, ↓reduceIte]
    exact ih () trivial
theorem markInt64S_at (l : List Int) (a : Int) (h0 : 0 ≤ a) (ha : a ≤ 1000000000000) (hl : l.length ≤ 1000000000) (k : Nat) (hk : l.length < k) : laws_markInt64S.f k l a = some (a + 1 * l.length, marks id 1 a l.length) := by
  unfold laws_markInt64S.f
  refine mark_loop (fun k s b i => laws_markInt64S.l0 k s b i) l.length 1 id a ?_ ?_ k l rfl hk
  · intro k s b hs
    simp only [laws_markInt64S.l0]
    rw [if_neg (by omega)]
  · intro k s i hi hs
    show laws_markInt64S.l0 (k + 1) s (a + 1 * (i : Int)) (i : Int) = laws_markInt64S.l0 k (s.set i (a + 1 * (i : Int))) (a + 1 * (i : Int) + 1) ((i : Int) + 1)
    have e1 : wrap64 (a + 1 * (i : Int) + 1) = a + 1 * (i : Int) + 1 := w64 (by omega) (by omega)
    have ei : wrap64 ((i : Int) + 1) = (i : Int) + 1 := w64 (by omega) (by omega)
    simp only [laws_markInt64S.l0]
    rw [if_pos (by omega), if_pos (by omega)]
    simp only [Int.toNat_natCast, e1, ei]
theorem heldInt64S_at (n : Nat) (a : Int) (h0 : 0 ≤ a) (ha : a ≤ 1000000000000) (hl : n ≤ 1000000000) (k : Nat) (hk : n < k) : laws_heldInt64S.f k (marks id 1 a n) a = some (a + 1 * n) := by
  unfold laws_heldInt64S.f
  refine held_loop (fun k b i => laws_heldInt64S.l0 k (marks id 1 a n) b i) n 1 a ?_ ?_ k hk
  · intro k b
    simp only [laws_heldInt64S.l0, marks_len]
    rw [if_neg (by omega)]
  · intro k i hi
    show laws_heldInt64S.l0 (k + 1) (marks id 1 a n) (a + 1 * (i : Int)) (i : Int) = laws_heldInt64S.l0 k (marks id 1 a n) (a + 1 * (i : Int) + 1) ((i : Int) + 1)
    have e1 : wrap64 (a + 1 * (i : Int) + 1) = a + 1 * (i : Int) + 1 := w64 (by omega) (by omega)
    have ei : wrap64 ((i : Int) + 1) = (i : Int) + 1 := w64 (by omega) (by omega)
    have eg : rd (marks id 1 a n) (i : Int) = a + 1 * (i : Int) := by
      simp only [rd, Int.toNat_natCast, List.getD_eq_getElem?_getD, marks_get _ _ _ _ _ hi, Option.getD_some]
      rfl
    simp only [laws_heldInt64S.l0, marks_len]
    rw [if_pos (by omega), if_pos (by omega)]
    simp only [eg, e1, ei, eq_self, ↓reduceIte]
theorem eqWindow_self (c : Int) (l : List Int) (hl : l.length ≤ 1000000000) (k : Nat) (hk : l.length < k) : laws_eqWindow.f k c l c l = some true := by
  unfold laws_eqWindow.f
  rw [if_pos rfl, eqInt64S_self l hl k hk]
  simp
end Go.Proofs.Ytldhhghppgkeaaa.Pure
