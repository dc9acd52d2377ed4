/- What the printed functions of the law FnExactClearWaits answer, as plain Lean. -/
import Derived.Test.YtijeopohnhlpoaaStFnExactClearWaits
import Derived.Test.YtijeopohnhlpoaaBase
namespace Go.Proofs.Ytijeopohnhlpoaa.Pure
open Go.RowKit Go.Proofs.Ytijeopohnhlpoaa.Open Go.Proofs.Ytijeopohnhlpoaa.Base Go.Proofs.Ytijeopohnhlpoaa.MFnExactClearWaits Go.Proofs.YtijeopohnhlpoaaW.PrintWords Go.Proofs.YtijeopohnhlpoaaW.PrintLast
set_option linter.unusedVariables false
set_option linter.unusedSimpArgs false

theorem eqWaitS_self (l : List S47) (hl : l.length ≤ 1000000000) (k : Nat) (hk : l.length < k) : laws_eqWaitS.f k l l = some true := by
  unfold laws_eqWaitS.f
  rw [if_pos rfl]
  refine loop_up (fun k (_ : Unit) i => laws_eqWaitS.l0 k l l i) l.length 0 (fun _ _ => true) (fun _ _ => True) ?_ ?_ k () 0 0 rfl (Nat.zero_le _) trivial (by omega)
  · intro k _ _ _
    simp only [laws_eqWaitS.l0]
    rw [if_neg (by omega)]
  · intro k _ i hi _ _ ih
    simp only [laws_eqWaitS.l0, laws_eqWait.f]
    rw [if_pos (by omega), if_pos (by omega), if_pos (by omega), w64 (by omega) (by omega)]
    simp only [eq_self, ↓reduceIte, Option.bind_some]
    exact ih () trivial

theorem szWaitS_at (l : List S38) (a : Int) (h0 : 0 ≤ a) (h1 : a ≤ 1048576) (hl : l.length ≤ maxLen) : laws_szWaitS.f l a = some (if a < l.length then -1 else a - l.length) := by
  unfold maxLen at hl
  unfold laws_szWaitS.f
  rw [w64 (by omega) (by omega)]
  by_cases h : a < l.length
  · rw [if_pos (by omega), if_pos h]
  · rw [if_neg (by omega), if_neg h]

def cvWait (x : S38) : S47 := ⟨x.f0, x.f1, x.f2, x.f3, x.f4, x.f5, x.f6⟩
theorem toWaitS_at (l : List S38) (hl : l.length ≤ 1000000000) (k : Nat) (hk : l.length < k) : laws_toWaitS.f k l = some (l.map cvWait) := by
  unfold laws_toWaitS.f
  rw [if_pos (by omega), if_pos (by omega)]
  refine to_loop (fun k s i => laws_toWaitS.l0 k l s i) l cvWait ?_ ?_ k _ (by simp) hk
  · intro k s hs
    simp only [laws_toWaitS.l0]
    rw [if_neg (by omega)]
  · intro k s i hi hs
    simp only [laws_toWaitS.l0, laws_toWait.f]
    rw [if_pos (by omega), if_pos (by omega)]
    simp only [Option.bind_some]
    rw [if_pos (by omega), w64 (by omega) (by omega)]
    simp only [Int.toNat_natCast, rd_T38, getD_at _ _ _ hi, cvWait]

def mkWait (a : Int) : S47 := ⟨a, a + 1, a + 1 + 1, a + 1 + 1 + 1, a + 1 + 1 + 1 + 1, a + 1 + 1 + 1 + 1 + 1, a + 1 + 1 + 1 + 1 + 1 + 1⟩
theorem markWaitS_at (l : List S47) (a : Int) (h0 : 0 ≤ a) (ha : a ≤ 1000000000000) (hl : l.length ≤ 1000000000) (k : Nat) (hk : l.length < k) : laws_markWaitS.f k l a = some (a + 7 * l.length, marks mkWait 7 a l.length) := by
  unfold laws_markWaitS.f
  refine mark_loop (fun k s b i => laws_markWaitS.l0 k s b i) l.length 7 mkWait a ?_ ?_ k l rfl hk
  · intro k s b hs
    simp only [laws_markWaitS.l0]
    rw [if_neg (by omega)]
  · intro k s i hi hs
    have hi' : i < s.length := by omega
    show laws_markWaitS.l0 (k + 1) s (a + 7 * (i : Int)) (i : Int) = laws_markWaitS.l0 k (s.set i (mkWait (a + 7 * (i : Int)))) (a + 7 * (i : Int) + 7) ((i : Int) + 1)
    have c1 : (i : Int) < (s.length : Int) := by omega
    have c2 : 0 ≤ (i : Int) := by omega
    have ei : wrap64 ((i : Int) + 1) = (i : Int) + 1 := w64 (by omega) (by omega)
    have el : a + 7 * (i : Int) + 1 + 1 + 1 + 1 + 1 + 1 + 1 = a + 7 * (i : Int) + 7 := by omega
    have e1 : wrap64 (a + 7 * (i : Int) + 1) = a + 7 * (i : Int) + 1 := by clear c1 ; exact w64 (by omega) (by omega)
    have e2 : wrap64 (a + 7 * (i : Int) + 1 + 1) = a + 7 * (i : Int) + 1 + 1 := by clear c1 e1; exact w64 (by omega) (by omega)
    have e3 : wrap64 (a + 7 * (i : Int) + 1 + 1 + 1) = a + 7 * (i : Int) + 1 + 1 + 1 := by clear c1 e1 e2; exact w64 (by omega) (by omega)
    have e4 : wrap64 (a + 7 * (i : Int) + 1 + 1 + 1 + 1) = a + 7 * (i : Int) + 1 + 1 + 1 + 1 := by clear c1 e1 e2 e3; exact w64 (by omega) (by omega)
    have e5 : wrap64 (a + 7 * (i : Int) + 1 + 1 + 1 + 1 + 1) = a + 7 * (i : Int) + 1 + 1 + 1 + 1 + 1 := by clear c1 e1 e2 e3 e4; exact w64 (by omega) (by omega)
    have e6 : wrap64 (a + 7 * (i : Int) + 1 + 1 + 1 + 1 + 1 + 1) = a + 7 * (i : Int) + 1 + 1 + 1 + 1 + 1 + 1 := by clear c1 e1 e2 e3 e4 e5; exact w64 (by omega) (by omega)
    have e7 : wrap64 (a + 7 * (i : Int) + 1 + 1 + 1 + 1 + 1 + 1 + 1) = a + 7 * (i : Int) + 1 + 1 + 1 + 1 + 1 + 1 + 1 := by clear c1 e1 e2 e3 e4 e5 e6; exact w64 (by omega) (by omega)
    simp only [laws_markWaitS.l0]
    rw [if_pos c1, if_pos c2]
    simp only [Option.bind_some, Int.toNat_natCast, e1, e2, e3, e4, e5, e6, e7, ei, rd_T47, getD_set, List.length_set, hi', List.set_set, mkWait]
    rw [el]

theorem heldWaitS_at (n : Nat) (a : Int) (h0 : 0 ≤ a) (ha : a ≤ 1000000000000) (hl : n ≤ 1000000000) (k : Nat) (hk : n < k) : laws_heldWaitS.f k (marks mkWait 7 a n) a = some (a + 7 * n) := by
  unfold laws_heldWaitS.f
  refine held_loop (fun k b i => laws_heldWaitS.l0 k (marks mkWait 7 a n) b i) n 7 a ?_ ?_ k hk
  · intro k b
    simp only [laws_heldWaitS.l0, marks_len]
    rw [if_neg (by omega)]
  · intro k i hi
    show laws_heldWaitS.l0 (k + 1) (marks mkWait 7 a n) (a + 7 * (i : Int)) (i : Int) = laws_heldWaitS.l0 k (marks mkWait 7 a n) (a + 7 * (i : Int) + 7) ((i : Int) + 1)
    have c1 : (i : Int) < (n : Int) := by omega
    have c2 : 0 ≤ (i : Int) := by omega
    have ei : wrap64 ((i : Int) + 1) = (i : Int) + 1 := w64 (by omega) (by omega)
    have el : a + 7 * (i : Int) + 1 + 1 + 1 + 1 + 1 + 1 + 1 = a + 7 * (i : Int) + 7 := by omega
    have e1 : wrap64 (a + 7 * (i : Int) + 1) = a + 7 * (i : Int) + 1 := by clear c1 ; exact w64 (by omega) (by omega)
    have e2 : wrap64 (a + 7 * (i : Int) + 1 + 1) = a + 7 * (i : Int) + 1 + 1 := by clear c1 e1; exact w64 (by omega) (by omega)
    have e3 : wrap64 (a + 7 * (i : Int) + 1 + 1 + 1) = a + 7 * (i : Int) + 1 + 1 + 1 := by clear c1 e1 e2; exact w64 (by omega) (by omega)
    have e4 : wrap64 (a + 7 * (i : Int) + 1 + 1 + 1 + 1) = a + 7 * (i : Int) + 1 + 1 + 1 + 1 := by clear c1 e1 e2 e3; exact w64 (by omega) (by omega)
    have e5 : wrap64 (a + 7 * (i : Int) + 1 + 1 + 1 + 1 + 1) = a + 7 * (i : Int) + 1 + 1 + 1 + 1 + 1 := by clear c1 e1 e2 e3 e4; exact w64 (by omega) (by omega)
    have e6 : wrap64 (a + 7 * (i : Int) + 1 + 1 + 1 + 1 + 1 + 1) = a + 7 * (i : Int) + 1 + 1 + 1 + 1 + 1 + 1 := by clear c1 e1 e2 e3 e4 e5; exact w64 (by omega) (by omega)
    have e7 : wrap64 (a + 7 * (i : Int) + 1 + 1 + 1 + 1 + 1 + 1 + 1) = a + 7 * (i : Int) + 1 + 1 + 1 + 1 + 1 + 1 + 1 := by clear c1 e1 e2 e3 e4 e5 e6; exact w64 (by omega) (by omega)
    have eg : rd_T47 (marks mkWait 7 a n) (i : Int) = mkWait (a + 7 * (i : Int)) := by
      simp only [rd_T47, Int.toNat_natCast, List.getD_eq_getElem?_getD, marks_get _ _ _ _ _ hi, Option.getD_some]
      rfl
    simp only [laws_heldWaitS.l0, marks_len]
    rw [if_pos c1, if_pos c2]
    simp only [eg, mkWait, e1, e2, e3, e4, e5, e6, e7, ei, eq_self, ↓reduceIte]
    rw [el]
theorem impl_in_at (a b c : Int) : impl_in.f a b c = some (decide (b ≤ a ∧ a ≤ c)) := by
  unfold impl_in.f
  by_cases h : a ≥ b
  · rw [if_pos h]
    have h' : b ≤ a := h
    simp [h']
  · rw [if_neg h]
    have h' : ¬ b ≤ a := h
    simp [h']
theorem spec_in_at (a b c : Int) : spec_l1In.f a b c = some (decide (b ≤ a ∧ a ≤ c)) := by
  unfold spec_l1In.f
  by_cases h : a ≥ b
  · rw [if_pos h]
    have h' : b ≤ a := h
    simp [h']
  · rw [if_neg h]
    have h' : ¬ b ≤ a := h
    simp [h']
def wok (b c d e f g : Int) : Bool := decide ((0 ≤ b ∧ b ≤ 1000000) ∧ (0 ≤ c ∧ c ≤ 3) ∧ (0 ≤ d ∧ d ≤ 1000000) ∧ (1 ≤ e ∧ e ≤ 9) ∧ (0 ≤ f ∧ f ≤ 3) ∧ (0 ≤ g ∧ g ≤ 1000000))
def wtv (a b c d e f g : Int) : Int := if (1 ≤ a ∧ a ≤ 4) ∧ (a = 4 ∨ (f = 0 ∧ g = 0)) then (if wok b c d e f g = true then 0 else 3) else 1
theorem spec_l9Wait_j0 (k : Nat) (x : Bool) (a b c d e f g : Int) : spec_l9Wait.j0 (k + 1) x a b c d e f g = some (if x = true then 1 else if wok b c d e f g = true then 0 else 3, a, b, c, d, e, f, g) := by
  cases x
  · simp only [spec_l9Wait.j0, spec_l9Node.f, spec_in_at, Option.bind_some, wok, decide_eq_true_eq, Bool.false_eq_true, if_false]
    repeat' split
    all_goals first | rfl | (exfalso; omega)
  · rfl
theorem spec_l9Wait_at (k : Nat) (a b c d e f g : Int) : spec_l9Wait.f (k + 1) a b c d e f g = some (wtv a b c d e f g, a, b, c, d, e, f, g) := by
  simp only [spec_l9Wait.f, spec_l9Wait_j0, spec_in_at, Option.bind_some, decide_eq_true_eq, wtv, bne_iff_ne, ne_eq]
  repeat' split
  all_goals first | rfl | (exfalso; omega) | (exfalso; simp_all; omega) | (exfalso; simp_all)
theorem spec_l9WaitAt_at (k : Nat) (a b c d e f g : Int) : spec_l9WaitAt.f (k + 1) a b c d e f g = some (wtv a b c d e f g) := by
  unfold spec_l9WaitAt.f
  rw [spec_l9Wait_at]
  rfl
def wof (c : S47) : Int := wtv c.f0 c.f1 c.f2 c.f3 c.f4 c.f5 c.f6
def wffv : List S47 → Int
  | [] => 0
  | c :: t => if wof c = 0 then wffv t else wof c
def wfv (l : List S47) : Int := if l.length > 40 then 2 else wffv l
theorem spec_WaitsFault_at (l : List S47) (k : Nat) (hk : 100 ≤ k) : spec_WaitsFault.f k l = some (wfv l) := by
  unfold spec_WaitsFault.f wfv
  by_cases hl : l.length > 40
  · rw [if_pos (by omega), if_pos hl]
  rw [if_neg (by omega), if_neg hl]
  refine loop_up (fun k (_ : Unit) i => spec_WaitsFault.l0 k l i) l.length 10 (fun _ i => wffv (l.drop i)) (fun _ i => True) ?_ ?_ k () 0 0 rfl (by omega) trivial (by omega)
  · intro k _ _ hm
    simp only [spec_WaitsFault.l0]
    rw [if_neg (by omega), List.drop_length]
    rfl
  · intro k _ i hi _ hm ih
    obtain ⟨k, rfl⟩ : ∃ x, k = x + 1 := ⟨k - 1, by omega⟩
    have e2 : wrap64 ((i : Int) + 1) = (i : Int) + 1 := w64 (by omega) (by omega)
    have hy : rd_T47 l (i : Int) = l[i] := by simp only [rd_T47, Int.toNat_natCast, getD_at _ _ _ hi]
    rw [spec_WaitsFault.l0]
    simp only [e2, spec_l9WaitAt_at, Option.bind_some]
    rw [if_pos (by omega), if_pos (by omega), hy, drop_cons l i hi]
    simp only [wffv]
    have hw : wtv l[i].f0 l[i].f1 l[i].f2 l[i].f3 l[i].f4 l[i].f5 l[i].f6 = wof l[i] := rfl
    rw [hw]
    by_cases h : wof l[i] = 0
    · rw [if_pos h, if_pos h]
      exact ih () trivial
    · rw [if_neg h, if_neg h]
theorem impl_WaitsFault_j1 (k : Nat) (l : List S47) (n i : Int) (x : Bool) (a b c d e f g : Int) : impl_WaitsFault.j1 (k + 1) l n i x a b c d e f g = if x = true then some 1 else if wok b c d e f g = true then impl_WaitsFault.l0 k l n (wrap64 (i + 1)) else some 3 := by
  rw [impl_WaitsFault.j1]
  cases x
  · simp only [impl_isSeq.f, impl_isNode.f, impl_in_at, Option.bind_some, wok, decide_eq_true_eq, Bool.false_eq_true, if_false]
    repeat' split
    all_goals first | rfl | (exfalso; omega)
  · rfl
theorem impl_WaitsFault_at (l : List S47) (k : Nat) (hk : 200 ≤ k) : impl_WaitsFault.f k l = some (wfv l) := by
  unfold impl_WaitsFault.f wfv
  by_cases hl : l.length > 40
  · rw [if_pos (by omega), if_pos hl]
  rw [if_neg (by omega), if_neg hl]
  refine loop_upc 2 (by omega) (fun k (_ : Unit) i => impl_WaitsFault.l0 k l (l.length : Int) i) l.length 10 (fun _ i => wffv (l.drop i)) (fun _ i => True) ?_ ?_ l.length k () 0 0 rfl (by omega) (by omega) trivial (by omega)
  · intro k _ _ hm
    rw [impl_WaitsFault.l0]
    rw [if_neg (by omega), List.drop_length]
    rfl
  · intro k _ i hi _ hm ih
    have e2 : wrap64 ((i : Int) + 1) = (i : Int) + 1 := w64 (by omega) (by omega)
    have hy : rd_T47 l (i : Int) = l[i] := by simp only [rd_T47, Int.toNat_natCast, getD_at _ _ _ hi]
    rw [impl_WaitsFault.l0]
    simp only [impl_WaitsFault_j1, e2, impl_in_at, Option.bind_some, decide_eq_true_eq]
    rw [if_pos (by omega), if_pos (by omega), if_pos (by omega), hy, drop_cons l i hi]
    have ih' := ih () trivial
    simp only [wffv]
    rw [show impl_WaitsFault.l0 k l (l.length : Int) ((i : Int) + 1) = _ from ih']
    generalize wffv (l.drop (i + 1)) = z
    unfold wof wtv
    simp only [bne_iff_ne, ne_eq]
    repeat' split
    all_goals first | rfl | (exfalso; omega) | (exfalso; simp_all; omega) | (exfalso; simp_all)
def lfv (g : S47 → Bool) (cv : S47 → S47) : List S47 → List S47
  | [] => []
  | c :: t => if g c = true then lfv g cv t else cv c :: lfv g cv t
def gnv (g : S47 → Bool) (cv : S47 → S47) : List S47 → List S47
  | [] => []
  | c :: t => if g c = true then cv c :: gnv g cv t else gnv g cv t
theorem lfv_cons (g : S47 → Bool) (cv : S47 → S47) (c : S47) (t : List S47) : lfv g cv (c :: t) = if g c = true then lfv g cv t else cv c :: lfv g cv t := rfl
theorem gnv_cons (g : S47 → Bool) (cv : S47 → S47) (c : S47) (t : List S47) : gnv g cv (c :: t) = if g c = true then cv c :: gnv g cv t else gnv g cv t := rfl
theorem split_len (g : S47 → Bool) (cv : S47 → S47) (l : List S47) : (lfv g cv l).length + (gnv g cv l).length = l.length := by
  induction l with
  | nil => rfl
  | cons c t ih =>
    rw [lfv_cons, gnv_cons]
    by_cases h : g c = true
    · rw [if_pos h, if_pos h]
      simp only [List.length_cons]
      omega
    · rw [if_neg h, if_neg h]
      simp only [List.length_cons]
      omega
theorem wfv_ok {l : List S47} (h : wfv l = 0) : l.length ≤ 40 := by
  unfold wfv at h
  split at h
  · omega
  · omega
theorem eqWaitsResult_self (c : Int) (v u : List S47) (hv : v.length ≤ 1000000000) (hu : u.length ≤ 1000000000) (k : Nat) (hk : v.length < k) (hk2 : u.length < k) : laws_eqWaitsResult.f k c v u c v u = some true := by
  unfold laws_eqWaitsResult.f
  rw [if_pos rfl, eqWaitS_self v hv k hk]
  simp only [Option.bind_some, ↓reduceIte]
  rw [eqWaitS_self u hu k hk2]
  rfl
theorem markWaitsResult_at (c : Int) (v u : List S47) (hv : v.length ≤ 1000000) (hu : u.length ≤ 1000000) (k : Nat) (hk : v.length < k) (hk2 : u.length < k) : laws_markWaitsResult.f k c v u 1 = some ((1 : Int) + 7 * v.length + 7 * u.length, marks mkWait 7 1 v.length, marks mkWait 7 (1 + 7 * v.length) u.length) := by
  unfold laws_markWaitsResult.f
  rw [markWaitS_at v 1 (by omega) (by omega) (by omega) k hk]
  simp only [Option.bind_some]
  rw [markWaitS_at u _ (by omega) (by omega) (by omega) k hk2]
  rfl
theorem heldWaitsResult_at (c : Int) (n m : Nat) (hv : n ≤ 1000000) (hu : m ≤ 1000000) (k : Nat) (hk : n < k) (hk2 : m < k) : laws_heldWaitsResult.f k c (marks mkWait 7 1 n) (marks mkWait 7 (1 + 7 * n) m) 1 = some ((1 : Int) + 7 * n + 7 * m) := by
  unfold laws_heldWaitsResult.f
  rw [heldWaitS_at n 1 (by omega) (by omega) (by omega) k hk]
  simp only [Option.bind_some]
  rw [if_neg (by omega), heldWaitS_at m _ (by omega) (by omega) (by omega) k hk2]
  simp only [Option.bind_some]
  rw [if_neg (by omega)]
def clg (q : Int) (c : S47) : Bool := decide (¬ c.f0 = 3 ∧ c.f1 = q)
def cvv (l : List S47) (q : Int) : Int × List S47 × List S47 := if wfv l = 0 then (if 0 ≤ q ∧ q ≤ 1000000 then (0, lfv (clg q) id l, gnv (clg q) id l) else (3, [], [])) else (wfv l, [], [])
theorem cvv_len (l : List S47) (q : Int) : (cvv l q).2.1.length ≤ 40 ∧ (cvv l q).2.2.length ≤ 40 := by
  unfold cvv
  split
  · rename_i h
    have h1 := wfv_ok h
    have h2 := split_len (clg q) id l
    split
    · exact ⟨by simp only; omega, by simp only; omega⟩
    · exact ⟨by simp, by simp⟩
  · exact ⟨by simp, by simp⟩
theorem spec_l9Clear_at (l : List S47) (hl : l.length ≤ 40) (q : Int) (k : Nat) (hk : 100 ≤ k) : spec_l9Clear.f k l q = some (lfv (clg q) id l, gnv (clg q) id l) := by
  unfold spec_l9Clear.f
  refine loop_up (fun k (s : List S47 × List S47) i => spec_l9Clear.l0 k l q s.1 s.2 i) l.length 0 (fun s i => (s.1 ++ lfv (clg q) id (l.drop i), s.2 ++ gnv (clg q) id (l.drop i))) (fun s i => s.1.length ≤ i ∧ s.2.length ≤ i) ?_ ?_ k ([], []) 0 0 rfl (by omega) (by simp) (by omega)
  · intro k s _ _
    simp only [spec_l9Clear.l0]
    rw [if_neg (by omega), List.drop_length]
    simp [lfv, gnv]
  · rintro k ⟨a, b⟩ i hi ⟨ha, hb⟩ _ ih
    simp only at ha hb
    have e2 : wrap64 ((i : Int) + 1) = (i : Int) + 1 := w64 (by omega) (by omega)
    have hy : rd_T47 l (i : Int) = l[i] := by simp only [rd_T47, Int.toNat_natCast, getD_at _ _ _ hi]
    simp only [spec_l9Clear.l0, e2]
    rw [if_pos (by omega), if_pos (by omega), hy, drop_cons l i hi, lfv_cons, gnv_cons]
    by_cases h : l[i].f0 = 3
    · have hg : ¬ clg q l[i] = true := by simp [clg, h]
      rw [if_pos h, if_pos (by omega), if_neg hg, if_neg hg]
      refine Eq.trans (ih (a ++ [l[i]], b) ⟨by simp only [List.length_append, List.length_cons, List.length_nil]; omega, by simp only; omega⟩) ?_
      simp only [List.append_assoc, List.singleton_append, id]
    · rw [if_neg h]
      by_cases h2 : l[i].f1 = q
      · have hg : clg q l[i] = true := by simp [clg, h, h2]
        rw [if_pos h2, if_pos (by omega), if_pos hg, if_pos hg]
        refine Eq.trans (ih (a, b ++ [l[i]]) ⟨by simp only; omega, by simp only [List.length_append, List.length_cons, List.length_nil]; omega⟩) ?_
        simp only [List.append_assoc, List.singleton_append, id]
      · have hg : ¬ clg q l[i] = true := by simp [clg, h2]
        rw [if_neg h2, if_pos (by omega), if_neg hg, if_neg hg]
        refine Eq.trans (ih (a ++ [l[i]], b) ⟨by simp only [List.length_append, List.length_cons, List.length_nil]; omega, by simp only; omega⟩) ?_
        simp only [List.append_assoc, List.singleton_append, id]
theorem spec_ClearWaits_at (l : List S47) (q : Int) (k : Nat) (hk : 200 ≤ k) : spec_ClearWaits.f k l q = some (cvv l q) := by
  unfold spec_ClearWaits.f cvv
  rw [spec_WaitsFault_at l k (by omega)]
  simp only [Option.bind_some, spec_in_at]
  by_cases h : wfv l = 0
  · rw [if_pos h, if_pos h, spec_l9Clear_at l (wfv_ok h) q k (by omega)]
    by_cases h2 : 0 ≤ q ∧ q ≤ 1000000
    · rw [if_pos h2, if_pos (by simpa using h2)]
      rfl
    · rw [if_neg h2, if_neg (by simpa using h2)]
  · rw [if_neg h, if_neg h]
theorem impl_ClearWaits_l0 (l : List S47) (hl : l.length ≤ 40) (q : Int) (k : Nat) (hk : 100 ≤ k) : impl_ClearWaits.l0 k q l (l.length : Int) 0 0 [] [] = some (0, lfv (clg q) id l, gnv (clg q) id l) := by
  refine loop_up (fun k (s : List S47 × List S47) i => impl_ClearWaits.l0 k q l (l.length : Int) i 0 s.1 s.2) l.length 0 (fun s i => (0, s.1 ++ lfv (clg q) id (l.drop i), s.2 ++ gnv (clg q) id (l.drop i))) (fun s i => s.1.length ≤ i ∧ s.2.length ≤ i) ?_ ?_ k ([], []) 0 0 rfl (by omega) (by simp) (by omega)
  · intro k s _ _
    simp only [impl_ClearWaits.l0]
    rw [if_neg (by omega), List.drop_length]
    simp [lfv, gnv]
  · rintro k ⟨a, b⟩ i hi ⟨ha, hb⟩ _ ih
    simp only at ha hb
    have e2 : wrap64 ((i : Int) + 1) = (i : Int) + 1 := w64 (by omega) (by omega)
    have hy : rd_T47 l (i : Int) = l[i] := by simp only [rd_T47, Int.toNat_natCast, getD_at _ _ _ hi]
    simp only [impl_ClearWaits.l0, e2]
    rw [if_pos (by omega), if_pos (by omega), if_pos (by omega), hy, drop_cons l i hi, lfv_cons, gnv_cons]
    by_cases h : l[i].f0 = 3
    · have hg : ¬ clg q l[i] = true := by simp [clg, h]
      rw [if_pos h, if_pos (by omega), if_neg hg, if_neg hg]
      refine Eq.trans (ih (a ++ [l[i]], b) ⟨by simp only [List.length_append, List.length_cons, List.length_nil]; omega, by simp only; omega⟩) ?_
      simp only [List.append_assoc, List.singleton_append, id]
    · rw [if_neg h]
      by_cases h2 : l[i].f1 = q
      · have hg : clg q l[i] = true := by simp [clg, h, h2]
        rw [if_pos h2, if_pos (by omega), if_pos hg, if_pos hg]
        refine Eq.trans (ih (a, b ++ [l[i]]) ⟨by simp only; omega, by simp only [List.length_append, List.length_cons, List.length_nil]; omega⟩) ?_
        simp only [List.append_assoc, List.singleton_append, id]
      · have hg : ¬ clg q l[i] = true := by simp [clg, h2]
        rw [if_neg h2, if_pos (by omega), if_neg hg, if_neg hg]
        refine Eq.trans (ih (a ++ [l[i]], b) ⟨by simp only [List.length_append, List.length_cons, List.length_nil]; omega, by simp only; omega⟩) ?_
        simp only [List.append_assoc, List.singleton_append, id]
theorem impl_ClearWaits_at (l : List S47) (q : Int) (k : Nat) (hk : 300 ≤ k) : impl_ClearWaits.f k l q = some (cvv l q) := by
  obtain ⟨k, rfl⟩ : ∃ x, k = x + 2 := ⟨k - 2, by omega⟩
  unfold impl_ClearWaits.f cvv
  rw [impl_WaitsFault_at l _ (by omega)]
  simp only [Option.bind_some, impl_isSeq.f, impl_in_at, impl_ClearWaits.j0, impl_ClearWaits.j1]
  by_cases h : wfv l = 0
  · rw [if_pos h, if_pos h, h]
    by_cases h2 : 0 ≤ q ∧ q ≤ 1000000
    · rw [if_pos h2, decide_eq_true h2]
      simp only [Bool.not_true, Bool.false_eq_true, ↓reduceIte]
      exact impl_ClearWaits_l0 l (wfv_ok h) q k (by omega)
    · rw [if_neg h2, decide_eq_false h2]
      simp
  · rw [if_neg h, if_neg h]
    simp [h]
end Go.Proofs.Ytijeopohnhlpoaa.Pure
