/- What the printed functions of the law FnWaits answer, as plain Lean. -/
import Derived.Test.YtpinapnhohjipaaStFnWaits
import Derived.Test.YtpinapnhohjipaaBaFnWaits
namespace Go.Proofs.Ytpinapnhohjipaa.Pure
open Go.RowKit Go.Proofs.Ytpinapnhohjipaa.Open Go.Proofs.Ytpinapnhohjipaa.Base Go.Proofs.Ytpinapnhohjipaa.MFnWaits Go.Proofs.YtpinapnhohjipaaW.PrintWords Go.Proofs.YtpinapnhohjipaaW.PrintLast
set_option linter.unusedVariables false
set_option linter.unusedSimpArgs false

def eqvWait (x y : S67) : Bool := ((x.f0 == y.f0) && ((x.f1 == y.f1) && ((x.f2 == y.f2) && ((x.f3 == y.f3) && ((x.f4 == y.f4) && ((x.f5 == y.f5) && (x.f6 == y.f6)))))))
def sameWaitS (a b : List S67) : Bool := decide (a.length = b.length) && (a.zip b).all fun x => eqvWait x.1 x.2
theorem spec_SameWaits_at (a b : List S67) (hl : a.length ≤ 1000000000) (k : Nat) (hk : a.length < k) : spec_SameWaits.f k a b = some (sameWaitS a b) := by
  unfold spec_SameWaits.f sameWaitS
  by_cases hn : a.length = b.length
  rotate_left
  · rw [if_neg (by omega)]
    simp [hn]
  rw [if_pos (by omega), decide_eq_true hn, Bool.true_and]
  refine loop_up (fun k (_ : Unit) i => spec_SameWaits.l0 k a b i) a.length 0 (fun _ i => ((a.drop i).zip (b.drop i)).all fun x => eqvWait x.1 x.2) (fun _ _ => True) ?_ ?_ k () 0 0 rfl (Nat.zero_le _) trivial (by omega)
  · intro k _ _ _
    simp only [spec_SameWaits.l0]
    rw [if_neg (by omega)]
    simp
  · intro k _ i hi _ _ ih
    have hj : i < b.length := by omega
    simp only [spec_SameWaits.l0]
    rw [if_pos (by omega), if_pos (by omega), if_pos (by omega), w64 (by omega) (by omega)]
    have hx : rd_T67 a (i : Int) = a[i] := by simp only [rd_T67, Int.toNat_natCast, getD_at _ _ _ hi]
    have hy : rd_T67 b (i : Int) = b[i] := by simp only [rd_T67, Int.toNat_natCast, getD_at _ _ _ hj]
    rw [hx, hy]
    have hr : ((a.drop i).zip (b.drop i)).all (fun x => eqvWait x.1 x.2) = (eqvWait a[i] b[i] && ((a.drop (i + 1)).zip (b.drop (i + 1))).all (fun x => eqvWait x.1 x.2)) := by
      rw [drop_cons a i hi, drop_cons b i hj]
      rfl
    rw [hr]
    have hb : eqvWait a[i] b[i] = ((a[i].f0 == b[i].f0) && ((a[i].f1 == b[i].f1) && ((a[i].f2 == b[i].f2) && ((a[i].f3 == b[i].f3) && ((a[i].f4 == b[i].f4) && ((a[i].f5 == b[i].f5) && (a[i].f6 == b[i].f6))))))) := rfl
    by_cases h : eqvWait a[i] b[i] = true
    · rw [h, Bool.true_and, if_neg (by rw [h] at hb; simp only [Bool.true_eq, Bool.and_eq_true] at hb; simp [hb]), ih () trivial]
    · have h' : eqvWait a[i] b[i] = false := by simpa using h
      rw [h', Bool.false_and, if_pos (by rw [h'] at hb; have hb' := congrArg (fun z => !z) hb; simp only [Bool.not_and, Bool.not_false] at hb'; exact hb'.symm)]

theorem impl_Wait_at (a b : List S67) (hl : a.length ≤ 1000000000) (k : Nat) (hk : a.length < k) : impl_Wait.f k a b = some (sameWaitS a b) := by
  unfold impl_Wait.f sameWaitS
  by_cases hn : a.length = b.length
  rotate_left
  · rw [if_neg (by omega)]
    simp [hn]
  rw [if_pos (by omega), decide_eq_true hn, Bool.true_and]
  refine loop_up (fun k (_ : Unit) i => impl_Wait.l0 k a b (a.length : Int) i) a.length 0 (fun _ i => ((a.drop i).zip (b.drop i)).all fun x => eqvWait x.1 x.2) (fun _ _ => True) ?_ ?_ k () 0 0 rfl (Nat.zero_le _) trivial (by omega)
  · intro k _ _ _
    simp only [impl_Wait.l0]
    rw [if_neg (by omega)]
    simp
  · intro k _ i hi _ _ ih
    have hj : i < b.length := by omega
    simp only [impl_Wait.l0]
    rw [if_pos (by omega), if_pos (by omega), if_pos (by omega), if_pos (by omega), w64 (by omega) (by omega)]
    have hx : rd_T67 a (i : Int) = a[i] := by simp only [rd_T67, Int.toNat_natCast, getD_at _ _ _ hi]
    have hy : rd_T67 b (i : Int) = b[i] := by simp only [rd_T67, Int.toNat_natCast, getD_at _ _ _ hj]
    rw [hx, hy]
    have hr : ((a.drop i).zip (b.drop i)).all (fun x => eqvWait x.1 x.2) = (eqvWait a[i] b[i] && ((a.drop (i + 1)).zip (b.drop (i + 1))).all (fun x => eqvWait x.1 x.2)) := by
      rw [drop_cons a i hi, drop_cons b i hj]
      rfl
    rw [hr]
    have hb : eqvWait a[i] b[i] = ((a[i].f0 == b[i].f0) && ((a[i].f1 == b[i].f1) && ((a[i].f2 == b[i].f2) && ((a[i].f3 == b[i].f3) && ((a[i].f4 == b[i].f4) && ((a[i].f5 == b[i].f5) && (a[i].f6 == b[i].f6))))))) := rfl
    by_cases h : eqvWait a[i] b[i] = true
    · rw [h, Bool.true_and, if_neg (by rw [h] at hb; simp only [Bool.true_eq, Bool.and_eq_true] at hb; simp [hb]), ih () trivial]
    · have h' : eqvWait a[i] b[i] = false := by simpa using h
      rw [h', Bool.false_and, if_pos (by rw [h'] at hb; have hb' := congrArg (fun z => !z) hb; simp only [Bool.not_and, Bool.not_false] at hb'; exact hb'.symm)]

theorem impl_SameWaits_at (a b : List S67) (hl : a.length ≤ 1000000000) (k : Nat) (hk : a.length < k) : impl_SameWaits.f k a b = some (sameWaitS a b) := by
  unfold impl_SameWaits.f
  rw [impl_Wait_at a b hl k hk]
  rfl
theorem impl_in_at (a b c : Int) : impl_in.f a b c = some (decide (b ≤ a ∧ a ≤ c)) := by
  unfold impl_in.f
  by_cases h : a ≥ b
  · rw [if_pos h]
    have h' : b ≤ a := h
    simp [h']
  · rw [if_neg h]
    have h' : ¬ b ≤ a := h
    simp [h']
theorem spec_in_at (a b c : Int) : spec_l1In.f a b c = some (decide (b ≤ a ∧ a ≤ c)) := by
  unfold spec_l1In.f
  by_cases h : a ≥ b
  · rw [if_pos h]
    have h' : b ≤ a := h
    simp [h']
  · rw [if_neg h]
    have h' : ¬ b ≤ a := h
    simp [h']
theorem tmod_in (a n : Int) (ha : 0 ≤ a) (hn : 0 < n) : 0 ≤ Int.tmod a n ∧ Int.tmod a n < n := ⟨Int.tmod_nonneg n ha, Int.tmod_lt_of_pos a hn⟩
def Bytes (code : List Int) : Prop := code.length ≤ 1048576 ∧ ∀ x ∈ code, 0 ≤ x ∧ x ≤ 255
theorem bytes_of {code : List Int} (hl : code.length ≤ 1048576) (h : ∀ x ∈ code, (Lit.int .u8 x).wf = true) : Bytes code := by
  refine ⟨hl, fun x hx => ?_⟩
  have h2 : (decide ((IntKind.u8).min ≤ x) && decide (x ≤ (IntKind.u8).max)) = true := h x hx
  rw [Bool.and_eq_true, decide_eq_true_eq, decide_eq_true_eq] at h2
  have e1 : (IntKind.u8).min = 0 := by decide
  have e2 : (IntKind.u8).max = 255 := by decide
  rw [e1, e2] at h2
  exact h2
theorem byte_in {code : List Int} (h : Bytes code) (i : Int) (h0 : 0 ≤ i) (h1 : i < code.length) : 0 ≤ rd code i ∧ rd code i ≤ 255 := by
  have e : rd code i = code[i.toNat]'(by omega) := by
    simp only [rd, List.getD_eq_getElem?_getD]
    rw [List.getElem?_eq_getElem (by omega)]
    rfl
  rw [e]
  exact h.2 _ (List.getElem_mem _)
theorem next_at {code : List Int} (h : Bytes code) (p n : Int) (hp : 0 ≤ p ∧ p ≤ 1000000) (hn : n ≤ 1000000000) : ∃ v, spec_l1Next.f code p n = some (v, p + 1) ∧ 0 ≤ v ∧ (1 ≤ n → v < n) ∧ (n < 1 → v = 0) := by
  have hl := h.1
  unfold spec_l1Next.f
  have e0 : wrap64 (p + 1) = p + 1 := w64 (by omega) (by omega)
  have e1 : wrap64 (p + 1 - 1) = p := by rw [w64 (by omega) (by omega)]; omega
  have e2 : wrap64 (p + 2) = p + 2 := w64 (by omega) (by omega)
  simp only [e0, e1, e2]
  by_cases hn1 : n < 1
  · rw [if_pos hn1]
    exact ⟨0, rfl, by omega, by omega, fun _ => rfl⟩
  rw [if_neg hn1]
  by_cases hz : (code.length : Int) = 0
  · rw [if_pos hz, if_neg (by omega), w64 (x := p * 7) (by omega) (by omega)]
    exact ⟨_, rfl, (tmod_in _ _ (by omega) (by omega)).1, fun _ => (tmod_in _ _ (by omega) (by omega)).2, by omega⟩
  rw [if_neg hz]
  have hL : 0 < (code.length : Int) := by omega
  have j0 := tmod_in p _ hp.1 hL
  have j1 := tmod_in (p + 1) _ (by omega) hL
  have j2 := tmod_in (p + 2) _ (by omega) hL
  have b0 := byte_in h _ j0.1 j0.2
  have b1 := byte_in h _ j1.1 j1.2
  have b2 := byte_in h _ j2.1 j2.2
  have q0 : 0 ≤ Int.tdiv p (code.length : Int) := Int.tdiv_nonneg hp.1 (by omega)
  have q1 : Int.tdiv p (code.length : Int) ≤ p := Int.tdiv_le_self _ hp.1
  generalize Int.tdiv p (code.length : Int) = q at *
  generalize rd code (Int.tmod p (code.length : Int)) = c0 at *
  generalize rd code (Int.tmod (p + 1) (code.length : Int)) = c1 at *
  generalize rd code (Int.tmod (p + 2) (code.length : Int)) = c2 at *
  rw [if_pos j0.1, if_pos j0.2]
  by_cases h2 : n > 200
  · rw [if_pos h2, if_pos j1.1, if_pos j1.2]
    by_cases h6 : n > 60000
    · rw [if_pos h6, if_pos j2.1, if_pos j2.2, if_neg (by omega)]
      simp (disch := omega) only [w64]
      exact ⟨_, rfl, (tmod_in _ _ (by omega) (by omega)).1, fun _ => (tmod_in _ _ (by omega) (by omega)).2, by omega⟩
    · rw [if_neg h6, if_neg (by omega)]
      simp (disch := omega) only [w64]
      exact ⟨_, rfl, (tmod_in _ _ (by omega) (by omega)).1, fun _ => (tmod_in _ _ (by omega) (by omega)).2, by omega⟩
  · rw [if_neg h2, if_neg (by omega), if_neg (by omega)]
    simp (disch := omega) only [w64]
    exact ⟨_, rfl, (tmod_in _ _ (by omega) (by omega)).1, fun _ => (tmod_in _ _ (by omega) (by omega)).2, by omega⟩
theorem lwBig_at (l : List Int) : laws_lwBig.f l = some (decide ((l.length : Int) > 1048576)) := rfl
theorem pick_at {code : List Int} (h : Bytes code) (p : Int) (hp : 0 ≤ p ∧ p ≤ 1000000) (l : List Int) (hl : 0 < l.length) (hm : l.length ≤ 1000000) : ∃ v, spec_l1Pick.f code p l = some (v, p + 1) ∧ v ∈ l := by
  obtain ⟨i, e, h0, h1, _⟩ := next_at h p (l.length : Int) hp (by omega)
  have h2 := h1 (by omega)
  unfold spec_l1Pick.f
  rw [e]
  simp only [Option.bind_some]
  rw [if_pos h0, if_pos h2]
  refine ⟨_, rfl, ?_⟩
  have e : rd l i = l[i.toNat]'(by omega) := by
    simp only [rd, List.getD_eq_getElem?_getD]
    rw [List.getElem?_eq_getElem (by omega)]
    rfl
  rw [e]
  exact List.getElem_mem _
theorem chance_at {code : List Int} (h : Bytes code) (p n : Int) (hp : 0 ≤ p ∧ p ≤ 1000000) (hn : n ≤ 1000000000) : ∃ b, spec_l1Chance.f code p n = some (b, p + 1) := by
  obtain ⟨v, e, _⟩ := next_at h p n hp hn
  unfold spec_l1Chance.f
  rw [e]
  exact ⟨_, rfl⟩
def wok (b c d e f g : Int) : Bool := decide ((0 ≤ b ∧ b ≤ 1000000) ∧ (0 ≤ c ∧ c ≤ 3) ∧ (0 ≤ d ∧ d ≤ 1000000) ∧ (1 ≤ e ∧ e ≤ 9) ∧ (0 ≤ f ∧ f ≤ 3) ∧ (0 ≤ g ∧ g ≤ 1000000))
def wtv (a b c d e f g : Int) : Int := if (1 ≤ a ∧ a ≤ 4) ∧ (a = 4 ∨ (f = 0 ∧ g = 0)) then (if wok b c d e f g = true then 0 else 3) else 1
theorem spec_l9Wait_j0 (k : Nat) (x : Bool) (a b c d e f g : Int) : spec_l9Wait.j0 (k + 1) x a b c d e f g = some (if x = true then 1 else if wok b c d e f g = true then 0 else 3, a, b, c, d, e, f, g) := by
  cases x
  · simp only [spec_l9Wait.j0, spec_l9Node.f, spec_in_at, Option.bind_some, wok, decide_eq_true_eq, Bool.false_eq_true, if_false]
    repeat' split
    all_goals first | rfl | (exfalso; omega)
  · rfl
theorem spec_l9Wait_at (k : Nat) (a b c d e f g : Int) : spec_l9Wait.f (k + 1) a b c d e f g = some (wtv a b c d e f g, a, b, c, d, e, f, g) := by
  simp only [spec_l9Wait.f, spec_l9Wait_j0, spec_in_at, Option.bind_some, decide_eq_true_eq, wtv, bne_iff_ne, ne_eq]
  repeat' split
  all_goals first | rfl | (exfalso; omega) | (exfalso; simp_all; omega) | (exfalso; simp_all)
theorem spec_l9WaitAt_at (k : Nat) (a b c d e f g : Int) : spec_l9WaitAt.f (k + 1) a b c d e f g = some (wtv a b c d e f g) := by
  unfold spec_l9WaitAt.f
  rw [spec_l9Wait_at]
  rfl
def wof (c : S67) : Int := wtv c.f0 c.f1 c.f2 c.f3 c.f4 c.f5 c.f6
def wffv : List S67 → Int
  | [] => 0
  | c :: t => if wof c = 0 then wffv t else wof c
def wfv (l : List S67) : Int := if l.length > 40 then 2 else wffv l
theorem impl_WaitsFault_j1 (k : Nat) (l : List S67) (n i : Int) (x : Bool) (a b c d e f g : Int) : impl_WaitsFault.j1 (k + 1) l n i x a b c d e f g = if x = true then some 1 else if wok b c d e f g = true then impl_WaitsFault.l0 k l n (wrap64 (i + 1)) else some 3 := by
  rw [impl_WaitsFault.j1]
  cases x
  · simp only [impl_isSeq.f, impl_isNode.f, impl_in_at, Option.bind_some, wok, decide_eq_true_eq, Bool.false_eq_true, if_false]
    repeat' split
    all_goals first | rfl | (exfalso; omega)
  · rfl
theorem impl_WaitsFault_at (l : List S67) (k : Nat) (hk : 200 ≤ k) : impl_WaitsFault.f k l = some (wfv l) := by
  unfold impl_WaitsFault.f wfv
  by_cases hl : l.length > 40
  · rw [if_pos (by omega), if_pos hl]
  rw [if_neg (by omega), if_neg hl]
  refine loop_upc 2 (by omega) (fun k (_ : Unit) i => impl_WaitsFault.l0 k l (l.length : Int) i) l.length 10 (fun _ i => wffv (l.drop i)) (fun _ i => True) ?_ ?_ l.length k () 0 0 rfl (by omega) (by omega) trivial (by omega)
  · intro k _ _ hm
    rw [impl_WaitsFault.l0]
    rw [if_neg (by omega), List.drop_length]
    rfl
  · intro k _ i hi _ hm ih
    have e2 : wrap64 ((i : Int) + 1) = (i : Int) + 1 := w64 (by omega) (by omega)
    have hy : rd_T67 l (i : Int) = l[i] := by simp only [rd_T67, Int.toNat_natCast, getD_at _ _ _ hi]
    rw [impl_WaitsFault.l0]
    simp only [impl_WaitsFault_j1, e2, impl_in_at, Option.bind_some, decide_eq_true_eq]
    rw [if_pos (by omega), if_pos (by omega), if_pos (by omega), hy, drop_cons l i hi]
    have ih' := ih () trivial
    simp only [wffv]
    rw [show impl_WaitsFault.l0 k l (l.length : Int) ((i : Int) + 1) = _ from ih']
    generalize wffv (l.drop (i + 1)) = z
    unfold wof wtv
    simp only [bne_iff_ne, ne_eq]
    repeat' split
    all_goals first | rfl | (exfalso; omega) | (exfalso; simp_all; omega) | (exfalso; simp_all)
theorem spec_WaitsFault_at (l : List S67) (k : Nat) (hk : 100 ≤ k) : spec_WaitsFault.f k l = some (wfv l) := by
  unfold spec_WaitsFault.f wfv
  by_cases hl : l.length > 40
  · rw [if_pos (by omega), if_pos hl]
  rw [if_neg (by omega), if_neg hl]
  refine loop_up (fun k (_ : Unit) i => spec_WaitsFault.l0 k l i) l.length 10 (fun _ i => wffv (l.drop i)) (fun _ i => True) ?_ ?_ k () 0 0 rfl (by omega) trivial (by omega)
  · intro k _ _ hm
    simp only [spec_WaitsFault.l0]
    rw [if_neg (by omega), List.drop_length]
    rfl
  · intro k _ i hi _ hm ih
    obtain ⟨k, rfl⟩ : ∃ x, k = x + 1 := ⟨k - 1, by omega⟩
    have e2 : wrap64 ((i : Int) + 1) = (i : Int) + 1 := w64 (by omega) (by omega)
    have hy : rd_T67 l (i : Int) = l[i] := by simp only [rd_T67, Int.toNat_natCast, getD_at _ _ _ hi]
    rw [spec_WaitsFault.l0]
    simp only [e2, spec_l9WaitAt_at, Option.bind_some]
    rw [if_pos (by omega), if_pos (by omega), hy, drop_cons l i hi]
    simp only [wffv]
    have hw : wtv l[i].f0 l[i].f1 l[i].f2 l[i].f3 l[i].f4 l[i].f5 l[i].f6 = wof l[i] := rfl
    rw [hw]
    by_cases h : wof l[i] = 0
    · rw [if_pos h, if_pos h]
      exact ih () trivial
    · rw [if_neg h, if_neg h]
def lfv (g : S67 → Bool) (cv : S67 → S67) : List S67 → List S67
  | [] => []
  | c :: t => if g c = true then lfv g cv t else cv c :: lfv g cv t
def gnv (g : S67 → Bool) (cv : S67 → S67) : List S67 → List S67
  | [] => []
  | c :: t => if g c = true then cv c :: gnv g cv t else gnv g cv t
theorem lfv_cons (g : S67 → Bool) (cv : S67 → S67) (c : S67) (t : List S67) : lfv g cv (c :: t) = if g c = true then lfv g cv t else cv c :: lfv g cv t := rfl
theorem gnv_cons (g : S67 → Bool) (cv : S67 → S67) (c : S67) (t : List S67) : gnv g cv (c :: t) = if g c = true then cv c :: gnv g cv t else gnv g cv t := rfl
theorem split_len (g : S67 → Bool) (cv : S67 → S67) (l : List S67) : (lfv g cv l).length + (gnv g cv l).length = l.length := by
  induction l with
  | nil => rfl
  | cons c t ih =>
    rw [lfv_cons, gnv_cons]
    by_cases h : g c = true
    · rw [if_pos h, if_pos h]
      simp only [List.length_cons]
      omega
    · rw [if_neg h, if_neg h]
      simp only [List.length_cons]
      omega
theorem wfv_ok {l : List S67} (h : wfv l = 0) : l.length ≤ 40 := by
  unfold wfv at h
  split at h
  · omega
  · omega
def agw (c : S67) : S67 := ⟨c.f0, c.f1, c.f2, c.f3, wrap64 (c.f4 - 1), c.f5, c.f6⟩
def agg (c : S67) : Bool := !decide (wrap64 (c.f4 - 1) > 0)
def avv (l : List S67) : Int × List S67 × List S67 := if wfv l = 0 then (0, lfv agg agw l, gnv agg agw l) else (wfv l, [], [])
theorem avv_len (l : List S67) : (avv l).2.1.length ≤ 40 ∧ (avv l).2.2.length ≤ 40 := by
  unfold avv
  split
  · rename_i h
    have h1 := wfv_ok h
    have h2 := split_len agg agw l
    exact ⟨by simp only; omega, by simp only; omega⟩
  · exact ⟨by simp, by simp⟩
theorem spec_l9Age_at (l : List S67) (hl : l.length ≤ 40) (k : Nat) (hk : 100 ≤ k) : spec_l9Age.f k l = some (lfv agg agw l, gnv agg agw l) := by
  unfold spec_l9Age.f
  refine loop_up (fun k (s : List S67 × List S67) i => spec_l9Age.l0 k l s.1 s.2 i) l.length 0 (fun s i => (s.1 ++ lfv agg agw (l.drop i), s.2 ++ gnv agg agw (l.drop i))) (fun s i => s.1.length ≤ i ∧ s.2.length ≤ i) ?_ ?_ k ([], []) 0 0 rfl (by omega) (by simp) (by omega)
  · intro k s _ _
    simp only [spec_l9Age.l0]
    rw [if_neg (by omega), List.drop_length]
    simp [lfv, gnv]
  · rintro k ⟨a, b⟩ i hi ⟨ha, hb⟩ _ ih
    simp only at ha hb
    have e2 : wrap64 ((i : Int) + 1) = (i : Int) + 1 := w64 (by omega) (by omega)
    have hy : rd_T67 l (i : Int) = l[i] := by simp only [rd_T67, Int.toNat_natCast, getD_at _ _ _ hi]
    simp only [spec_l9Age.l0, e2]
    rw [if_pos (by omega), if_pos (by omega), hy, drop_cons l i hi, lfv_cons, gnv_cons]
    by_cases h : wrap64 (l[i].f4 - 1) > 0
    · have hg : ¬ agg l[i] = true := by simp [agg, h]
      rw [if_pos h, if_pos (by omega), if_neg hg, if_neg hg]
      refine Eq.trans (ih (a ++ [agw l[i]], b) ⟨by simp only [List.length_append, List.length_cons, List.length_nil]; omega, by simp only; omega⟩) ?_
      simp only [List.append_assoc, List.singleton_append]
    · have hg : agg l[i] = true := by simp [agg, h]
      rw [if_neg h, if_pos (by omega), if_pos hg, if_pos hg]
      refine Eq.trans (ih (a, b ++ [agw l[i]]) ⟨by simp only; omega, by simp only [List.length_append, List.length_cons, List.length_nil]; omega⟩) ?_
      simp only [List.append_assoc, List.singleton_append]
theorem spec_AgeWaits_at (l : List S67) (k : Nat) (hk : 200 ≤ k) : spec_AgeWaits.f k l = some (avv l) := by
  unfold spec_AgeWaits.f avv
  rw [spec_WaitsFault_at l k (by omega)]
  simp only [Option.bind_some]
  by_cases h : wfv l = 0
  · rw [if_pos h, if_pos h, spec_l9Age_at l (wfv_ok h) k (by omega)]
    rfl
  · rw [if_neg h, if_neg h]
theorem impl_AgeWaits_at (l : List S67) (k : Nat) (hk : 200 ≤ k) : impl_AgeWaits.f k l = some (avv l) := by
  unfold impl_AgeWaits.f avv
  rw [impl_WaitsFault_at l k (by omega)]
  simp only [Option.bind_some]
  by_cases h : wfv l = 0
  · have hl := wfv_ok h
    rw [if_pos h, if_pos h, h]
    refine loop_up (fun k (s : List S67 × List S67) i => impl_AgeWaits.l0 k l (l.length : Int) i 0 s.1 s.2) l.length 0 (fun s i => (0, s.1 ++ lfv agg agw (l.drop i), s.2 ++ gnv agg agw (l.drop i))) (fun s i => s.1.length ≤ i ∧ s.2.length ≤ i) ?_ ?_ k ([], []) 0 0 rfl (by omega) (by simp) (by omega)
    · intro k s _ _
      simp only [impl_AgeWaits.l0]
      rw [if_neg (by omega), List.drop_length]
      simp [lfv, gnv]
    · rintro k ⟨a, b⟩ i hi ⟨ha, hb⟩ _ ih
      simp only at ha hb
      have e2 : wrap64 ((i : Int) + 1) = (i : Int) + 1 := w64 (by omega) (by omega)
      have hy : rd_T67 l (i : Int) = l[i] := by simp only [rd_T67, Int.toNat_natCast, getD_at _ _ _ hi]
      simp only [impl_AgeWaits.l0, e2]
      rw [if_pos (by omega), if_pos (by omega), if_pos (by omega), hy, drop_cons l i hi, lfv_cons, gnv_cons]
      by_cases h : wrap64 (l[i].f4 - 1) > 0
      · have hg : ¬ agg l[i] = true := by simp [agg, h]
        rw [if_pos h, if_pos (by omega), if_neg hg, if_neg hg]
        refine Eq.trans (ih (a ++ [agw l[i]], b) ⟨by simp only [List.length_append, List.length_cons, List.length_nil]; omega, by simp only; omega⟩) ?_
        simp only [List.append_assoc, List.singleton_append]
      · have hg : agg l[i] = true := by simp [agg, h]
        rw [if_neg h, if_pos (by omega), if_pos hg, if_pos hg]
        refine Eq.trans (ih (a, b ++ [agw l[i]]) ⟨by simp only; omega, by simp only [List.length_append, List.length_cons, List.length_nil]; omega⟩) ?_
        simp only [List.append_assoc, List.singleton_append]
  · rw [if_neg h, if_neg h]
def clg (q : Int) (c : S67) : Bool := decide (¬ c.f0 = 3 ∧ c.f1 = q)
def cvv (l : List S67) (q : Int) : Int × List S67 × List S67 := if wfv l = 0 then (if 0 ≤ q ∧ q ≤ 1000000 then (0, lfv (clg q) id l, gnv (clg q) id l) else (3, [], [])) else (wfv l, [], [])
theorem cvv_len (l : List S67) (q : Int) : (cvv l q).2.1.length ≤ 40 ∧ (cvv l q).2.2.length ≤ 40 := by
  unfold cvv
  split
  · rename_i h
    have h1 := wfv_ok h
    have h2 := split_len (clg q) id l
    split
    · exact ⟨by simp only; omega, by simp only; omega⟩
    · exact ⟨by simp, by simp⟩
  · exact ⟨by simp, by simp⟩
theorem spec_l9Clear_at (l : List S67) (hl : l.length ≤ 40) (q : Int) (k : Nat) (hk : 100 ≤ k) : spec_l9Clear.f k l q = some (lfv (clg q) id l, gnv (clg q) id l) := by
  unfold spec_l9Clear.f
  refine loop_up (fun k (s : List S67 × List S67) i => spec_l9Clear.l0 k l q s.1 s.2 i) l.length 0 (fun s i => (s.1 ++ lfv (clg q) id (l.drop i), s.2 ++ gnv (clg q) id (l.drop i))) (fun s i => s.1.length ≤ i ∧ s.2.length ≤ i) ?_ ?_ k ([], []) 0 0 rfl (by omega) (by simp) (by omega)
  · intro k s _ _
    simp only [spec_l9Clear.l0]
    rw [if_neg (by omega), List.drop_length]
    simp [lfv, gnv]
  · rintro k ⟨a, b⟩ i hi ⟨ha, hb⟩ _ ih
    simp only at ha hb
    have e2 : wrap64 ((i : Int) + 1) = (i : Int) + 1 := w64 (by omega) (by omega)
    have hy : rd_T67 l (i : Int) = l[i] := by simp only [rd_T67, Int.toNat_natCast, getD_at _ _ _ hi]
    simp only [spec_l9Clear.l0, e2]
    rw [if_pos (by omega), if_pos (by omega), hy, drop_cons l i hi, lfv_cons, gnv_cons]
    by_cases h : l[i].f0 = 3
    · have hg : ¬ clg q l[i] = true := by simp [clg, h]
      rw [if_pos h, if_pos (by omega), if_neg hg, if_neg hg]
      refine Eq.trans (ih (a ++ [l[i]], b) ⟨by simp only [List.length_append, List.length_cons, List.length_nil]; omega, by simp only; omega⟩) ?_
      simp only [List.append_assoc, List.singleton_append, id]
    · rw [if_neg h]
      by_cases h2 : l[i].f1 = q
      · have hg : clg q l[i] = true := by simp [clg, h, h2]
        rw [if_pos h2, if_pos (by omega), if_pos hg, if_pos hg]
        refine Eq.trans (ih (a, b ++ [l[i]]) ⟨by simp only; omega, by simp only [List.length_append, List.length_cons, List.length_nil]; omega⟩) ?_
        simp only [List.append_assoc, List.singleton_append, id]
      · have hg : ¬ clg q l[i] = true := by simp [clg, h2]
        rw [if_neg h2, if_pos (by omega), if_neg hg, if_neg hg]
        refine Eq.trans (ih (a ++ [l[i]], b) ⟨by simp only [List.length_append, List.length_cons, List.length_nil]; omega, by simp only; omega⟩) ?_
        simp only [List.append_assoc, List.singleton_append, id]
theorem spec_ClearWaits_at (l : List S67) (q : Int) (k : Nat) (hk : 200 ≤ k) : spec_ClearWaits.f k l q = some (cvv l q) := by
  unfold spec_ClearWaits.f cvv
  rw [spec_WaitsFault_at l k (by omega)]
  simp only [Option.bind_some, spec_in_at]
  by_cases h : wfv l = 0
  · rw [if_pos h, if_pos h, spec_l9Clear_at l (wfv_ok h) q k (by omega)]
    by_cases h2 : 0 ≤ q ∧ q ≤ 1000000
    · rw [if_pos h2, if_pos (by simpa using h2)]
      rfl
    · rw [if_neg h2, if_neg (by simpa using h2)]
  · rw [if_neg h, if_neg h]
theorem impl_ClearWaits_l0 (l : List S67) (hl : l.length ≤ 40) (q : Int) (k : Nat) (hk : 100 ≤ k) : impl_ClearWaits.l0 k q l (l.length : Int) 0 0 [] [] = some (0, lfv (clg q) id l, gnv (clg q) id l) := by
  refine loop_up (fun k (s : List S67 × List S67) i => impl_ClearWaits.l0 k q l (l.length : Int) i 0 s.1 s.2) l.length 0 (fun s i => (0, s.1 ++ lfv (clg q) id (l.drop i), s.2 ++ gnv (clg q) id (l.drop i))) (fun s i => s.1.length ≤ i ∧ s.2.length ≤ i) ?_ ?_ k ([], []) 0 0 rfl (by omega) (by simp) (by omega)
  · intro k s _ _
    simp only [impl_ClearWaits.l0]
    rw [if_neg (by omega), List.drop_length]
    simp [lfv, gnv]
  · rintro k ⟨a, b⟩ i hi ⟨ha, hb⟩ _ ih
    simp only at ha hb
    have e2 : wrap64 ((i : Int) + 1) = (i : Int) + 1 := w64 (by omega) (by omega)
    have hy : rd_T67 l (i : Int) = l[i] := by simp only [rd_T67, Int.toNat_natCast, getD_at _ _ _ hi]
    simp only [impl_ClearWaits.l0, e2]
    rw [if_pos (by omega), if_pos (by omega), if_pos (by omega), hy, drop_cons l i hi, lfv_cons, gnv_cons]
    by_cases h : l[i].f0 = 3
    · have hg : ¬ clg q l[i] = true := by simp [clg, h]
      rw [if_pos h, if_pos (by omega), if_neg hg, if_neg hg]
      refine Eq.trans (ih (a ++ [l[i]], b) ⟨by simp only [List.length_append, List.length_cons, List.length_nil]; omega, by simp only; omega⟩) ?_
      simp only [List.append_assoc, List.singleton_append, id]
    · rw [if_neg h]
      by_cases h2 : l[i].f1 = q
      · have hg : clg q l[i] = true := by simp [clg, h, h2]
        rw [if_pos h2, if_pos (by omega), if_pos hg, if_pos hg]
        refine Eq.trans (ih (a, b ++ [l[i]]) ⟨by simp only; omega, by simp only [List.length_append, List.length_cons, List.length_nil]; omega⟩) ?_
        simp only [List.append_assoc, List.singleton_append, id]
      · have hg : ¬ clg q l[i] = true := by simp [clg, h2]
        rw [if_neg h2, if_pos (by omega), if_neg hg, if_neg hg]
        refine Eq.trans (ih (a ++ [l[i]], b) ⟨by simp only [List.length_append, List.length_cons, List.length_nil]; omega, by simp only; omega⟩) ?_
        simp only [List.append_assoc, List.singleton_append, id]
theorem impl_ClearWaits_at (l : List S67) (q : Int) (k : Nat) (hk : 300 ≤ k) : impl_ClearWaits.f k l q = some (cvv l q) := by
  obtain ⟨k, rfl⟩ : ∃ x, k = x + 2 := ⟨k - 2, by omega⟩
  unfold impl_ClearWaits.f cvv
  rw [impl_WaitsFault_at l _ (by omega)]
  simp only [Option.bind_some, impl_isSeq.f, impl_in_at, impl_ClearWaits.j0, impl_ClearWaits.j1]
  by_cases h : wfv l = 0
  · rw [if_pos h, if_pos h, h]
    by_cases h2 : 0 ≤ q ∧ q ≤ 1000000
    · rw [if_pos h2, decide_eq_true h2]
      simp only [Bool.not_true, Bool.false_eq_true, ↓reduceIte]
      exact impl_ClearWaits_l0 l (wfv_ok h) q k (by omega)
    · rw [if_neg h2, decide_eq_false h2]
      simp
  · rw [if_neg h, if_neg h]
    simp [h]
theorem l9Draw_at {code : List Int} (h : Bytes code) (p : Int) (hp : 0 ≤ p) (hp2 : p ≤ 900000) : ∃ a b c d e f g p', spec_l9Draw.f code p = some (a, b, c, d, e, f, g, p') ∧ p ≤ p' ∧ p' ≤ p + 10 := by
  obtain ⟨a, e1, _⟩ := pick_at h p (by omega) [1, 2, 3, 4] (by decide) (by decide)
  obtain ⟨b, e2, _⟩ := pick_at h (p + 1) (by omega) [0, 1, 2, 3] (by decide) (by decide)
  obtain ⟨c, e3, _⟩ := next_at h (p + 1 + 1) 4 (by omega) (by omega)
  obtain ⟨d, e4, _⟩ := next_at h (p + 1 + 1 + 1) 3 (by omega) (by omega)
  obtain ⟨e, e5, _⟩ := pick_at h (p + 1 + 1 + 1 + 1) (by omega) [1, 1, 2, 9] (by decide) (by decide)
  obtain ⟨f, e6, _⟩ := next_at h (p + 1 + 1 + 1 + 1 + 1) 4 (by omega) (by omega)
  obtain ⟨g, e7, _⟩ := pick_at h (p + 1 + 1 + 1 + 1 + 1 + 1) (by omega) [0, 7] (by decide) (by decide)
  unfold spec_l9Draw.f
  simp only [e1, e2, e3, e4, e5, e6, e7, Option.bind_some]
  by_cases ha : a = 4
  · rw [if_pos ha]
    exact ⟨_, _, _, _, _, _, _, _, rfl, by omega, by omega⟩
  · rw [if_neg ha]
    exact ⟨_, _, _, _, _, _, _, _, rfl, by omega, by omega⟩
theorem l9Bent_l1 {code : List Int} (h : Bytes code) (n : Int) (hn : n ≤ 40) (a b c d e f g : Int) (m : Nat) : ∀ (k : Nat) (l : List S67) (p : Int), (n - (l.length : Int)).toNat = m → m < k → (l.length : Int) ≤ 40 → 0 ≤ p → p + 10 * m ≤ 800000 →
    ∃ l' p', spec_l9Bent.l1 k l n code p a b c d e f g = some (l', p') ∧ 1 ≤ l'.length ∧ l'.length ≤ 41 ∧ p ≤ p' ∧ p' ≤ p + 10 * m := by
  induction m with
  | zero =>
    intro k l p hm hk hl hp hp2
    obtain ⟨k, rfl⟩ : ∃ x, k = x + 1 := ⟨k - 1, by omega⟩
    rw [spec_l9Bent.l1, if_neg (by omega), if_pos (by omega)]
    exact ⟨_, _, rfl, by simp, by simp; omega, by omega, by omega⟩
  | succ m ih =>
    intro k l p hm hk hl hp hp2
    obtain ⟨k, rfl⟩ : ∃ x, k = x + 1 := ⟨k - 1, by omega⟩
    obtain ⟨a', b', c', d', e', f', g', p', e1, q1, q2⟩ := l9Draw_at h p hp (by omega)
    rw [spec_l9Bent.l1, if_pos (by omega), e1]
    simp only [Option.bind_some]
    rw [if_pos (by omega)]
    obtain ⟨l', p2, f1, f2, f3, f4, f5⟩ := ih k (l ++ [⟨a', b', c', d', e', f', g'⟩]) p' (by simp; omega) (by omega) (by simp; omega) (by omega) (by omega)
    exact ⟨l', p2, f1, f2, f3, by omega, by omega⟩
theorem l9Bent_l0 {code : List Int} (h : Bytes code) (m : Nat) : ∀ (k : Nat) (l : List S67) (n p : Int), n = m → m + 60 < k → l.length + m ≤ 10 → 0 ≤ p → p + 10 * m ≤ 700000 →
    ∃ l' p', spec_l9Bent.l0 k l n code p = some (l', p') ∧ 1 ≤ l'.length ∧ l'.length ≤ 41 ∧ p ≤ p' ∧ p' ≤ p + 10 * m + 500 := by
  induction m with
  | zero =>
    intro k l n p hn hk hl hp hp2
    obtain ⟨k, rfl⟩ : ∃ x, k = x + 1 := ⟨k - 1, by omega⟩
    obtain ⟨a, b, c, d, e, f, g, q, e1, q1, q2⟩ := l9Draw_at h p hp (by omega)
    obtain ⟨v, e2, _⟩ := next_at h q 14 (by omega) (by omega)
    obtain ⟨x0, f0, _⟩ := pick_at h (q + 1) (by omega) [0, 5] (by decide) (by decide)
    obtain ⟨x1, f1, _⟩ := pick_at h (q + 1) (by omega) [-1, 1000001] (by decide) (by decide)
    obtain ⟨x2, f2, _⟩ := pick_at h (q + 1) (by omega) [0, 10] (by decide) (by decide)
    obtain ⟨x3, f3, _⟩ := pick_at h (q + 1) (by omega) [1, 4, -1] (by decide) (by decide)
    obtain ⟨x4, f4, hx4⟩ := pick_at h (q + 1) (by omega) [39, 40] (by decide) (by decide)
    have hx5 : x4 ≤ 40 := by
      simp only [List.mem_cons, List.not_mem_nil, or_false] at hx4
      omega
    obtain ⟨l', p', g1, g2, g3, g4, g5⟩ := l9Bent_l1 h x4 hx5 a b c d e f g _ k l (q + 1 + 1) rfl (by omega) (by omega) (by omega) (by omega)
    rw [spec_l9Bent.l0, if_neg (by omega)]
    simp only [e1, e2, f0, f1, f2, f3, f4, g1, Option.bind_some, show l.length < 2513169434916 from by omega, ↓reduceIte]
    repeat' split
    all_goals first | exact ⟨_, _, rfl, g2, g3, by omega, by omega⟩ | exact ⟨_, _, rfl, by simp, by simp; omega, by omega, by omega⟩
  | succ m ih =>
    intro k l n p hn hk hl hp hp2
    obtain ⟨k, rfl⟩ : ∃ x, k = x + 1 := ⟨k - 1, by omega⟩
    obtain ⟨a', b', c', d', e', f', g', p', e1, q1, q2⟩ := l9Draw_at h p hp (by omega)
    rw [spec_l9Bent.l0, if_pos (by omega), e1]
    simp only [Option.bind_some]
    rw [if_pos (by omega), w64 (by omega) (by omega)]
    obtain ⟨l', p2, f1, f2, f3, f4, f5⟩ := ih k (l ++ [⟨a', b', c', d', e', f', g'⟩]) (n - 1) p' (by omega) (by omega) (by simp; omega) (by omega) (by omega)
    exact ⟨l', p2, f1, f2, f3, by omega, by omega⟩
theorem l9Bent_at {code : List Int} (h : Bytes code) (k : Nat) (hk : 100 ≤ k) : ∃ l p', spec_l9Bent.f k code 0 = some (l, p') ∧ 1 ≤ l.length ∧ l.length ≤ 41 ∧ 0 ≤ p' ∧ p' ≤ 2000 := by
  obtain ⟨n, e1, hn⟩ := pick_at h 0 (by omega) [0, 1, 3, 6] (by decide) (by decide)
  have hn2 : 0 ≤ n ∧ n ≤ 6 := by
    simp only [List.mem_cons, List.not_mem_nil, or_false] at hn
    omega
  obtain ⟨l', p2, f1, f2, f3, f4, f5⟩ := l9Bent_l0 h n.toNat k [] n (0 + 1) (by omega) (by omega) (by simp; omega) (by omega) (by omega)
  unfold spec_l9Bent.f
  rw [e1]
  simp only [Option.bind_some]
  exact ⟨l', p2, f1, f2, f3, by omega, by omega⟩
theorem drawAgeWaits_at {code : List Int} (h : Bytes code) (k : Nat) (hk : 100 ≤ k) : ∃ l, spec_DrawAgeWaits.f k code = some l ∧ l.length ≤ 41 := by
  obtain ⟨l, p, e1, _, hl, _⟩ := l9Bent_at h k hk
  unfold spec_DrawAgeWaits.f spec_l1Source.f
  simp only [e1, Option.bind_some]
  exact ⟨_, rfl, hl⟩
theorem drawClearWaits_at {code : List Int} (h : Bytes code) (k : Nat) (hk : 100 ≤ k) : ∃ l q, spec_DrawClearWaits.f k code = some (l, q) ∧ l.length ≤ 41 := by
  obtain ⟨l, p, e1, _, hl, hp, hp2⟩ := l9Bent_at h k hk
  obtain ⟨x, e2, _⟩ := pick_at h p (by omega) [0, 1, 2, 3, -1, 1000001] (by decide) (by decide)
  unfold spec_DrawClearWaits.f spec_l1Source.f
  simp only [e1, e2, Option.bind_some]
  exact ⟨_, _, rfl, hl⟩
theorem drawSameWaits_at {code : List Int} (h : Bytes code) (k : Nat) (hk : 100 ≤ k) : ∃ a b, spec_DrawSameWaits.f k code = some (a, b) ∧ a.length ≤ 41 ∧ b.length ≤ 41 := by
  obtain ⟨l, p, e1, hl1, hl, hp, hp2⟩ := l9Bent_at h k hk
  obtain ⟨c, e2⟩ := chance_at h p 2 (by omega) (by omega)
  obtain ⟨v, e3, v0, v1, _⟩ := next_at h (p + 1) (l.length : Int) (by omega) (by omega)
  obtain ⟨x, e4, _⟩ := pick_at h (p + 1 + 1) (by omega) [1, 7] (by decide) (by decide)
  have v2 := v1 (by omega)
  unfold spec_DrawSameWaits.f spec_l1Source.f
  simp only [e1, e2, e3, e4, Option.bind_some, List.length_nil, List.nil_append]
  rw [if_pos (by omega)]
  cases c with
  | true =>
    rw [if_pos rfl, if_pos v0, if_pos v2]
    exact ⟨_, _, rfl, hl, by simp; omega⟩
  | false =>
    rw [if_neg (by decide)]
    exact ⟨_, _, rfl, hl, hl⟩
theorem sameWaitS_self (l : List S67) : sameWaitS l l = true := by
  unfold sameWaitS
  rw [decide_eq_true rfl, Bool.true_and]
  induction l with
  | nil => rfl
  | cons c t ih =>
    simp only [List.zip_cons_cons, List.all_cons, ih, Bool.and_true]
    simp [eqvWait]
theorem wffv_lfv (g : S67 → Bool) (cv : S67 → S67) (hg : ∀ c, wof c = 0 → g c = false → wof (cv c) = 0) (l : List S67) (h : wffv l = 0) : wffv (lfv g cv l) = 0 := by
  induction l with
  | nil => rfl
  | cons c t ih =>
    have hc : wof c = 0 := by
      by_cases hc : wof c = 0
      · exact hc
      · simp only [wffv] at h
        rw [if_neg hc] at h
        exact absurd h hc
    simp only [wffv] at h
    rw [if_pos hc] at h
    rw [lfv_cons]
    cases e : g c with
    | true =>
      rw [if_pos rfl]
      exact ih h
    | false =>
      rw [if_neg (by decide)]
      simp only [wffv]
      rw [if_pos (hg c hc e)]
      exact ih h
theorem wfv_lfv (g : S67 → Bool) (cv : S67 → S67) (hg : ∀ c, wof c = 0 → g c = false → wof (cv c) = 0) (l : List S67) (h : wfv l = 0) : wfv (lfv g cv l) = 0 := by
  have h1 := wfv_ok h
  have h2 := split_len g cv l
  unfold wfv at h ⊢
  rw [if_neg (by omega)] at h ⊢
  exact wffv_lfv g cv hg l h
theorem wof_agw (c : S67) (h : wof c = 0) (h2 : agg c = false) : wof (agw c) = 0 := by
  have h3 : wrap64 (c.f4 - 1) > 0 := by
    unfold agg at h2
    simpa using h2
  unfold wof wtv at h
  have hw : wok c.f1 c.f2 c.f3 c.f4 c.f5 c.f6 = true := by
    by_cases hw : wok c.f1 c.f2 c.f3 c.f4 c.f5 c.f6 = true
    · exact hw
    · rw [if_neg hw] at h
      split at h <;> omega
  have hq : (1 ≤ c.f0 ∧ c.f0 ≤ 4) ∧ (c.f0 = 4 ∨ (c.f5 = 0 ∧ c.f6 = 0)) := by
    split at h
    · assumption
    · omega
  have ho := of_decide_eq_true hw
  have h4 : wrap64 (c.f4 - 1) = c.f4 - 1 := w64 (by omega) (by omega)
  rw [h4] at h3
  show wtv c.f0 c.f1 c.f2 c.f3 (wrap64 (c.f4 - 1)) c.f5 c.f6 = 0
  rw [h4]
  unfold wtv
  rw [if_pos hq]
  have hw2 : wok c.f1 c.f2 c.f3 (c.f4 - 1) c.f5 c.f6 = true := by
    unfold wok
    exact decide_eq_true ⟨by omega, by omega, by omega, by omega, by omega, by omega⟩
  rw [if_pos hw2]
theorem lfv_idem (g : S67 → Bool) (l : List S67) : lfv g id (lfv g id l) = lfv g id l ∧ gnv g id (lfv g id l) = [] := by
  induction l with
  | nil => exact ⟨rfl, rfl⟩
  | cons c t ih =>
    rw [lfv_cons]
    cases e : g c with
    | true =>
      rw [if_pos rfl]
      exact ih
    | false =>
      rw [if_neg (by decide), lfv_cons, gnv_cons]
      simp only [id, e, Bool.false_eq_true, ↓reduceIte]
      exact ⟨by rw [ih.1], ih.2⟩
end Go.Proofs.Ytpinapnhohjipaa.Pure
