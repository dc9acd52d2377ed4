/- What the printed functions of the law FnExactMessageFault answer, as plain Lean. -/
import Derived.Test.YtpjelfgeohklkaaStFnExactMessageFault
import Derived.Test.YtpjelfgeohklkaaBaFnExactMessageFault
namespace Go.Proofs.Ytpjelfgeohklkaa.Pure
open Go.RowKit Go.Proofs.Ytpjelfgeohklkaa.Open Go.Proofs.Ytpjelfgeohklkaa.Base Go.Proofs.Ytpjelfgeohklkaa.MFnExactMessageFault Go.Proofs.YtpjelfgeohklkaaW.PrintWords Go.Proofs.YtpjelfgeohklkaaW.PrintLast
set_option linter.unusedVariables false
set_option linter.unusedSimpArgs false
theorem impl_in_at (a b c : Int) : impl_in.f a b c = some (decide (b ≤ a ∧ a ≤ c)) := by
  unfold impl_in.f
  by_cases h : a ≥ b
  · rw [if_pos h]
    have h' : b ≤ a := h
    simp [h']
  · rw [if_neg h]
    have h' : ¬ b ≤ a := h
    simp [h']
theorem spec_in_at (a b c : Int) : spec_l1In.f a b c = some (decide (b ≤ a ∧ a ≤ c)) := by
  unfold spec_l1In.f
  by_cases h : a ≥ b
  · rw [if_pos h]
    have h' : b ≤ a := h
    simp [h']
  · rw [if_neg h]
    have h' : ¬ b ≤ a := h
    simp [h']
def cfv (a b c d : Int) : Int := if (0 ≤ a ∧ a ≤ 3) ∧ (0 ≤ b ∧ b ≤ 1000000) ∧ (0 ≤ c ∧ c ≤ 2) ∧ (0 ≤ d ∧ d ≤ 9999999) then 0 else 3
theorem cfv_or (a b c d : Int) : cfv a b c d = 0 ∨ cfv a b c d = 3 := by
  unfold cfv
  split
  · exact .inl rfl
  · exact .inr rfl
theorem cfv_ok {a b c d : Int} (h : cfv a b c d = 0) : (0 ≤ a ∧ a ≤ 3) ∧ (0 ≤ b ∧ b ≤ 1000000) ∧ (0 ≤ c ∧ c ≤ 2) ∧ (0 ≤ d ∧ d ≤ 9999999) := by
  unfold cfv at h
  split at h
  · assumption
  · omega
theorem impl_ClaimFault_at (a b c d : Int) : impl_ClaimFault.f a b c d = some (cfv a b c d) := by
  simp only [impl_ClaimFault.f, impl_isNode.f, impl_isStatus.f, impl_in_at, Option.bind_some, decide_eq_true_eq]
  unfold cfv
  repeat' split
  all_goals first | rfl | (exfalso; omega)
theorem spec_ClaimFault_at (a b c d : Int) : spec_ClaimFault.f a b c d = some (cfv a b c d) := by
  simp only [spec_ClaimFault.f, spec_in_at, Option.bind_some, decide_eq_true_eq]
  unfold cfv
  repeat' split
  all_goals first | rfl | (exfalso; omega)
theorem eqByteS_self (l : List Int) (hl : l.length ≤ 1000000000) (k : Nat) (hk : l.length < k) : laws_eqByteS.f k l l = some true := by
  unfold laws_eqByteS.f
  rw [if_pos rfl]
  refine loop_up (fun k (_ : Unit) i => laws_eqByteS.l0 k l l i) l.length 0 (fun _ _ => true) (fun _ _ => True) ?_ ?_ k () 0 0 rfl (Nat.zero_le _) trivial (by omega)
  · intro k _ _ _
    simp only [laws_eqByteS.l0]
    rw [if_neg (by omega)]
  · intro k _ i hi _ _ ih
    simp only [laws_eqByteS.l0]
    rw [if_pos (by omega), if_pos (by omega), if_pos (by omega), w64 (by omega) (by omega)]
    simp only [eq_self, ↓reduceIte]
    exact ih () trivial
theorem szByteS_at (l : List Int) (a : Int) (h0 : 0 ≤ a) (h1 : a ≤ 1048576) (hl : l.length ≤ maxLen) : laws_szByteS.f l a = some (if a < l.length then -1 else a - l.length) := by
  unfold maxLen at hl
  unfold laws_szByteS.f
  rw [w64 (by omega) (by omega)]
  by_cases h : a < l.length
  · rw [if_pos (by omega), if_pos h]
  · rw [if_neg (by omega), if_neg h]
theorem toByteS_at (l : List Int) (hl : l.length ≤ 1000000000) (k : Nat) (hk : l.length < k) : laws_toByteS.f k l = some l := by
  unfold laws_toByteS.f
  rw [if_pos (by omega), if_pos (by omega)]
  have h := to_loop (fun k s i => laws_toByteS.l0 k l s i) l id ?_ ?_ k (List.replicate ((l.length : Int) : Int).toNat 0) (by simp) hk
  · rw [List.map_id] at h
    exact h
  · intro k s hs
    simp only [laws_toByteS.l0]
    rw [if_neg (by omega)]
  · intro k s i hi hs
    simp only [laws_toByteS.l0]
    rw [if_pos (by omega), if_pos (by omega), if_pos (by omega), w64 (by omega) (by omega)]
    simp only [Int.toNat_natCast, rd, getD_at _ _ _ hi, id]
def zcv (a b c d : Int) : Prop := a = 0 ∧ b = 0 ∧ c = 0 ∧ d = 0
instance (a b c d : Int) : Decidable (zcv a b c d) := inferInstanceAs (Decidable (_ ∧ _ ∧ _ ∧ _))
def zkv (p i : Int) (l : List Int) : Prop := p = 0 ∧ i = 0 ∧ l.length = 0
instance (p i : Int) (l : List Int) : Decidable (zkv p i l) := inferInstanceAs (Decidable (_ ∧ _ ∧ _))
theorem zc_bool (a b c d : Int) : (a == 0 && (b == 0 && (c == 0 && (d == 0)))) = decide (zcv a b c d) := by
  rw [Bool.eq_iff_iff, decide_eq_true_eq]
  simp [zcv]
theorem spec_l7Needs_at (a0 a1 a2 a3 a4 a5 a6 a7 a8 : Int) (l : List Int) (n1 n2 n3 n4 : Bool) : spec_l7Needs.f a0 a1 a2 a3 a4 a5 a6 a7 a8 l n1 n2 n3 n4 = some (decide ((n1 = true ∨ a1 = 0) ∧ (n2 = true ∨ a2 = 0) ∧ (n3 = true ∨ zcv a3 a4 a5 a6) ∧ (n4 = true ∨ zkv a7 a8 l))) := by
  have e : (if n4 = true then some true else if a7 = 0 then if a8 = 0 then some ((l.length : Int) == 0) else some false else some false) = some (decide (n4 = true ∨ zkv a7 a8 l)) := by
    cases n4
    · by_cases h7 : a7 = 0
      · by_cases h8 : a8 = 0
        · rw [if_neg (by decide), if_pos h7, if_pos h8, Option.some.injEq, Bool.eq_iff_iff]
          simp [zkv, h7, h8]
        · rw [if_neg (by decide), if_pos h7, if_neg h8]
          simp [zkv, h8]
      · rw [if_neg (by decide), if_neg h7]
        simp [zkv, h7]
    · simp
  unfold spec_l7Needs.f
  simp only [e, zc_bool, decide_eq_true_eq]
  by_cases h3 : zcv a3 a4 a5 a6 <;> cases n1 <;> cases n2 <;> cases n3 <;> by_cases h1 : a1 = 0 <;> by_cases h2 : a2 = 0 <;> simp [h1, h2, h3]
def frm (a0 a1 a2 a3 a4 a5 a6 a7 a8 : Int) (l : List Int) : Prop := ((a0 = 1 ∨ a0 = 3) ∧ zcv a3 a4 a5 a6 ∧ zkv a7 a8 l) ∨ (a0 = 2 ∧ a2 = 0 ∧ zcv a3 a4 a5 a6 ∧ zkv a7 a8 l) ∨ (a0 = 4 ∧ a1 = 0 ∧ a2 = 0 ∧ zkv a7 a8 l) ∨ (a0 = 5 ∧ a1 = 0 ∧ a2 = 0 ∧ zcv a3 a4 a5 a6)
instance (a0 a1 a2 a3 a4 a5 a6 a7 a8 : Int) (l : List Int) : Decidable (frm a0 a1 a2 a3 a4 a5 a6 a7 a8 l) := inferInstanceAs (Decidable (_ ∨ _ ∨ _ ∨ _))
theorem spec_l7Form_at (a0 a1 a2 a3 a4 a5 a6 a7 a8 : Int) (l : List Int) (k : Nat) (hk : 5 ≤ k) : spec_l7Form.f k a0 a1 a2 a3 a4 a5 a6 a7 a8 l = some (decide (frm a0 a1 a2 a3 a4 a5 a6 a7 a8 l)) := by
  obtain ⟨k, rfl⟩ : ∃ z, k = z + 1 := ⟨k - 1, by omega⟩
  unfold spec_l7Form.f
  simp only [spec_l7Form.j0, spec_l7Needs_at, Option.bind_some]
  by_cases h1 : a0 = 1
  · subst h1
    simp [frm]
  · rw [if_neg h1]
    by_cases h3 : a0 = 3
    · subst h3
      simp [frm]
    · by_cases h2 : a0 = 2
      · subst h2
        simp [frm]
      · by_cases h4 : a0 = 4
        · subst h4
          simp [frm]
        · by_cases h5 : a0 = 5
          · subst h5
            simp [frm]
          · simp [frm, h1, h2, h3, h4, h5]
def mfv (a0 a1 a2 a3 a4 a5 a6 a7 a8 : Int) (l : List Int) : Int := if frm a0 a1 a2 a3 a4 a5 a6 a7 a8 l then (if a0 = 4 then cfv a3 a4 a5 a6 else if a0 = 5 then (if (1 ≤ a7 ∧ a7 ≤ 3) ∧ 1 ≤ a8 ∧ a8 ≤ 255 then (if (l.length : Int) = (if a7 = 1 then 16 else 0) then 0 else 2) else 3) else if (0 ≤ a1 ∧ a1 ≤ 1000000) ∧ 0 ≤ a2 ∧ a2 ≤ 3 then 0 else 3) else 1
theorem spec_MessageFault_at (a0 a1 a2 a3 a4 a5 a6 a7 a8 : Int) (l : List Int) (k : Nat) (hk : 10 ≤ k) : spec_MessageFault.f k a0 a1 a2 a3 a4 a5 a6 a7 a8 l = some (mfv a0 a1 a2 a3 a4 a5 a6 a7 a8 l) := by
  obtain ⟨k, rfl⟩ : ∃ z, k = z + 1 := ⟨k - 1, by omega⟩
  unfold spec_MessageFault.f mfv
  rw [spec_l7Form_at _ _ _ _ _ _ _ _ _ _ _ (by omega)]
  simp only [Option.bind_some, spec_ClaimFault_at, spec_in_at, spec_MessageFault.j0, decide_eq_true_eq]
  by_cases hf : frm a0 a1 a2 a3 a4 a5 a6 a7 a8 l
  · rw [if_pos hf, if_pos hf]
    by_cases h4 : a0 = 4
    · rw [if_pos h4, if_pos h4]
    · rw [if_neg h4, if_neg h4]
      by_cases h5 : a0 = 5
      · rw [if_pos h5, if_pos h5]
        by_cases h7 : 1 ≤ a7 ∧ a7 ≤ 3
        · rw [if_pos h7]
          by_cases h8 : 1 ≤ a8 ∧ a8 ≤ 255
          · rw [if_pos (show (1 ≤ a7 ∧ a7 ≤ 3) ∧ 1 ≤ a8 ∧ a8 ≤ 255 from ⟨h7, h8⟩)]
            by_cases e : a7 = 1
            · simp [h8, e]
              split <;> rfl
            · simp [h8, e]
              split <;> rfl
          · rw [if_neg (fun h : (1 ≤ a7 ∧ a7 ≤ 3) ∧ 1 ≤ a8 ∧ a8 ≤ 255 => h8 h.2)]
            simp [h8]
        · rw [if_neg h7, if_neg (fun h : (1 ≤ a7 ∧ a7 ≤ 3) ∧ 1 ≤ a8 ∧ a8 ≤ 255 => h7 h.1)]
          simp
      · rw [if_neg h5, if_neg h5]
        by_cases h6 : 0 ≤ a1 ∧ a1 ≤ 1000000
        · rw [if_pos h6]
          by_cases h7 : 0 ≤ a2 ∧ a2 ≤ 3
          · rw [if_pos h7, if_pos (show (0 ≤ a1 ∧ a1 ≤ 1000000) ∧ 0 ≤ a2 ∧ a2 ≤ 3 from ⟨h6, h7⟩)]
          · rw [if_neg h7, if_neg (fun h : (0 ≤ a1 ∧ a1 ≤ 1000000) ∧ 0 ≤ a2 ∧ a2 ≤ 3 => h7 h.2)]
        · rw [if_neg h6, if_neg (fun h : (0 ≤ a1 ∧ a1 ≤ 1000000) ∧ 0 ≤ a2 ∧ a2 ≤ 3 => h6 h.1)]
  · rw [if_neg hf, if_neg hf]
theorem impl_MF_j2 (b : Bool) (a0 a1 a2 a3 a4 a5 a6 a7 a8 : Int) (l : List Int) (k : Nat) (hk : 10 ≤ k) (hb : b = !decide (frm a0 a1 a2 a3 a4 a5 a6 a7 a8 l)) : impl_MessageFault.j2 k b a0 a1 a2 a3 a4 a5 a6 a7 a8 l = some (mfv a0 a1 a2 a3 a4 a5 a6 a7 a8 l) := by
  obtain ⟨k, rfl⟩ : ∃ z, k = z + 5 := ⟨k - 5, by omega⟩
  subst hb
  unfold mfv
  simp only [impl_MessageFault.j2, impl_MessageFault.j3, impl_MessageFault.j4, impl_MessageFault.j5, impl_isSeq.f, impl_isNode.f, impl_isKeyId.f, impl_in_at, impl_ClaimFault_at, Option.bind_some, decide_eq_true_eq]
  by_cases hf : frm a0 a1 a2 a3 a4 a5 a6 a7 a8 l
  · rw [if_neg (by simp [hf]), if_pos hf]
    by_cases h4 : a0 = 4
    · rw [if_pos h4, if_pos h4]
    · rw [if_neg h4, if_neg h4]
      by_cases h5 : a0 = 5
      · have h1 : a1 = 0 ∧ a2 = 0 := by
          unfold frm at hf
          omega
        rw [if_pos (by omega), if_neg (by simp; omega), if_pos h5, if_pos h5]
        by_cases h7 : 1 ≤ a7 ∧ a7 ≤ 3
        · by_cases h8 : 1 ≤ a8 ∧ a8 ≤ 255
          · by_cases e : a7 = 1
            · simp [h8, e]
              split <;> rfl
            · simp [h7, h8, e]
              split <;> rfl
          · rw [if_neg (fun h : (1 ≤ a7 ∧ a7 ≤ 3) ∧ 1 ≤ a8 ∧ a8 ≤ 255 => h8 h.2)]
            simp [h7, h8]
        · rw [if_neg (fun h : (1 ≤ a7 ∧ a7 ≤ 3) ∧ 1 ≤ a8 ∧ a8 ≤ 255 => h7 h.1)]
          simp [h7]
      · rw [if_neg h5, if_neg h5]
        by_cases h6 : 0 ≤ a1 ∧ a1 ≤ 1000000
        · rw [if_pos h6]
          by_cases h7 : 0 ≤ a2 ∧ a2 ≤ 3
          · rw [if_pos (show (0 ≤ a1 ∧ a1 ≤ 1000000) ∧ 0 ≤ a2 ∧ a2 ≤ 3 from ⟨h6, h7⟩)]
            simp [h7]
          · rw [if_neg (fun h : (0 ≤ a1 ∧ a1 ≤ 1000000) ∧ 0 ≤ a2 ∧ a2 ≤ 3 => h7 h.2)]
            simp [h7]
        · rw [if_neg h6, if_neg (fun h : (0 ≤ a1 ∧ a1 ≤ 1000000) ∧ 0 ≤ a2 ∧ a2 ≤ 3 => h6 h.1)]
          simp
  · rw [if_pos (by simp [hf]), if_neg hf]
theorem zc_not (a b c d : Int) : (!(a == 0) || (!(b == 0) || (!(c == 0) || (!(d == 0))))) = !decide (zcv a b c d) := by
  rw [← zc_bool]
  simp
theorem impl_MF_j1 (a0 a1 a2 a3 a4 a5 a6 a7 a8 : Int) (l : List Int) (b0 b1 b2 b3 b4 b5 b6 b7 b8 : Int) (m : List Int) (k : Nat) (hk : 11 ≤ k) (hf : frm a0 a1 a2 a3 a4 a5 a6 a7 a8 l ↔ b1 = 0 ∧ b2 = 0 ∧ zcv b3 b4 b5 b6 ∧ zkv b7 b8 m) : impl_MessageFault.j1 k a0 a1 a2 a3 a4 a5 a6 a7 a8 l b0 b1 b2 b3 b4 b5 b6 b7 b8 m = some (mfv a0 a1 a2 a3 a4 a5 a6 a7 a8 l) := by
  obtain ⟨k, rfl⟩ : ∃ z, k = z + 1 := ⟨k - 1, by omega⟩
  rw [impl_MessageFault.j1, zc_not]
  by_cases h1 : b1 = 0
  · rw [if_pos h1]
    by_cases h2 : b2 = 0
    · rw [if_pos h2]
      by_cases h3 : zcv b3 b4 b5 b6
      · rw [if_neg (by simp [h3])]
        by_cases h7 : b7 = 0
        · rw [if_pos h7]
          unfold impl_isZeroKey.f
          by_cases h8 : b8 = 0
          · rw [if_pos h8, Option.bind_some]
            refine impl_MF_j2 _ _ _ _ _ _ _ _ _ _ _ _ (by omega) ?_
            rw [Bool.not_eq_eq_eq_not, Bool.not_not, Bool.eq_iff_iff, decide_eq_true_eq, hf]
            simp [h1, h2, h3, zkv, h7, h8]
          · rw [if_neg h8, Option.bind_some]
            refine impl_MF_j2 _ _ _ _ _ _ _ _ _ _ _ _ (by omega) ?_
            simp [hf, zkv, h8]
        · rw [if_neg h7]
          refine impl_MF_j2 _ _ _ _ _ _ _ _ _ _ _ _ (by omega) ?_
          simp [hf, zkv, h7]
      · rw [if_pos (by simp [h3])]
        refine impl_MF_j2 _ _ _ _ _ _ _ _ _ _ _ _ (by omega) ?_
        simp [hf, h3]
    · rw [if_neg h2]
      refine impl_MF_j2 _ _ _ _ _ _ _ _ _ _ _ _ (by omega) ?_
      simp [hf, h2]
  · rw [if_neg h1]
    refine impl_MF_j2 _ _ _ _ _ _ _ _ _ _ _ _ (by omega) ?_
    simp [hf, h1]
theorem impl_MessageFault_at (a0 a1 a2 a3 a4 a5 a6 a7 a8 : Int) (l : List Int) (k : Nat) (hk : 20 ≤ k) : impl_MessageFault.f k a0 a1 a2 a3 a4 a5 a6 a7 a8 l = some (mfv a0 a1 a2 a3 a4 a5 a6 a7 a8 l) := by
  obtain ⟨k, rfl⟩ : ∃ z, k = z + 1 := ⟨k - 1, by omega⟩
  unfold impl_MessageFault.f
  simp only [impl_MessageFault.j0]
  by_cases h1 : a0 = 1
  · subst h1
    rw [if_pos rfl, if_pos (show ((1 : Int) == 1) = true from rfl)]
    exact impl_MF_j1 _ _ _ _ _ _ _ _ _ _ _ _ _ _ _ _ _ _ _ _ _ (by omega) (by simp [frm])
  · rw [if_neg h1]
    by_cases h3 : a0 = 3
    · subst h3
      rw [if_pos (show ((3 : Int) == 3) = true from rfl)]
      exact impl_MF_j1 _ _ _ _ _ _ _ _ _ _ _ _ _ _ _ _ _ _ _ _ _ (by omega) (by simp [frm])
    · rw [if_neg (by simpa using h3)]
      by_cases h2 : a0 = 2
      · subst h2
        rw [if_pos rfl]
        exact impl_MF_j1 _ _ _ _ _ _ _ _ _ _ _ _ _ _ _ _ _ _ _ _ _ (by omega) (by simp [frm])
      · rw [if_neg h2]
        by_cases h4 : a0 = 4
        · subst h4
          rw [if_pos rfl]
          exact impl_MF_j1 _ _ _ _ _ _ _ _ _ _ _ _ _ _ _ _ _ _ _ _ _ (by omega) (by simp [frm, zcv])
        · rw [if_neg h4]
          by_cases h5 : a0 = 5
          · subst h5
            rw [if_pos rfl]
            exact impl_MF_j1 _ _ _ _ _ _ _ _ _ _ _ _ _ _ _ _ _ _ _ _ _ (by omega) (by simp [frm, zkv])
          · rw [if_neg h5]
            unfold mfv
            rw [if_neg (by simp [frm, h1, h2, h3, h4, h5])]
theorem szMessage_at (a0 a1 a2 a3 a4 a5 a6 a7 a8 : Int) (l : List Int) (a : Int) (h0 : 0 ≤ a) (h1 : a ≤ 1048576) (hl : l.length ≤ maxLen) : laws_szMessage.f a0 a1 a2 a3 a4 a5 a6 a7 a8 l a = some (if a < l.length then -1 else a - l.length) := by
  unfold laws_szMessage.f laws_szKey.f
  rw [szByteS_at l a h0 h1 hl]
  simp only [Option.bind_some]
  by_cases h : a < l.length
  · simp [h]
  · rw [if_neg h, if_neg (by omega)]
    simp only [Option.bind_some]
    rw [if_neg (by omega)]
theorem toMessage_at (a0 a1 a2 a3 a4 a5 a6 a7 a8 : Int) (l : List Int) (hl : l.length ≤ 1000000000) (k : Nat) (hk : l.length < k) : laws_toMessage.f k a0 a1 a2 a3 a4 a5 a6 a7 a8 l = some (a0, a1, a2, a3, a4, a5, a6, a7, a8, l) := by
  unfold laws_toMessage.f laws_toKey.f laws_toClaim.f
  rw [toByteS_at l hl k hk]
  rfl
theorem eqMessage_self (a0 a1 a2 a3 a4 a5 a6 a7 a8 : Int) (l : List Int) (hl : l.length ≤ 1000000000) (k : Nat) (hk : l.length < k) : laws_eqMessage.f k a0 a1 a2 a3 a4 a5 a6 a7 a8 l a0 a1 a2 a3 a4 a5 a6 a7 a8 l = some true := by
  unfold laws_eqMessage.f laws_eqKey.f laws_eqClaim.f
  rw [eqByteS_self l hl k hk]
  simp
end Go.Proofs.Ytpjelfgeohklkaa.Pure
