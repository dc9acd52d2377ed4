/- What the printed functions of the law FnExactDecodeMessage answer, as plain Lean. -/
import Derived.Test.YtpjelfgeohklkaaStFnExactDecodeMessage
import Derived.Test.YtpjelfgeohklkaaBaFnExactDecodeMessage
namespace Go.Proofs.Ytpjelfgeohklkaa.Pure
open Go.RowKit Go.Proofs.Ytpjelfgeohklkaa.Open Go.Proofs.Ytpjelfgeohklkaa.Base Go.Proofs.Ytpjelfgeohklkaa.MFnExactDecodeMessage Go.Proofs.YtpjelfgeohklkaaW.PrintWords Go.Proofs.YtpjelfgeohklkaaW.PrintLast Go.Proofs.YtpjelfgeohklkaaW.PrintMore
set_option linter.unusedVariables false
set_option linter.unusedSimpArgs false
theorem impl_in_at (a b c : Int) : impl_in.f a b c = some (decide (b ≤ a ∧ a ≤ c)) := by
  unfold impl_in.f
  by_cases h : a ≥ b
  · rw [if_pos h]
    have h' : b ≤ a := h
    simp [h']
  · rw [if_neg h]
    have h' : ¬ b ≤ a := h
    simp [h']
theorem spec_in_at (a b c : Int) : spec_l1In.f a b c = some (decide (b ≤ a ∧ a ≤ c)) := by
  unfold spec_l1In.f
  by_cases h : a ≥ b
  · rw [if_pos h]
    have h' : b ≤ a := h
    simp [h']
  · rw [if_neg h]
    have h' : ¬ b ≤ a := h
    simp [h']
def cfv (a b c d : Int) : Int := if (0 ≤ a ∧ a ≤ 3) ∧ (0 ≤ b ∧ b ≤ 1000000) ∧ (0 ≤ c ∧ c ≤ 2) ∧ (0 ≤ d ∧ d ≤ 9999999) then 0 else 3
theorem cfv_ok {a b c d : Int} (h : cfv a b c d = 0) : (0 ≤ a ∧ a ≤ 3) ∧ (0 ≤ b ∧ b ≤ 1000000) ∧ (0 ≤ c ∧ c ≤ 2) ∧ (0 ≤ d ∧ d ≤ 9999999) := by
  unfold cfv at h
  split at h
  · assumption
  · omega
theorem impl_ClaimFault_at (a b c d : Int) : impl_ClaimFault.f a b c d = some (cfv a b c d) := by
  simp only [impl_ClaimFault.f, impl_isNode.f, impl_isStatus.f, impl_in_at, Option.bind_some, decide_eq_true_eq]
  unfold cfv
  repeat' split
  all_goals first | rfl | (exfalso; omega)
theorem spec_ClaimFault_at (a b c d : Int) : spec_ClaimFault.f a b c d = some (cfv a b c d) := by
  simp only [spec_ClaimFault.f, spec_in_at, Option.bind_some, decide_eq_true_eq]
  unfold cfv
  repeat' split
  all_goals first | rfl | (exfalso; omega)
theorem eqByteS_self (l : List Int) (hl : l.length ≤ 1000000000) (k : Nat) (hk : l.length < k) : laws_eqByteS.f k l l = some true := by
  unfold laws_eqByteS.f
  rw [if_pos rfl]
  refine loop_up (fun k (_ : Unit) i => laws_eqByteS.l0 k l l i) l.length 0 (fun _ _ => true) (fun _ _ => True) ?_ ?_ k () 0 0 rfl (Nat.zero_le _) trivial (by omega)
  · intro k _ _ _
    simp only [laws_eqByteS.l0]
    rw [if_neg (by omega)]
  · intro k _ i hi _ _ ih
    simp only [laws_eqByteS.l0]
    rw [if_pos (by omega), if_pos (by omega), if_pos (by omega), w64 (by omega) (by omega)]
    simp only [eq_self, ↓reduceIte]
    exact ih () trivial
theorem toByteS_at (l : List Int) (hl : l.length ≤ 1000000000) (k : Nat) (hk : l.length < k) : laws_toByteS.f k l = some l := by
  unfold laws_toByteS.f
  rw [if_pos (by omega), if_pos (by omega)]
  have h := to_loop (fun k s i => laws_toByteS.l0 k l s i) l id ?_ ?_ k (List.replicate ((l.length : Int) : Int).toNat 0) (by simp) hk
  · rw [List.map_id] at h
    exact h
  · intro k s hs
    simp only [laws_toByteS.l0]
    rw [if_neg (by omega)]
  · intro k s i hi hs
    simp only [laws_toByteS.l0]
    rw [if_pos (by omega), if_pos (by omega), if_pos (by omega), w64 (by omega) (by omega)]
    simp only [Int.toNat_natCast, rd, getD_at _ _ _ hi, id]
theorem markByteS_at (l : List Int) (a : Int) (h0 : 0 ≤ a) (ha : a ≤ 4000000000000000) (hl : l.length ≤ 1000000000) (k : Nat) (hk : l.length < k) : laws_markByteS.f k l a = some (a + 1 * l.length, marks (fun x => x % 256) 1 a l.length) := by
  unfold laws_markByteS.f
  refine mark_loop (fun k s b i => laws_markByteS.l0 k s b i) l.length 1 (fun x => x % 256) a ?_ ?_ k l rfl hk
  · intro k s b hs
    simp only [laws_markByteS.l0]
    rw [if_neg (by omega)]
  · intro k s i hi hs
    show laws_markByteS.l0 (k + 1) s (a + 1 * (i : Int)) (i : Int) = laws_markByteS.l0 k (s.set i ((a + 1 * (i : Int)) % 256)) (a + 1 * (i : Int) + 1) ((i : Int) + 1)
    have e1 : wrap64 (a + 1 * (i : Int) + 1) = a + 1 * (i : Int) + 1 := w64 (by omega) (by omega)
    have ei : wrap64 ((i : Int) + 1) = (i : Int) + 1 := w64 (by omega) (by omega)
    simp only [laws_markByteS.l0]
    rw [if_pos (by omega), if_pos (by omega)]
    simp only [Int.toNat_natCast, e1, ei]
theorem heldByteS_at (n : Nat) (a : Int) (h0 : 0 ≤ a) (ha : a ≤ 1000000000000) (hl : n ≤ 1000000000) (k : Nat) (hk : n < k) : laws_heldByteS.f k (marks (fun x => x % 256) 1 a n) a = some (a + 1 * n) := by
  unfold laws_heldByteS.f
  refine held_loop (fun k b i => laws_heldByteS.l0 k (marks (fun x => x % 256) 1 a n) b i) n 1 a ?_ ?_ k hk
  · intro k b
    simp only [laws_heldByteS.l0, marks_len]
    rw [if_neg (by omega)]
  · intro k i hi
    show laws_heldByteS.l0 (k + 1) (marks (fun x => x % 256) 1 a n) (a + 1 * (i : Int)) (i : Int) = laws_heldByteS.l0 k (marks (fun x => x % 256) 1 a n) (a + 1 * (i : Int) + 1) ((i : Int) + 1)
    have e1 : wrap64 (a + 1 * (i : Int) + 1) = a + 1 * (i : Int) + 1 := w64 (by omega) (by omega)
    have ei : wrap64 ((i : Int) + 1) = (i : Int) + 1 := w64 (by omega) (by omega)
    have eg : rd (marks (fun x => x % 256) 1 a n) (i : Int) = (a + 1 * (i : Int)) % 256 := by
      simp only [rd, Int.toNat_natCast, List.getD_eq_getElem?_getD, marks_get _ _ _ _ _ hi, Option.getD_some]
      rfl
    simp only [laws_heldByteS.l0, marks_len]
    rw [if_pos (by omega), if_pos (by omega)]
    simp only [eg, e1, ei, eq_self, ↓reduceIte]
def pkl : Nat → Int → List Int → List Int
  | 0, _, s => s
  | j + 1, x, s => pkl j (wrap64 (Int.tdiv x 256)) (s.set j ((Int.tmod x 256) % 256))
theorem pkl_len : ∀ (j : Nat) (x : Int) (s : List Int), (pkl j x s).length = s.length
  | 0, _, _ => rfl
  | j + 1, x, s => by rw [pkl, pkl_len j, List.length_set]
def pk (n : Nat) (x : Int) : List Int := pkl n x (List.replicate n 0)
theorem pk_len (n : Nat) (x : Int) : (pk n x).length = n := by rw [pk, pkl_len, List.length_replicate]
theorem pk_one (x : Int) (h : 0 ≤ x) : pk 1 x = [x % 256] := by
  show [(Int.tmod x 256) % 256] = [x % 256]
  rw [Int.tmod_eq_emod_of_nonneg h]
  congr 1
  omega
theorem impl_word_l0 : ∀ (j k : Nat) (x : Int) (s : List Int), j ≤ s.length → s.length ≤ 1000 → j < k → impl_word.l0 k x s ((j : Int) - 1) = some (pkl j x s)
  | 0, k, x, s, _, _, hk => by
    obtain ⟨k, rfl⟩ : ∃ z, k = z + 1 := ⟨k - 1, by omega⟩
    rw [impl_word.l0, if_neg (by omega)]
    rfl
  | j + 1, k, x, s, hj, hs, hk => by
    obtain ⟨k, rfl⟩ : ∃ z, k = z + 1 := ⟨k - 1, by omega⟩
    have e : ((j + 1 : Nat) : Int) - 1 = (j : Int) := by omega
    rw [e, impl_word.l0, if_pos (by omega), if_pos (by omega), if_pos (by omega), w64 (x := (j : Int) - 1) (by omega) (by omega), Int.toNat_natCast, impl_word_l0 j k _ _ (by rw [List.length_set]; omega) (by rw [List.length_set]; omega) (by omega)]
    rfl
theorem impl_word_at (n : Nat) (hn : n ≤ 100) (x : Int) (k : Nat) (hk : n < k) : impl_word.f k x (n : Int) = some (pk n x) := by
  unfold impl_word.f
  rw [if_pos (by omega), if_pos (by omega), w64 (by omega) (by omega), Int.toNat_natCast, impl_word_l0 n k x _ (by simp) (by simp; omega) hk]
  rfl
theorem Concat_l1 (l : List (List Int)) (hl : l.length ≤ 100) (hs : ∀ r ∈ l, r.length ≤ 10000) (m : Nat) : ∀ (k i : Nat) (s : List Int), l.length - i = m → i ≤ l.length → m < k → s.length ≤ 10000 * i → slices_Concat_byte_byte.l1 k s l (l.length : Int) (i : Int) = some (s ++ (l.drop i).flatten) := by
  induction m with
  | zero =>
    intro k i s hm hi hk hb
    obtain ⟨k, rfl⟩ : ∃ z, k = z + 1 := ⟨k - 1, by omega⟩
    obtain rfl : i = l.length := by omega
    rw [slices_Concat_byte_byte.l1, if_neg (by omega), List.drop_length, List.flatten_nil, List.append_nil]
  | succ m ih =>
    intro k i s hm hi hk hb
    obtain ⟨k, rfl⟩ : ∃ z, k = z + 1 := ⟨k - 1, by omega⟩
    have hlt : i < l.length := by omega
    have hy : rd_L3 l (i : Int) = l[i] := by simp only [rd_L3, Int.toNat_natCast, getD_at _ _ _ hlt]
    have hr := hs _ (List.getElem_mem hlt)
    have e2 : ((i + 1 : Nat) : Int) = (i : Int) + 1 := by omega
    rw [slices_Concat_byte_byte.l1, if_pos (by omega), if_pos (by omega), if_pos (by omega), hy, if_pos (by omega), w64 (by omega) (by omega), ← e2, ih k (i + 1) _ (by omega) (by omega) (by omega) (by rw [List.length_append]; omega), drop_cons l i hlt, List.flatten_cons, List.append_assoc]
theorem Concat_l0 (l : List (List Int)) (hl : l.length ≤ 100) (hs : ∀ r ∈ l, r.length ≤ 10000) (m : Nat) : ∀ (k i : Nat) (a : Int), l.length - i = m → i ≤ l.length → m + l.length + 2 < k → 0 ≤ a → a ≤ 10000 * i → slices_Concat_byte_byte.l0 k l a l (l.length : Int) (i : Int) = some l.flatten := by
  induction m with
  | zero =>
    intro k i a hm hi hk h0 hb
    obtain ⟨k, rfl⟩ : ∃ z, k = z + 1 := ⟨k - 1, by omega⟩
    obtain rfl : i = l.length := by omega
    unfold slices_Concat_byte_byte.l0 slices_Grow_byte_byte.f
    rw [if_neg (by omega), if_pos (by rfl), if_pos (by omega), if_pos (by omega), Option.bind_some]
    have e := Concat_l1 l hl hs _ k 0 [] rfl (by omega) (by omega) (by simp)
    rw [show ((0 : Nat) : Int) = 0 from rfl] at e
    rw [e, List.drop_zero, List.nil_append]
  | succ m ih =>
    intro k i a hm hi hk h0 hb
    obtain ⟨k, rfl⟩ : ∃ z, k = z + 1 := ⟨k - 1, by omega⟩
    have hlt : i < l.length := by omega
    have hy : rd_L3 l (i : Int) = l[i] := by simp only [rd_L3, Int.toNat_natCast, getD_at _ _ _ hlt]
    have hr := hs _ (List.getElem_mem hlt)
    have e2 : ((i + 1 : Nat) : Int) = (i : Int) + 1 := by omega
    rw [slices_Concat_byte_byte.l0, if_pos (by omega), if_pos (by omega), if_pos (by omega), hy, w64 (x := a + (l[i].length : Int)) (by omega) (by omega), if_neg (by omega), w64 (by omega) (by omega), ← e2, ih k (i + 1) _ (by omega) (by omega) (by omega) (by omega) (by omega)]
theorem Concat_at (l : List (List Int)) (hl : l.length ≤ 100) (hs : ∀ r ∈ l, r.length ≤ 10000) (k : Nat) (hk : 300 ≤ k) : slices_Concat_byte_byte.f k l = some l.flatten := by
  unfold slices_Concat_byte_byte.f
  have e := Concat_l0 l hl hs _ k 0 0 rfl (by omega) (by omega) (by omega) (by omega)
  exact e
def zcv (a b c d : Int) : Prop := a = 0 ∧ b = 0 ∧ c = 0 ∧ d = 0
instance (a b c d : Int) : Decidable (zcv a b c d) := inferInstanceAs (Decidable (_ ∧ _ ∧ _ ∧ _))
def zkv (p i : Int) (l : List Int) : Prop := p = 0 ∧ i = 0 ∧ l.length = 0
instance (p i : Int) (l : List Int) : Decidable (zkv p i l) := inferInstanceAs (Decidable (_ ∧ _ ∧ _))
theorem zc_bool (a b c d : Int) : (a == 0 && (b == 0 && (c == 0 && (d == 0)))) = decide (zcv a b c d) := by
  rw [Bool.eq_iff_iff, decide_eq_true_eq]
  simp [zcv]
theorem spec_l7Needs_at (a0 a1 a2 a3 a4 a5 a6 a7 a8 : Int) (l : List Int) (n1 n2 n3 n4 : Bool) : spec_l7Needs.f a0 a1 a2 a3 a4 a5 a6 a7 a8 l n1 n2 n3 n4 = some (decide ((n1 = true ∨ a1 = 0) ∧ (n2 = true ∨ a2 = 0) ∧ (n3 = true ∨ zcv a3 a4 a5 a6) ∧ (n4 = true ∨ zkv a7 a8 l))) := by
  have e : (if n4 = true then some true else if a7 = 0 then if a8 = 0 then some ((l.length : Int) == 0) else some false else some false) = some (decide (n4 = true ∨ zkv a7 a8 l)) := by
    cases n4
    · by_cases h7 : a7 = 0
      · by_cases h8 : a8 = 0
        · rw [if_neg (by decide), if_pos h7, if_pos h8, Option.some.injEq, Bool.eq_iff_iff]
          simp [zkv, h7, h8]
        · rw [if_neg (by decide), if_pos h7, if_neg h8]
          simp [zkv, h8]
      · rw [if_neg (by decide), if_neg h7]
        simp [zkv, h7]
    · simp
  unfold spec_l7Needs.f
  simp only [e, zc_bool, decide_eq_true_eq]
  by_cases h3 : zcv a3 a4 a5 a6 <;> cases n1 <;> cases n2 <;> cases n3 <;> by_cases h1 : a1 = 0 <;> by_cases h2 : a2 = 0 <;> simp [h1, h2, h3]
def frm (a0 a1 a2 a3 a4 a5 a6 a7 a8 : Int) (l : List Int) : Prop := ((a0 = 1 ∨ a0 = 3) ∧ zcv a3 a4 a5 a6 ∧ zkv a7 a8 l) ∨ (a0 = 2 ∧ a2 = 0 ∧ zcv a3 a4 a5 a6 ∧ zkv a7 a8 l) ∨ (a0 = 4 ∧ a1 = 0 ∧ a2 = 0 ∧ zkv a7 a8 l) ∨ (a0 = 5 ∧ a1 = 0 ∧ a2 = 0 ∧ zcv a3 a4 a5 a6)
instance (a0 a1 a2 a3 a4 a5 a6 a7 a8 : Int) (l : List Int) : Decidable (frm a0 a1 a2 a3 a4 a5 a6 a7 a8 l) := inferInstanceAs (Decidable (_ ∨ _ ∨ _ ∨ _))
theorem spec_l7Form_at (a0 a1 a2 a3 a4 a5 a6 a7 a8 : Int) (l : List Int) (k : Nat) (hk : 5 ≤ k) : spec_l7Form.f k a0 a1 a2 a3 a4 a5 a6 a7 a8 l = some (decide (frm a0 a1 a2 a3 a4 a5 a6 a7 a8 l)) := by
  obtain ⟨k, rfl⟩ : ∃ z, k = z + 1 := ⟨k - 1, by omega⟩
  unfold spec_l7Form.f
  simp only [spec_l7Form.j0, spec_l7Needs_at, Option.bind_some]
  by_cases h1 : a0 = 1
  · subst h1
    simp [frm]
  · rw [if_neg h1]
    by_cases h3 : a0 = 3
    · subst h3
      simp [frm]
    · by_cases h2 : a0 = 2
      · subst h2
        simp [frm]
      · by_cases h4 : a0 = 4
        · subst h4
          simp [frm]
        · by_cases h5 : a0 = 5
          · subst h5
            simp [frm]
          · simp [frm, h1, h2, h3, h4, h5]
def mfv (a0 a1 a2 a3 a4 a5 a6 a7 a8 : Int) (l : List Int) : Int := if frm a0 a1 a2 a3 a4 a5 a6 a7 a8 l then (if a0 = 4 then cfv a3 a4 a5 a6 else if a0 = 5 then (if (1 ≤ a7 ∧ a7 ≤ 3) ∧ 1 ≤ a8 ∧ a8 ≤ 255 then (if (l.length : Int) = (if a7 = 1 then 16 else 0) then 0 else 2) else 3) else if (0 ≤ a1 ∧ a1 ≤ 1000000) ∧ 0 ≤ a2 ∧ a2 ≤ 3 then 0 else 3) else 1
theorem spec_MessageFault_at (a0 a1 a2 a3 a4 a5 a6 a7 a8 : Int) (l : List Int) (k : Nat) (hk : 10 ≤ k) : spec_MessageFault.f k a0 a1 a2 a3 a4 a5 a6 a7 a8 l = some (mfv a0 a1 a2 a3 a4 a5 a6 a7 a8 l) := by
  obtain ⟨k, rfl⟩ : ∃ z, k = z + 1 := ⟨k - 1, by omega⟩
  unfold spec_MessageFault.f mfv
  rw [spec_l7Form_at _ _ _ _ _ _ _ _ _ _ _ (by omega)]
  simp only [Option.bind_some, spec_ClaimFault_at, spec_in_at, spec_MessageFault.j0, decide_eq_true_eq]
  by_cases hf : frm a0 a1 a2 a3 a4 a5 a6 a7 a8 l
  · rw [if_pos hf, if_pos hf]
    by_cases h4 : a0 = 4
    · rw [if_pos h4, if_pos h4]
    · rw [if_neg h4, if_neg h4]
      by_cases h5 : a0 = 5
      · rw [if_pos h5, if_pos h5]
        by_cases h7 : 1 ≤ a7 ∧ a7 ≤ 3
        · rw [if_pos h7]
          by_cases h8 : 1 ≤ a8 ∧ a8 ≤ 255
          · rw [if_pos (show (1 ≤ a7 ∧ a7 ≤ 3) ∧ 1 ≤ a8 ∧ a8 ≤ 255 from ⟨h7, h8⟩)]
            by_cases e : a7 = 1
            · simp [h8, e]
              split <;> rfl
            · simp [h8, e]
              split <;> rfl
          · rw [if_neg (fun h : (1 ≤ a7 ∧ a7 ≤ 3) ∧ 1 ≤ a8 ∧ a8 ≤ 255 => h8 h.2)]
            simp [h8]
        · rw [if_neg h7, if_neg (fun h : (1 ≤ a7 ∧ a7 ≤ 3) ∧ 1 ≤ a8 ∧ a8 ≤ 255 => h7 h.1)]
          simp
      · rw [if_neg h5, if_neg h5]
        by_cases h6 : 0 ≤ a1 ∧ a1 ≤ 1000000
        · rw [if_pos h6]
          by_cases h7 : 0 ≤ a2 ∧ a2 ≤ 3
          · rw [if_pos h7, if_pos (show (0 ≤ a1 ∧ a1 ≤ 1000000) ∧ 0 ≤ a2 ∧ a2 ≤ 3 from ⟨h6, h7⟩)]
          · rw [if_neg h7, if_neg (fun h : (0 ≤ a1 ∧ a1 ≤ 1000000) ∧ 0 ≤ a2 ∧ a2 ≤ 3 => h7 h.2)]
        · rw [if_neg h6, if_neg (fun h : (0 ≤ a1 ∧ a1 ≤ 1000000) ∧ 0 ≤ a2 ∧ a2 ≤ 3 => h6 h.1)]
  · rw [if_neg hf, if_neg hf]
theorem impl_MF_j2 (b : Bool) (a0 a1 a2 a3 a4 a5 a6 a7 a8 : Int) (l : List Int) (k : Nat) (hk : 10 ≤ k) (hb : b = !decide (frm a0 a1 a2 a3 a4 a5 a6 a7 a8 l)) : impl_MessageFault.j2 k b a0 a1 a2 a3 a4 a5 a6 a7 a8 l = some (mfv a0 a1 a2 a3 a4 a5 a6 a7 a8 l) := by
  obtain ⟨k, rfl⟩ : ∃ z, k = z + 5 := ⟨k - 5, by omega⟩
  subst hb
  unfold mfv
  simp only [impl_MessageFault.j2, impl_MessageFault.j3, impl_MessageFault.j4, impl_MessageFault.j5, impl_isSeq.f, impl_isNode.f, impl_isKeyId.f, impl_in_at, impl_ClaimFault_at, Option.bind_some, decide_eq_true_eq]
  by_cases hf : frm a0 a1 a2 a3 a4 a5 a6 a7 a8 l
  · rw [if_neg (by simp [hf]), if_pos hf]
    by_cases h4 : a0 = 4
    · rw [if_pos h4, if_pos h4]
    · rw [if_neg h4, if_neg h4]
      by_cases h5 : a0 = 5
      · have h1 : a1 = 0 ∧ a2 = 0 := by
          unfold frm at hf
          omega
        rw [if_pos (by omega), if_neg (by simp; omega), if_pos h5, if_pos h5]
        by_cases h7 : 1 ≤ a7 ∧ a7 ≤ 3
        · by_cases h8 : 1 ≤ a8 ∧ a8 ≤ 255
          · by_cases e : a7 = 1
            · simp [h8, e]
              split <;> rfl
            · simp [h7, h8, e]
              split <;> rfl
          · rw [if_neg (fun h : (1 ≤ a7 ∧ a7 ≤ 3) ∧ 1 ≤ a8 ∧ a8 ≤ 255 => h8 h.2)]
            simp [h7, h8]
        · rw [if_neg (fun h : (1 ≤ a7 ∧ a7 ≤ 3) ∧ 1 ≤ a8 ∧ a8 ≤ 255 => h7 h.1)]
          simp [h7]
      · rw [if_neg h5, if_neg h5]
        by_cases h6 : 0 ≤ a1 ∧ a1 ≤ 1000000
        · rw [if_pos h6]
          by_cases h7 : 0 ≤ a2 ∧ a2 ≤ 3
          · rw [if_pos (show (0 ≤ a1 ∧ a1 ≤ 1000000) ∧ 0 ≤ a2 ∧ a2 ≤ 3 from ⟨h6, h7⟩)]
            simp [h7]
          · rw [if_neg (fun h : (0 ≤ a1 ∧ a1 ≤ 1000000) ∧ 0 ≤ a2 ∧ a2 ≤ 3 => h7 h.2)]
            simp [h7]
        · rw [if_neg h6, if_neg (fun h : (0 ≤ a1 ∧ a1 ≤ 1000000) ∧ 0 ≤ a2 ∧ a2 ≤ 3 => h6 h.1)]
          simp
  · rw [if_pos (by simp [hf]), if_neg hf]
theorem zc_not (a b c d : Int) : (!(a == 0) || (!(b == 0) || (!(c == 0) || (!(d == 0))))) = !decide (zcv a b c d) := by
  rw [← zc_bool]
  simp
theorem impl_MF_j1 (a0 a1 a2 a3 a4 a5 a6 a7 a8 : Int) (l : List Int) (b0 b1 b2 b3 b4 b5 b6 b7 b8 : Int) (m : List Int) (k : Nat) (hk : 11 ≤ k) (hf : frm a0 a1 a2 a3 a4 a5 a6 a7 a8 l ↔ b1 = 0 ∧ b2 = 0 ∧ zcv b3 b4 b5 b6 ∧ zkv b7 b8 m) : impl_MessageFault.j1 k a0 a1 a2 a3 a4 a5 a6 a7 a8 l b0 b1 b2 b3 b4 b5 b6 b7 b8 m = some (mfv a0 a1 a2 a3 a4 a5 a6 a7 a8 l) := by
  obtain ⟨k, rfl⟩ : ∃ z, k = z + 1 := ⟨k - 1, by omega⟩
  rw [impl_MessageFault.j1, zc_not]
  by_cases h1 : b1 = 0
  · rw [if_pos h1]
    by_cases h2 : b2 = 0
    · rw [if_pos h2]
      by_cases h3 : zcv b3 b4 b5 b6
      · rw [if_neg (by simp [h3])]
        by_cases h7 : b7 = 0
        · rw [if_pos h7]
          unfold impl_isZeroKey.f
          by_cases h8 : b8 = 0
          · rw [if_pos h8, Option.bind_some]
            refine impl_MF_j2 _ _ _ _ _ _ _ _ _ _ _ _ (by omega) ?_
            rw [Bool.not_eq_eq_eq_not, Bool.not_not, Bool.eq_iff_iff, decide_eq_true_eq, hf]
            simp [h1, h2, h3, zkv, h7, h8]
          · rw [if_neg h8, Option.bind_some]
            refine impl_MF_j2 _ _ _ _ _ _ _ _ _ _ _ _ (by omega) ?_
            simp [hf, zkv, h8]
        · rw [if_neg h7]
          refine impl_MF_j2 _ _ _ _ _ _ _ _ _ _ _ _ (by omega) ?_
          simp [hf, zkv, h7]
      · rw [if_pos (by simp [h3])]
        refine impl_MF_j2 _ _ _ _ _ _ _ _ _ _ _ _ (by omega) ?_
        simp [hf, h3]
    · rw [if_neg h2]
      refine impl_MF_j2 _ _ _ _ _ _ _ _ _ _ _ _ (by omega) ?_
      simp [hf, h2]
  · rw [if_neg h1]
    refine impl_MF_j2 _ _ _ _ _ _ _ _ _ _ _ _ (by omega) ?_
    simp [hf, h1]
theorem impl_MessageFault_at (a0 a1 a2 a3 a4 a5 a6 a7 a8 : Int) (l : List Int) (k : Nat) (hk : 20 ≤ k) : impl_MessageFault.f k a0 a1 a2 a3 a4 a5 a6 a7 a8 l = some (mfv a0 a1 a2 a3 a4 a5 a6 a7 a8 l) := by
  obtain ⟨k, rfl⟩ : ∃ z, k = z + 1 := ⟨k - 1, by omega⟩
  unfold impl_MessageFault.f
  simp only [impl_MessageFault.j0]
  by_cases h1 : a0 = 1
  · subst h1
    rw [if_pos rfl, if_pos (show ((1 : Int) == 1) = true from rfl)]
    exact impl_MF_j1 _ _ _ _ _ _ _ _ _ _ _ _ _ _ _ _ _ _ _ _ _ (by omega) (by simp [frm])
  · rw [if_neg h1]
    by_cases h3 : a0 = 3
    · subst h3
      rw [if_pos (show ((3 : Int) == 3) = true from rfl)]
      exact impl_MF_j1 _ _ _ _ _ _ _ _ _ _ _ _ _ _ _ _ _ _ _ _ _ (by omega) (by simp [frm])
    · rw [if_neg (by simpa using h3)]
      by_cases h2 : a0 = 2
      · subst h2
        rw [if_pos rfl]
        exact impl_MF_j1 _ _ _ _ _ _ _ _ _ _ _ _ _ _ _ _ _ _ _ _ _ (by omega) (by simp [frm])
      · rw [if_neg h2]
        by_cases h4 : a0 = 4
        · subst h4
          rw [if_pos rfl]
          exact impl_MF_j1 _ _ _ _ _ _ _ _ _ _ _ _ _ _ _ _ _ _ _ _ _ (by omega) (by simp [frm, zcv])
        · rw [if_neg h4]
          by_cases h5 : a0 = 5
          · subst h5
            rw [if_pos rfl]
            exact impl_MF_j1 _ _ _ _ _ _ _ _ _ _ _ _ _ _ _ _ _ _ _ _ _ (by omega) (by simp [frm, zkv])
          · rw [if_neg h5]
            unfold mfv
            rw [if_neg (by simp [frm, h1, h2, h3, h4, h5])]
theorem eqMessage_self (a0 a1 a2 a3 a4 a5 a6 a7 a8 : Int) (l : List Int) (hl : l.length ≤ 1000000000) (k : Nat) (hk : l.length < k) : laws_eqMessage.f k a0 a1 a2 a3 a4 a5 a6 a7 a8 l a0 a1 a2 a3 a4 a5 a6 a7 a8 l = some true := by
  unfold laws_eqMessage.f laws_eqKey.f laws_eqClaim.f
  rw [eqByteS_self l hl k hk]
  simp
def emv (a0 a1 a2 a3 a4 a5 a6 a7 a8 : Int) (l : List Int) : List Int := if a0 = 1 ∨ a0 = 3 then [a0 % 256] ++ (pk 4 a1 ++ [a2 % 256]) else if a0 = 2 then [a0 % 256] ++ pk 4 a1 else if a0 = 4 then [a0 % 256] ++ ([a3 % 256] ++ (pk 4 a4 ++ ([a5 % 256] ++ pk 4 a6))) else [a0 % 256] ++ ([a7 % 256] ++ ([a8 % 256] ++ l))
theorem emv_len (a0 a1 a2 a3 a4 a5 a6 a7 a8 : Int) (l : List Int) (h : l.length ≤ 16) : (emv a0 a1 a2 a3 a4 a5 a6 a7 a8 l).length ≤ 100 := by
  unfold emv
  repeat' split
  all_goals simp only [List.length_append, List.length_singleton, pk_len]
  all_goals omega
theorem mfv_ok {a0 a1 a2 a3 a4 a5 a6 a7 a8 : Int} {l : List Int} (h : mfv a0 a1 a2 a3 a4 a5 a6 a7 a8 l = 0) : l.length ≤ 16 ∧ ((a0 = 1 ∨ a0 = 3) ∧ 0 ≤ a1 ∧ 0 ≤ a2 ∨ a0 = 2 ∧ 0 ≤ a1 ∨ a0 = 4 ∧ 0 ≤ a3 ∧ 0 ≤ a4 ∧ 0 ≤ a5 ∧ 0 ≤ a6 ∨ a0 = 5 ∧ 0 ≤ a7 ∧ 0 ≤ a8) := by
  unfold mfv at h
  split at h
  · rename_i hf
    unfold frm zkv at hf
    split at h
    · have := cfv_ok h
      omega
    · split at h
      · split at h
        · split at h
          · rename_i h4 h5 h6
            split at h <;> omega
          · omega
        · omega
      · split at h
        · omega
        · omega
  · omega
theorem impl_Message_encoded_at (a0 a1 a2 a3 a4 a5 a6 a7 a8 : Int) (l : List Int) (hl : l.length ≤ 16) (hk : (a0 = 1 ∨ a0 = 3) ∧ 0 ≤ a1 ∧ 0 ≤ a2 ∨ a0 = 2 ∧ 0 ≤ a1 ∨ a0 = 4 ∧ 0 ≤ a3 ∧ 0 ≤ a4 ∧ 0 ≤ a5 ∧ 0 ≤ a6 ∨ a0 = 5 ∧ 0 ≤ a7 ∧ 0 ≤ a8) (k : Nat) (hk2 : 400 ≤ k) : impl_Message_encoded.f k a0 a1 a2 a3 a4 a5 a6 a7 a8 l = some (emv a0 a1 a2 a3 a4 a5 a6 a7 a8 l) := by
  obtain ⟨k, rfl⟩ : ∃ z, k = z + 1 := ⟨k - 1, by omega⟩
  have e4 : ∀ x, impl_word.f k x 4 = some (pk 4 x) := fun x => impl_word_at 4 (by omega) x k (by omega)
  have e1 : ∀ x, impl_word.f k x 1 = some (pk 1 x) := fun x => impl_word_at 1 (by omega) x k (by omega)
  unfold impl_Message_encoded.f emv
  simp only [impl_Message_encoded.j0, e4, e1, Option.bind_some]
  rcases hk with ⟨h | h, h1, h2⟩ | ⟨h, h1⟩ | ⟨h, h1, h2, h3, h4⟩ | ⟨h, h1, h2⟩
  · subst h
    rw [if_pos rfl, if_pos (show ((1 : Int) == 1) = true from rfl), Concat_at _ (by simp) (by simp [pk_len]) k (by omega), pk_one _ h2]
    simp
  · subst h
    rw [if_neg (by omega), if_pos (show ((3 : Int) == 3) = true from rfl), Concat_at _ (by simp) (by simp [pk_len]) k (by omega), pk_one _ h2]
    simp
  · subst h
    rw [if_neg (by omega), if_neg (by decide), if_pos rfl, Concat_at _ (by simp) (by simp [pk_len]) k (by omega)]
    simp
  · subst h
    rw [if_neg (by omega), if_neg (by decide), if_neg (by omega), if_pos rfl, Concat_at _ (by simp) (by simp [pk_len]) k (by omega), pk_one _ h1, pk_one _ h3]
    simp
  · subst h
    rw [if_neg (by omega), if_neg (by decide), if_neg (by omega), if_neg (by omega), Concat_at _ (by simp) (by simp [pk_len]; omega) k (by omega), pk_one _ h1, pk_one _ h2]
    simp
theorem rd_range (x : List Int) (hx : ∀ y ∈ x, 0 ≤ y ∧ y ≤ 255) (q : Int) (h0 : 0 ≤ q) (h1 : q < x.length) : 0 ≤ rd x q ∧ rd x q ≤ 255 := by
  have e : rd x q = x[q.toNat]'(by omega) := by
    simp only [rd, List.getD_eq_getElem?_getD]
    rw [List.getElem?_eq_getElem (by omega)]
    rfl
  rw [e]
  exact hx _ (List.getElem_mem _)
theorem rd_cut (x : List Int) (a n : Nat) (j : Nat) (h : a + j < n) (hn : n ≤ x.length) : rd ((x.take n).drop a) (j : Int) = rd x ((a : Int) + j) := by
  have e : ((a : Int) + j).toNat = a + j := by omega
  simp only [rd, Int.toNat_natCast, List.getD_eq_getElem?_getD, e]
  rw [List.getElem?_drop, List.getElem?_take_of_lt h]
theorem eqMessageS_self (l : List S40) (hl : l.length ≤ 1048576) (hs : ∀ m ∈ l, m.f5.f1.length ≤ 1048576) (k : Nat) (hk : 3000000 ≤ k) : laws_eqMessageS.f k l l = some true := by
  unfold laws_eqMessageS.f
  rw [if_pos rfl]
  refine loop_up (fun k (_ : Unit) i => laws_eqMessageS.l0 k l l i) l.length 1500000 (fun _ _ => true) (fun _ _ => True) ?_ ?_ k () 0 0 rfl (by omega) trivial (by omega)
  · intro k _ _ _
    rw [laws_eqMessageS.l0, if_neg (by omega)]
  · intro k _ i hi _ hm ih
    have hy : rd_T40 l (i : Int) = l[i] := by simp only [rd_T40, Int.toNat_natCast, getD_at _ _ _ hi]
    have hb := hs _ (List.getElem_mem hi)
    rw [laws_eqMessageS.l0, if_pos (by omega), if_pos (by omega), if_pos (by omega), hy, eqMessage_self _ _ _ _ _ _ _ _ _ _ (by omega) _ (by omega), w64 (by omega) (by omega)]
    exact ih () trivial
def rwn : Nat → List Int → Int → Int
  | 0, _, _ => 0
  | n + 1, x, a => rwn n x a * 256 + rd x (a + n)
theorem rwn_range (x : List Int) (hx : ∀ y ∈ x, 0 ≤ y ∧ y ≤ 255) (a : Int) (h0 : 0 ≤ a) : ∀ n : Nat, a + n ≤ x.length → 0 ≤ rwn n x a ∧ rwn n x a < 256 ^ n
  | 0, _ => by simp [rwn]
  | n + 1, h => by
    obtain ⟨h1, h2⟩ := rwn_range x hx a h0 n (by omega)
    have b := rd_range x hx (a + n) (by omega) (by omega)
    have e : (256 : Int) ^ (n + 1) = 256 ^ n * 256 := by rw [Int.pow_succ]
    simp only [rwn]
    omega
theorem rwn_le (x : List Int) (hx : ∀ y ∈ x, 0 ≤ y ∧ y ≤ 255) (a : Int) (h0 : 0 ≤ a) (n : Nat) (d : Nat) : a + (n + d : Nat) ≤ x.length → rwn n x a ≤ rwn (n + d) x a := by
  induction d with
  | zero => intro _; exact Int.le_refl _
  | succ d ih =>
    intro h
    have h1 := ih (by omega)
    have h2 := (rwn_range x hx a h0 (n + d) (by omega)).1
    have b := rd_range x hx (a + (n + d : Nat)) (by omega) (by omega)
    show rwn n x a ≤ rwn (n + d) x a * 256 + rd x (a + (n + d : Nat))
    omega
theorem spec_l1Read_gen (x : List Int) (hx : ∀ y ∈ x, 0 ≤ y ∧ y ≤ 255) (hl : x.length ≤ 1048576) (a : Int) (h0 : 0 ≤ a) (s : Nat) (h1 : a + s ≤ x.length) (hs : s ≤ 8) (hb : rwn s x a ≤ 9223372036854775807) (k : Nat) (hk : 10 ≤ k) : spec_l1Read.f k x a s = some (rwn s x a) := by
  unfold spec_l1Read.f
  refine loop_up (fun k n i => spec_l1Read.l0 k x a s n i) s 0 (fun _ _ => rwn s x a) (fun n i => n = rwn i x a) ?_ ?_ k 0 0 0 rfl (by omega) rfl (by omega)
  · intro k n hn _
    rw [spec_l1Read.l0, if_neg (by omega), hn]
  · intro k n i hi hn _ ih
    have e1 : wrap64 (a + (i : Int)) = a + i := w64 (by omega) (by omega)
    have b := rd_range x hx (a + i) (by omega) (by omega)
    have r := rwn_range x hx a h0 i (by omega)
    have hm : rwn (i + 1) x a ≤ rwn s x a := by
      have := rwn_le x hx a h0 (i + 1) (s - (i + 1)) (by omega)
      rwa [show i + 1 + (s - (i + 1)) = s by omega] at this
    have hm2 : rwn i x a * 256 + rd x (a + i) ≤ 9223372036854775807 := Int.le_trans hm hb
    subst hn
    rw [spec_l1Read.l0, if_pos (by omega), e1, if_pos (by omega), if_pos (by omega), w64 (show -9223372036854775808 ≤ rwn i x a * 256 by omega) (by omega), w64 (show -9223372036854775808 ≤ rd x (a + i) by omega) (by omega), w64 (show -9223372036854775808 ≤ rwn i x a * 256 + rd x (a + i) by omega) (by omega), w64 (show -9223372036854775808 ≤ (i : Int) + 1 by omega) (by omega)]
    exact ih _ rfl
theorem bits_orN (a b : Int) (ha0 : 0 ≤ a) (ha1 : a * 256 < 18446744073709551616) (h0 : 0 ≤ b) (h1 : b ≤ 255) : Go.bits .or .u64 (a * 256) b = a * 256 + b := by
  obtain ⟨n, rfl⟩ := Int.eq_ofNat_of_zero_le h0
  obtain ⟨m, rfl⟩ := Int.eq_ofNat_of_zero_le ha0
  have h2 : (BitVec.ofInt 64 (n : Int)).toNat = n := by
    rw [BitVec.ofInt_natCast, BitVec.toNat_ofNat]
    exact Nat.mod_eq_of_lt (by omega)
  have h3 : (BitVec.ofInt 64 ((m : Int) * 256)).toNat = m * 256 := by
    rw [show ((m : Int) * 256) = ((m * 256 : Nat) : Int) by omega, BitVec.ofInt_natCast, BitVec.toNat_ofNat]
    exact Nat.mod_eq_of_lt (by omega)
  have h4 : m * 256 ||| n = m * 256 + n := by
    have := Nat.shiftLeft_add_eq_or_of_lt (i := 8) (b := n) (by omega) m
    rw [Nat.shiftLeft_eq] at this
    exact this.symm
  show IntKind.u64.wrap ((BitVec.ofInt 64 ((m : Int) * 256) ||| BitVec.ofInt 64 (n : Int)).toNat : Int) = _
  rw [BitVec.toNat_or, h2, h3, h4, IntKind.wrap_u64]
  omega
def rwr (s : Nat) (x : List Int) (a : Int) : Int × Int := if 0 ≤ a ∧ a + s ≤ x.length then (if rwn s x a > 9223372036854775807 then (1, 0) else (0, rwn s x a)) else (3, 0)
theorem impl_ReadWord_gen (x : List Int) (hx : ∀ y ∈ x, 0 ≤ y ∧ y ≤ 255) (hl : x.length ≤ 1048576) (a : Int) (s : Nat) (hs1 : 1 ≤ s) (hs : s ≤ 8) (k : Nat) (hk : 12 ≤ k) : impl_ReadWord.f k x a s = some (rwr s x a) := by
  obtain ⟨k, rfl⟩ : ∃ z, k = z + 1 := ⟨k - 1, by omega⟩
  unfold impl_ReadWord.f rwr
  rw [impl_in_at, decide_eq_true (by omega), Option.bind_some, if_pos rfl]
  by_cases h0 : a < 0
  · rw [if_pos h0, if_neg (by omega), impl_ReadWord.j0, if_pos rfl]
    rfl
  rw [if_neg h0]
  by_cases h1 : a > (x.length : Int)
  · rw [if_pos h1, if_neg (by omega), impl_ReadWord.j0, if_pos rfl]
    rfl
  rw [if_neg h1, w64 (show -9223372036854775808 ≤ (x.length : Int) - a by omega) (by omega)]
  by_cases h2 : a + s ≤ x.length
  rotate_left
  · rw [if_neg (fun h => h2 h.2), decide_eq_true (by omega), impl_ReadWord.j0, if_pos rfl]
    rfl
  rw [if_pos (show 0 ≤ a ∧ a + s ≤ (x.length : Int) from ⟨by omega, h2⟩), decide_eq_false (by omega), impl_ReadWord.j0, if_neg (by decide), w64 (show -9223372036854775808 ≤ a + (s : Int) by omega) (by omega), if_pos (by omega), if_pos (by omega), if_pos (by omega)]
  have hlen : ((x.take (a + s).toNat).drop a.toNat).length = s := by
    rw [List.length_drop, List.length_take]
    omega
  have hrd : ∀ i : Nat, i < s → rd ((x.take (a + s).toNat).drop a.toNat) (i : Int) = rd x (a + i) := by
    intro i hi
    rw [rd_cut x a.toNat (a + s).toNat i (by omega) (by omega)]
    congr 1
    omega
  generalize (x.take (a + s).toNat).drop a.toNat = y at *
  rw [hlen]
  have uw : ∀ v : Int, 0 ≤ v → v < 18446744073709551616 → IntKind.u64.wrap v = v := fun v h0 h1 => by
    rw [IntKind.wrap_u64]
    omega
  refine loop_up (fun k n i => impl_ReadWord.l0 k n y (s : Int) i) s 0 (fun _ _ => if rwn s x a > 9223372036854775807 then (1, 0) else (0, rwn s x a)) (fun n i => n = rwn i x a) ?_ ?_ k 0 0 0 rfl (by omega) rfl (by omega)
  · intro k n hn _
    have r := rwn_range x hx a (by omega) s (by omega)
    subst hn
    rw [impl_ReadWord.l0, if_neg (by omega)]
    by_cases hb : rwn s x a > 9223372036854775807
    · rw [if_pos hb, if_pos hb]
      rfl
    · rw [if_neg hb, if_neg hb, w64 (show -9223372036854775808 ≤ rwn s x a by omega) (by omega)]
  · intro k n i hi hn _ ih
    have b := rd_range x hx (a + i) (by omega) (by omega)
    have r := rwn_range x hx a (by omega) i (by omega)
    have hp : (256 : Int) ^ i ≤ 72057594037927936 := by
      have : i = 0 ∨ i = 1 ∨ i = 2 ∨ i = 3 ∨ i = 4 ∨ i = 5 ∨ i = 6 ∨ i = 7 := by omega
      rcases this with h | h | h | h | h | h | h | h <;> subst h <;> decide
    subst hn
    rw [impl_ReadWord.l0, if_pos (by omega), if_pos (by omega), if_pos (by omega), hrd i hi, uw (rwn i x a * 256) (by omega) (by omega), uw (rd x (a + i)) (by omega) (by omega), bits_orN _ _ (by omega) (by omega) (by omega) (by omega), w64 (show -9223372036854775808 ≤ (i : Int) + 1 by omega) (by omega)]
    exact ih _ rfl
theorem pkl_rwn (x : List Int) (hx : ∀ y ∈ x, 0 ≤ y ∧ y ≤ 255) (a : Int) (h0 : 0 ≤ a) : ∀ (n : Nat) (s : List Int), a + n ≤ x.length → n ≤ s.length → rwn n x a ≤ 9223372036854775807 → pkl n (rwn n x a) s = ((List.range n).map fun (i : Nat) => rd x (a + i)) ++ s.drop n
  | 0, s, _, _, _ => by simp [pkl, rwn]
  | n + 1, s, h, hs, hb => by
    have b := rd_range x hx (a + n) (by omega) (by omega)
    have r := rwn_range x hx a h0 n (by omega)
    have hb' : rwn n x a * 256 + rd x (a + n) ≤ 9223372036854775807 := hb
    have e1 : wrap64 (Int.tdiv (rwn (n + 1) x a) 256) = rwn n x a := by
      have e : Int.tdiv (rwn (n + 1) x a) 256 = rwn n x a := by
        show Int.tdiv (rwn n x a * 256 + rd x (a + n)) 256 = _
        rw [Int.tdiv_eq_ediv_of_nonneg (by omega)]
        omega
      rw [e]
      exact w64 (by omega) (by omega)
    have e2 : Int.tmod (rwn (n + 1) x a) 256 % 256 = rd x (a + n) := by
      show Int.tmod (rwn n x a * 256 + rd x (a + n)) 256 % 256 = _
      rw [Int.tmod_eq_emod_of_nonneg (by omega)]
      omega
    simp only [pkl]
    rw [e1, e2, pkl_rwn x hx a h0 n _ (by omega) (by rw [List.length_set]; omega) (by omega), List.range_succ, List.map_append]
    simp only [List.map_cons, List.map_nil, List.append_assoc, List.singleton_append]
    congr 1
    rw [List.drop_eq_getElem_cons (by rw [List.length_set]; omega), List.getElem_set_self, List.drop_set_of_lt (by omega)]
theorem pk_rwn (x : List Int) (hx : ∀ y ∈ x, 0 ≤ y ∧ y ≤ 255) (a : Int) (h0 : 0 ≤ a) (n : Nat) (h : a + n ≤ x.length) (hn : n ≤ 7) : pk n (rwn n x a) = (List.range n).map fun (i : Nat) => rd x (a + i) := by
  have r := rwn_range x hx a h0 n h
  have hp : (256 : Int) ^ n ≤ 72057594037927936 := by
    have : n = 0 ∨ n = 1 ∨ n = 2 ∨ n = 3 ∨ n = 4 ∨ n = 5 ∨ n = 6 ∨ n = 7 := by omega
    rcases this with h | h | h | h | h | h | h | h <;> subst h <;> decide
  rw [pk, pkl_rwn x hx a h0 n _ h (by simp) (by omega)]
  simp
theorem rd_nat (x : List Int) (i : Nat) (h : i < x.length) : rd x (i : Int) = x[i] := by
  simp only [rd, Int.toNat_natCast, getD_at _ _ _ h]
theorem list_rd (x : List Int) : x = (List.range x.length).map fun (i : Nat) => rd x (i : Int) := by
  apply List.ext_getElem
  · simp
  · intro i h1 h2
    rw [List.getElem_map, List.getElem_range, rd_nat x i h1]
theorem equalBytes_at (a b : List Int) (hl : a.length ≤ 1000000000) (k : Nat) (hk : a.length < k) : slices_Equal_byte_byte.f k a b = some (decide (a = b)) := by
  unfold slices_Equal_byte_byte.f
  by_cases hn : a.length = b.length
  rotate_left
  · rw [if_neg (by omega), decide_eq_false (fun h => hn (by rw [h]))]
  rw [if_pos (by omega)]
  refine (loop_up (fun k (_ : Unit) i => slices_Equal_byte_byte.l0 k a b (a.length : Int) i) a.length 0 (fun _ i => decide (a.drop i = b.drop i)) (fun _ _ => True) ?_ ?_ k () 0 0 rfl (Nat.zero_le _) trivial (by omega)).trans (by simp only [List.drop_zero])
  · intro k _ _ _
    rw [slices_Equal_byte_byte.l0, if_neg (by omega), List.drop_length, hn, List.drop_length]
    rfl
  · intro k _ i hi _ _ ih
    have hj : i < b.length := by omega
    rw [slices_Equal_byte_byte.l0, if_pos (by omega), if_pos (by omega), if_pos (by omega), if_pos (by omega), rd_nat a i hi, rd_nat b i hj, w64 (by omega) (by omega), drop_cons a i hi, drop_cons b i hj]
    by_cases h : a[i] = b[i]
    · rw [if_pos h, ih () trivial]
      congr 1
      exact decide_eq_decide.mpr ⟨fun e => by rw [h, e], fun e => by injection e⟩
    · rw [if_neg h, decide_eq_false (fun e => h (by injection e))]
theorem number_at (x : List Int) (hx : ∀ y ∈ x, 0 ≤ y ∧ y ≤ 255) (hl : x.length ≤ 1048576) (a : Int) (h0 : 0 ≤ a) (s : Nat) (hs1 : 1 ≤ s) (hs : s ≤ 4) (k : Nat) (hk : 12 ≤ k) : ∃ c, impl_number.f k x a s = some ((if a + s ≤ x.length then rwn s x a else 0), c) := by
  unfold impl_number.f
  rw [impl_ReadWord_gen x hx hl a s hs1 (by omega) k hk]
  simp only [Option.bind_some]
  unfold rwr
  by_cases h : a + s ≤ x.length
  · rw [if_pos (show 0 ≤ a ∧ a + s ≤ (x.length : Int) from ⟨h0, h⟩), if_pos h]
    have r := rwn_range x hx a h0 s (by omega)
    have hp : (256 : Int) ^ s ≤ 4294967296 := by
      have : s = 1 ∨ s = 2 ∨ s = 3 ∨ s = 4 := by omega
      rcases this with h | h | h | h <;> subst h <;> decide
    rw [if_neg (by omega)]
    exact ⟨_, rfl⟩
  · rw [if_neg (fun q => h q.2), if_neg h]
    exact ⟨_, rfl⟩
def tup (m : S40) (b : Bool) : Int × Int × Int × Int × Int × Int × Int × Int × Int × List Int × Bool := (m.f0, m.f1, m.f2, m.f3.f0, m.f3.f1, m.f3.f2, m.f3.f3, m.f4, m.f5.f0, m.f5.f1, b)
def mfm (m : S40) : Int := mfv m.f0 m.f1 m.f2 m.f3.f0 m.f3.f1 m.f3.f2 m.f3.f3 m.f4 m.f5.f0 m.f5.f1
def emm (m : S40) : List Int := emv m.f0 m.f1 m.f2 m.f3.f0 m.f3.f1 m.f3.f2 m.f3.f3 m.f4 m.f5.f0 m.f5.f1
def mP (x : List Int) : S40 := ⟨rd x 0, rwn 4 x 1, rd x 5, ⟨0, 0, 0, 0⟩, 0, ⟨0, []⟩⟩
def mA (x : List Int) : S40 := ⟨rd x 0, rwn 4 x 1, 0, ⟨0, 0, 0, 0⟩, 0, ⟨0, []⟩⟩
def mC (x : List Int) : S40 := ⟨rd x 0, 0, 0, ⟨rd x 1, rwn 4 x 2, rd x 6, rwn 4 x 7⟩, 0, ⟨0, []⟩⟩
def mK (x : List Int) : S40 := ⟨rd x 0, 0, 0, ⟨0, 0, 0, 0⟩, rd x 1, ⟨rd x 2, x.drop 3⟩⟩
def dm (x : List Int) : Option S40 :=
  if (rd x 0 = 1 ∨ rd x 0 = 3) ∧ x.length = 6 then some (mP x)
  else if rd x 0 = 2 ∧ x.length = 5 then some (mA x)
  else if rd x 0 = 4 ∧ x.length = 11 then some (mC x)
  else if rd x 0 = 5 ∧ 3 ≤ x.length then some (mK x) else none
def dmr (x : List Int) : Int × List S40 := if x.length < 1 ∨ 100 < x.length then (2, []) else match dm x with
  | some m => if mfm m = 0 then (0, [m]) else (5, [])
  | none => (5, [])
theorem spec_l7Decode_at (x : List Int) (hx : ∀ y ∈ x, 0 ≤ y ∧ y ≤ 255) (h1 : 1 ≤ x.length) (hl : x.length ≤ 100) (k : Nat) (hk : 100 ≤ k) : spec_l7Decode.f k x = some (match dm x with | some m => tup m (mfm m == 0) | none => tup ⟨0, 0, 0, ⟨0, 0, 0, 0⟩, 0, ⟨0, []⟩⟩ false) := by
  obtain ⟨k, rfl⟩ : ∃ z, k = z + 4 := ⟨k - 4, by omega⟩
  have b0 := rd_range x hx 0 (by omega) (by omega)
  have e0 : wrap64 (rd x 0) = rd x 0 := w64 (by omega) (by omega)
  have er : ∀ i : Int, 0 ≤ i → i < x.length → wrap64 (rd x i) = rd x i := fun i h0 hi => by
    have := rd_range x hx i h0 hi
    exact w64 (by omega) (by omega)
  have e4 : ∀ a : Int, 0 ≤ a → a + 4 ≤ x.length → ∀ k, 10 ≤ k → spec_l1Read.f k x a 4 = some (rwn 4 x a) := fun a h0 h4 k hk => by
    have r := rwn_range x hx a h0 4 (by omega)
    have q : (256 : Int) ^ 4 = 4294967296 := by decide
    exact spec_l1Read_gen x hx (by omega) a h0 4 (by omega) (by omega) (by omega) k hk
  unfold spec_l7Decode.f dm
  rw [if_pos (by omega), e0]
  have hj0 : ∀ b, ((rd x 0 = 1 ∨ rd x 0 = 3) → b = ((x.length : Int) == 6)) → (¬ (rd x 0 = 1 ∨ rd x 0 = 3) → b = false) → spec_l7Decode.j0 (k + 4) x (x.length : Int) b (rd x 0) 0 0 0 0 0 0 0 0 = some (match (if (rd x 0 = 1 ∨ rd x 0 = 3) ∧ x.length = 6 then some (mP x) else if rd x 0 = 2 ∧ x.length = 5 then some (mA x) else if rd x 0 = 4 ∧ x.length = 11 then some (mC x) else if rd x 0 = 5 ∧ 3 ≤ x.length then some (mK x) else none) with | some m => tup m (mfm m == 0) | none => tup ⟨0, 0, 0, ⟨0, 0, 0, 0⟩, 0, ⟨0, []⟩⟩ false) := by
    intro b hb1 hb2
    by_cases h13 : (rd x 0 = 1 ∨ rd x 0 = 3) ∧ x.length = 6
    · have hb : b = true := by rw [hb1 h13.1]; simp; omega
      rw [hb, spec_l7Decode.j0, if_pos rfl, e4 1 (by omega) (by omega) _ (by omega), if_pos h13]
      simp only [Option.bind_some]
      rw [if_pos (by omega), er 5 (by omega) (by omega), spec_MessageFault_at _ _ _ _ _ _ _ _ _ _ _ (by omega)]
      rfl
    have hb : b = false := by
      by_cases h : rd x 0 = 1 ∨ rd x 0 = 3
      · rw [hb1 h]
        have : ¬ x.length = 6 := fun e => h13 ⟨h, e⟩
        simp
        omega
      · exact hb2 h
    rw [hb, spec_l7Decode.j0, if_neg (by decide), if_neg h13]
    have hj3 : ∀ c, ¬ (rd x 0 = 2 ∧ x.length = 5) → ¬ (rd x 0 = 4 ∧ x.length = 11) → c = decide (rd x 0 = 5 ∧ 3 ≤ x.length) → spec_l7Decode.j3 (k + 1) x c (rd x 0) 0 0 0 0 0 0 0 0 = some (match (if rd x 0 = 2 ∧ x.length = 5 then some (mA x) else if rd x 0 = 4 ∧ x.length = 11 then some (mC x) else if rd x 0 = 5 ∧ 3 ≤ x.length then some (mK x) else none) with | some m => tup m (mfm m == 0) | none => tup ⟨0, 0, 0, ⟨0, 0, 0, 0⟩, 0, ⟨0, []⟩⟩ false) := by
      intro c n2 n4 hc
      rw [if_neg n2, if_neg n4]
      by_cases h5 : rd x 0 = 5 ∧ 3 ≤ x.length
      · rw [decide_eq_true h5] at hc
        rw [hc, if_pos h5, spec_l7Decode.j3, if_pos rfl, if_pos (by omega), if_pos (by omega), if_pos (by omega), er 1 (by omega) (by omega), er 2 (by omega) (by omega)]
        have hd : (x.drop 3).length ≤ 100 := by rw [List.length_drop]; omega
        have hcp : spec_l1Copy.f (x.drop 3) = some (x.drop 3) := by
          unfold spec_l1Copy.f
          simp only [Option.bind_some, List.nil_append, List.length_nil]
          rw [if_pos (by omega)]
        rw [hcp]
        simp only [Option.bind_some]
        rw [spec_MessageFault_at _ _ _ _ _ _ _ _ _ _ _ (by omega)]
        rfl
      · rw [decide_eq_false h5] at hc
        rw [hc, if_neg h5, spec_l7Decode.j3, if_neg (by decide)]
        rfl
    have hj2 : ∀ c, ¬ (rd x 0 = 2 ∧ x.length = 5) → c = decide (rd x 0 = 4 ∧ x.length = 11) → spec_l7Decode.j2 (k + 2) x (x.length : Int) c (rd x 0) 0 0 0 0 0 0 0 0 = some (match (if rd x 0 = 2 ∧ x.length = 5 then some (mA x) else if rd x 0 = 4 ∧ x.length = 11 then some (mC x) else if rd x 0 = 5 ∧ 3 ≤ x.length then some (mK x) else none) with | some m => tup m (mfm m == 0) | none => tup ⟨0, 0, 0, ⟨0, 0, 0, 0⟩, 0, ⟨0, []⟩⟩ false) := by
      intro c n2 hc
      by_cases h4 : rd x 0 = 4 ∧ x.length = 11
      · rw [decide_eq_true h4] at hc
        rw [hc, if_neg n2, if_pos h4, spec_l7Decode.j2, if_pos rfl, if_pos (by omega), e4 2 (by omega) (by omega) _ (by omega)]
        simp only [Option.bind_some]
        rw [if_pos (by omega), e4 7 (by omega) (by omega) _ (by omega)]
        simp only [Option.bind_some]
        rw [er 1 (by omega) (by omega), er 6 (by omega) (by omega), spec_MessageFault_at _ _ _ _ _ _ _ _ _ _ _ (by omega)]
        rfl
      · rw [decide_eq_false h4] at hc
        rw [hc, spec_l7Decode.j2, if_neg (by decide)]
        by_cases h5 : rd x 0 = 5
        · rw [if_pos h5]
          exact hj3 _ n2 h4 (by simp only [h5, true_and]; exact decide_eq_decide.mpr (by omega))
        · rw [if_neg h5]
          exact hj3 _ n2 h4 (by simp [h5])
    have hj1 : ∀ c, c = decide (rd x 0 = 2 ∧ x.length = 5) → spec_l7Decode.j1 (k + 3) x (x.length : Int) c (rd x 0) 0 0 0 0 0 0 0 0 = some (match (if rd x 0 = 2 ∧ x.length = 5 then some (mA x) else if rd x 0 = 4 ∧ x.length = 11 then some (mC x) else if rd x 0 = 5 ∧ 3 ≤ x.length then some (mK x) else none) with | some m => tup m (mfm m == 0) | none => tup ⟨0, 0, 0, ⟨0, 0, 0, 0⟩, 0, ⟨0, []⟩⟩ false) := by
      intro c hc
      by_cases h2 : rd x 0 = 2 ∧ x.length = 5
      · rw [decide_eq_true h2] at hc
        rw [hc, if_pos h2, spec_l7Decode.j1, if_pos rfl, e4 1 (by omega) (by omega) _ (by omega)]
        simp only [Option.bind_some]
        rw [spec_MessageFault_at _ _ _ _ _ _ _ _ _ _ _ (by omega)]
        rfl
      · rw [decide_eq_false h2] at hc
        rw [hc, spec_l7Decode.j1, if_neg (by decide)]
        by_cases h4 : rd x 0 = 4
        · rw [if_pos h4]
          exact hj2 _ h2 (by simp only [h4, true_and]; rw [Bool.eq_iff_iff]; simp; omega)
        · rw [if_neg h4]
          exact hj2 _ h2 (by simp [h4])
    by_cases h2 : rd x 0 = 2
    · rw [if_pos h2]
      exact hj1 _ (by simp only [h2, true_and]; rw [Bool.eq_iff_iff]; simp; omega)
    · rw [if_neg h2]
      exact hj1 _ (by simp [h2])
  by_cases c1 : rd x 0 = 1
  · rw [if_pos c1]
    exact hj0 _ (fun _ => rfl) (fun h => absurd (.inl c1) h)
  · rw [if_neg c1]
    by_cases c3 : rd x 0 = 3
    · rw [if_pos c3]
      exact hj0 _ (fun _ => rfl) (fun h => absurd (.inr c3) h)
    · rw [if_neg c3]
      exact hj0 _ (fun h => absurd h (by omega)) (fun _ => rfl)
theorem rwn1 (x : List Int) (a : Int) : rwn 1 x a = rd x a := by simp [rwn]
theorem emm_mP (x : List Int) (hx : ∀ y ∈ x, 0 ≤ y ∧ y ≤ 255) (h0 : rd x 0 = 1 ∨ rd x 0 = 3) (h6 : x.length = 6) : emm (mP x) = x := by
  have b0 := rd_range x hx 0 (by omega) (by omega)
  have b5 := rd_range x hx 5 (by omega) (by omega)
  show emv (rd x 0) (rwn 4 x 1) (rd x 5) 0 0 0 0 0 0 [] = x
  unfold emv
  rw [if_pos h0, pk_rwn x hx 1 (by omega) 4 (by omega) (by omega), Int.emod_eq_of_lt b0.1 (by omega), Int.emod_eq_of_lt b5.1 (by omega)]
  conv => rhs; rw [list_rd x, h6]
  rfl
theorem emm_mA (x : List Int) (hx : ∀ y ∈ x, 0 ≤ y ∧ y ≤ 255) (h0 : rd x 0 = 2) (h6 : x.length = 5) : emm (mA x) = x := by
  have b0 := rd_range x hx 0 (by omega) (by omega)
  show emv (rd x 0) (rwn 4 x 1) 0 0 0 0 0 0 0 [] = x
  unfold emv
  rw [if_neg (by omega), if_pos h0, pk_rwn x hx 1 (by omega) 4 (by omega) (by omega), Int.emod_eq_of_lt b0.1 (by omega)]
  conv => rhs; rw [list_rd x, h6]
  rfl
theorem emm_mC (x : List Int) (hx : ∀ y ∈ x, 0 ≤ y ∧ y ≤ 255) (h0 : rd x 0 = 4) (h6 : x.length = 11) : emm (mC x) = x := by
  have b0 := rd_range x hx 0 (by omega) (by omega)
  have b1 := rd_range x hx 1 (by omega) (by omega)
  have b6 := rd_range x hx 6 (by omega) (by omega)
  show emv (rd x 0) 0 0 (rd x 1) (rwn 4 x 2) (rd x 6) (rwn 4 x 7) 0 0 [] = x
  unfold emv
  rw [if_neg (by omega), if_neg (by omega), if_pos h0, pk_rwn x hx 2 (by omega) 4 (by omega) (by omega), pk_rwn x hx 7 (by omega) 4 (by omega) (by omega), Int.emod_eq_of_lt b0.1 (by omega), Int.emod_eq_of_lt b1.1 (by omega), Int.emod_eq_of_lt b6.1 (by omega)]
  conv => rhs; rw [list_rd x, h6]
  rfl
theorem emm_mK (x : List Int) (hx : ∀ y ∈ x, 0 ≤ y ∧ y ≤ 255) (h0 : rd x 0 = 5) (h6 : 3 ≤ x.length) : emm (mK x) = x := by
  have b0 := rd_range x hx 0 (by omega) (by omega)
  have b1 := rd_range x hx 1 (by omega) (by omega)
  have b2 := rd_range x hx 2 (by omega) (by omega)
  show emv (rd x 0) 0 0 0 0 0 0 (rd x 1) (rd x 2) (x.drop 3) = x
  unfold emv
  rw [if_neg (by omega), if_neg (by omega), if_neg (by omega), Int.emod_eq_of_lt b0.1 (by omega), Int.emod_eq_of_lt b1.1 (by omega), Int.emod_eq_of_lt b2.1 (by omega)]
  have q0 := rd_nat x 0 (by omega)
  have q1 := rd_nat x 1 (by omega)
  have q2 := rd_nat x 2 (by omega)
  rw [show ((0 : Nat) : Int) = 0 from rfl] at q0
  rw [show ((1 : Nat) : Int) = 1 from rfl] at q1
  rw [show ((2 : Nat) : Int) = 2 from rfl] at q2
  have e := drop_cons x 0 (by omega)
  have e1 := drop_cons x 1 (by omega)
  have e2 := drop_cons x 2 (by omega)
  simp only [Nat.zero_add, Nat.reduceAdd, List.drop_zero] at e e1 e2
  rw [q0, q1, q2]
  conv => rhs; rw [e, e1, e2]
  rfl
theorem dec_fin (x : List Int) (m : S40) (k : Nat) (hk : 600 ≤ k) (hx1 : x.length ≤ 100) : ((impl_MessageFault.f k m.f0 m.f1 m.f2 m.f3.f0 m.f3.f1 m.f3.f2 m.f3.f3 m.f4 m.f5.f0 m.f5.f1).bind fun t => (if t = 0 then ((impl_Message_encoded.f k m.f0 m.f1 m.f2 m.f3.f0 m.f3.f1 m.f3.f2 m.f3.f3 m.f4 m.f5.f0 m.f5.f1).bind fun e => ((slices_Equal_byte_byte.f k e x).bind fun c => (some (tup m c)))) else (some (tup m false)))) = some (tup m (decide (mfm m = 0 ∧ emm m = x))) := by
  rw [impl_MessageFault_at _ _ _ _ _ _ _ _ _ _ _ (by omega)]
  simp only [Option.bind_some]
  by_cases h : mfm m = 0
  · have h' : mfv m.f0 m.f1 m.f2 m.f3.f0 m.f3.f1 m.f3.f2 m.f3.f3 m.f4 m.f5.f0 m.f5.f1 = 0 := h
    obtain ⟨q1, q2⟩ := mfv_ok h'
    have hle := emv_len m.f0 m.f1 m.f2 m.f3.f0 m.f3.f1 m.f3.f2 m.f3.f3 m.f4 m.f5.f0 m.f5.f1 q1
    rw [if_pos h', impl_Message_encoded_at _ _ _ _ _ _ _ _ _ _ q1 q2 _ (by omega)]
    simp only [Option.bind_some]
    rw [equalBytes_at _ _ (by omega) _ (by omega)]
    simp only [Option.bind_some, h, true_and]
    rfl
  · have h' : ¬ mfv m.f0 m.f1 m.f2 m.f3.f0 m.f3.f1 m.f3.f2 m.f3.f3 m.f4 m.f5.f0 m.f5.f1 = 0 := h
    rw [if_neg h', decide_eq_false (fun q => h q.1)]
theorem impl_decoded_at (x : List Int) (hx : ∀ y ∈ x, 0 ≤ y ∧ y ≤ 255) (h1 : 1 ≤ x.length) (hl : x.length ≤ 100) (k : Nat) (hk : 1000 ≤ k) : ∃ m b, impl_decoded.f k x = some (tup m b) ∧ (b = true → dm x = some m ∧ mfm m = 0) ∧ (b = false → ∀ m', dm x = some m' → mfm m' ≠ 0) := by
  obtain ⟨k, rfl⟩ : ∃ z, k = z + 1 := ⟨k - 1, by omega⟩
  have b0 := rd_range x hx 0 (by omega) (by omega)
  have e0 : wrap64 (rd x 0) = rd x 0 := w64 (by omega) (by omega)
  unfold impl_decoded.f
  rw [if_neg (by omega), if_pos (by omega), e0]
  have key : ∀ m : S40, (emm m = x → dm x = some m) → (∀ m', dm x = some m' → m' = m ∧ emm m = x) → ∀ g, g = some (tup m (decide (mfm m = 0 ∧ emm m = x))) → ∃ m b, g = some (tup m b) ∧ (b = true → dm x = some m ∧ mfm m = 0) ∧ (b = false → ∀ m', dm x = some m' → mfm m' ≠ 0) := by
    intro m p1 p2 g hg
    refine ⟨m, _, hg, fun hb => ?_, fun hb m' hm' => ?_⟩
    · have := of_decide_eq_true hb
      exact ⟨p1 this.2, this.1⟩
    · have := of_decide_eq_false hb
      obtain ⟨rfl, h2⟩ := p2 m' hm'
      exact fun h3 => this ⟨h3, h2⟩
  have e1n : ∀ a s : Nat, 1 ≤ s → s ≤ 4 → ∃ c, impl_number.f k x (a : Int) (s : Int) = some ((if (a : Int) + s ≤ x.length then rwn s x a else 0), c) := fun a s hs1 hs4 => number_at x hx (by omega) a (by omega) s hs1 hs4 k (by omega)
  obtain ⟨c14, n14⟩ := e1n 1 4 (by omega) (by omega)
  obtain ⟨c51, n51⟩ := e1n 5 1 (by omega) (by omega)
  obtain ⟨c11, n11⟩ := e1n 1 1 (by omega) (by omega)
  obtain ⟨c24, n24⟩ := e1n 2 4 (by omega) (by omega)
  obtain ⟨c61, n61⟩ := e1n 6 1 (by omega) (by omega)
  obtain ⟨c74, n74⟩ := e1n 7 4 (by omega) (by omega)
  obtain ⟨c21, n21⟩ := e1n 2 1 (by omega) (by omega)
  clear e1n
  rw [show ((1 : Nat) : Int) = 1 from rfl, show ((4 : Nat) : Int) = 4 from rfl] at n14
  rw [show ((5 : Nat) : Int) = 5 from rfl, show ((1 : Nat) : Int) = 1 from rfl] at n51
  rw [show ((1 : Nat) : Int) = 1 from rfl] at n11
  rw [show ((2 : Nat) : Int) = 2 from rfl, show ((4 : Nat) : Int) = 4 from rfl] at n24
  rw [show ((6 : Nat) : Int) = 6 from rfl, show ((1 : Nat) : Int) = 1 from rfl] at n61
  rw [show ((7 : Nat) : Int) = 7 from rfl, show ((4 : Nat) : Int) = 4 from rfl] at n74
  rw [show ((2 : Nat) : Int) = 2 from rfl, show ((1 : Nat) : Int) = 1 from rfl] at n21
  have hj : ∀ b, b = decide (rd x 0 = 1 ∨ rd x 0 = 3) → ∃ m c, impl_decoded.j0 (k + 1) x (rd x 0) b (rd x 0) 0 0 0 0 0 0 0 0 = some (tup m c) ∧ (c = true → dm x = some m ∧ mfm m = 0) ∧ (c = false → ∀ m', dm x = some m' → mfm m' ≠ 0) := by
    intro b hb
    by_cases h13 : rd x 0 = 1 ∨ rd x 0 = 3
    · rw [decide_eq_true h13] at hb
      rw [hb, impl_decoded.j0, if_pos rfl, n14]
      simp only [Option.bind_some]
      rw [n51]
      simp only [Option.bind_some]
      have hdm : x.length = 6 → dm x = some (mP x) := fun h6 => if_pos ⟨h13, h6⟩
      have hno : x.length ≠ 6 → dm x = none := fun h6 => by
        unfold dm
        rw [if_neg (fun h => h6 h.2), if_neg (fun h => by omega), if_neg (fun h => by omega), if_neg (fun h => by omega)]
      have hM : x.length = 6 → (⟨rd x 0, (if (1 : Int) + 4 ≤ x.length then rwn 4 x 1 else 0), (if (5 : Int) + 1 ≤ x.length then rwn 1 x 5 else 0), ⟨0, 0, 0, 0⟩, 0, ⟨0, []⟩⟩ : S40) = mP x := fun h6 => by
        rw [if_pos (by omega), if_pos (by omega), rwn1]
        rfl
      refine key ⟨rd x 0, (if (1 : Int) + 4 ≤ x.length then rwn 4 x 1 else 0), (if (5 : Int) + 1 ≤ x.length then rwn 1 x 5 else 0), ⟨0, 0, 0, 0⟩, 0, ⟨0, []⟩⟩ ?_ ?_ _ (dec_fin x ⟨rd x 0, (if (1 : Int) + 4 ≤ x.length then rwn 4 x 1 else 0), (if (5 : Int) + 1 ≤ x.length then rwn 1 x 5 else 0), ⟨0, 0, 0, 0⟩, 0, ⟨0, []⟩⟩ k (by omega) hl)
      · intro he
        have hlen : x.length = 6 := by
          rw [← he]
          show (emv (rd x 0) _ _ 0 0 0 0 0 0 []).length = 6
          unfold emv
          rw [if_pos h13]
          simp [pk_len]
        rw [hdm hlen, hM hlen]
      · intro m' hm'
        by_cases h6 : x.length = 6
        · rw [hdm h6] at hm'
          rw [hM h6]
          exact ⟨(Option.some.inj hm').symm, emm_mP x hx h13 h6⟩
        · rw [hno h6] at hm'
          cases hm'
    rw [decide_eq_false h13] at hb
    rw [hb, impl_decoded.j0, if_neg (by decide)]
    by_cases h2 : rd x 0 = 2
    · rw [if_pos h2, n14]
      simp only [Option.bind_some]
      have hdm : x.length = 5 → dm x = some (mA x) := fun h6 => by
        unfold dm
        rw [if_neg (fun h => h13 h.1), if_pos ⟨h2, h6⟩]
      have hno : x.length ≠ 5 → dm x = none := fun h6 => by
        unfold dm
        rw [if_neg (fun h => h13 h.1), if_neg (fun h => h6 h.2), if_neg (fun h => by omega), if_neg (fun h => by omega)]
      have hM : x.length = 5 → (⟨rd x 0, (if (1 : Int) + 4 ≤ x.length then rwn 4 x 1 else 0), 0, ⟨0, 0, 0, 0⟩, 0, ⟨0, []⟩⟩ : S40) = mA x := fun h6 => by
        rw [if_pos (by omega)]
        rfl
      refine key ⟨rd x 0, (if (1 : Int) + 4 ≤ x.length then rwn 4 x 1 else 0), 0, ⟨0, 0, 0, 0⟩, 0, ⟨0, []⟩⟩ ?_ ?_ _ (dec_fin x ⟨rd x 0, (if (1 : Int) + 4 ≤ x.length then rwn 4 x 1 else 0), 0, ⟨0, 0, 0, 0⟩, 0, ⟨0, []⟩⟩ k (by omega) hl)
      · intro he
        have hlen : x.length = 5 := by
          rw [← he]
          show (emv (rd x 0) _ 0 0 0 0 0 0 0 []).length = 5
          unfold emv
          rw [if_neg h13, if_pos h2]
          simp [pk_len]
        rw [hdm hlen, hM hlen]
      · intro m' hm'
        by_cases h6 : x.length = 5
        · rw [hdm h6] at hm'
          rw [hM h6]
          exact ⟨(Option.some.inj hm').symm, emm_mA x hx h2 h6⟩
        · rw [hno h6] at hm'
          cases hm'
    rw [if_neg h2]
    by_cases h4 : rd x 0 = 4
    · rw [if_pos h4, n11]
      simp only [Option.bind_some]
      rw [n24]
      simp only [Option.bind_some]
      rw [n61]
      simp only [Option.bind_some]
      rw [n74]
      simp only [Option.bind_some]
      have hdm : x.length = 11 → dm x = some (mC x) := fun h6 => by
        unfold dm
        rw [if_neg (fun h => h13 h.1), if_neg (fun h => h2 h.1), if_pos ⟨h4, h6⟩]
      have hno : x.length ≠ 11 → dm x = none := fun h6 => by
        unfold dm
        rw [if_neg (fun h => h13 h.1), if_neg (fun h => h2 h.1), if_neg (fun h => h6 h.2), if_neg (fun h => by omega)]
      have hM : x.length = 11 → (⟨rd x 0, 0, 0, ⟨(if (1 : Int) + 1 ≤ x.length then rwn 1 x 1 else 0), (if (2 : Int) + 4 ≤ x.length then rwn 4 x 2 else 0), (if (6 : Int) + 1 ≤ x.length then rwn 1 x 6 else 0), (if (7 : Int) + 4 ≤ x.length then rwn 4 x 7 else 0)⟩, 0, ⟨0, []⟩⟩ : S40) = mC x := fun h6 => by
        rw [if_pos (by omega), if_pos (by omega), if_pos (by omega), if_pos (by omega), rwn1, rwn1]
        rfl
      refine key ⟨rd x 0, 0, 0, ⟨(if (1 : Int) + 1 ≤ x.length then rwn 1 x 1 else 0), (if (2 : Int) + 4 ≤ x.length then rwn 4 x 2 else 0), (if (6 : Int) + 1 ≤ x.length then rwn 1 x 6 else 0), (if (7 : Int) + 4 ≤ x.length then rwn 4 x 7 else 0)⟩, 0, ⟨0, []⟩⟩ ?_ ?_ _ (dec_fin x ⟨rd x 0, 0, 0, ⟨(if (1 : Int) + 1 ≤ x.length then rwn 1 x 1 else 0), (if (2 : Int) + 4 ≤ x.length then rwn 4 x 2 else 0), (if (6 : Int) + 1 ≤ x.length then rwn 1 x 6 else 0), (if (7 : Int) + 4 ≤ x.length then rwn 4 x 7 else 0)⟩, 0, ⟨0, []⟩⟩ k (by omega) hl)
      · intro he
        have hlen : x.length = 11 := by
          rw [← he]
          show (emv (rd x 0) 0 0 _ _ _ _ 0 0 []).length = 11
          unfold emv
          rw [if_neg h13, if_neg h2, if_pos h4]
          simp [pk_len]
        rw [hdm hlen, hM hlen]
      · intro m' hm'
        by_cases h6 : x.length = 11
        · rw [hdm h6] at hm'
          rw [hM h6]
          exact ⟨(Option.some.inj hm').symm, emm_mC x hx h4 h6⟩
        · rw [hno h6] at hm'
          cases hm'
    rw [if_neg h4]
    by_cases h5 : rd x 0 = 5
    · rw [if_pos h5, n11]
      simp only [Option.bind_some]
      rw [n21]
      simp only [Option.bind_some]
      have hdm : 3 ≤ x.length → dm x = some (mK x) := fun h6 => by
        unfold dm
        rw [if_neg (fun h => h13 h.1), if_neg (fun h => h2 h.1), if_neg (fun h => h4 h.1), if_pos ⟨h5, h6⟩]
      have hno : ¬ 3 ≤ x.length → dm x = none := fun h6 => by
        unfold dm
        rw [if_neg (fun h => h13 h.1), if_neg (fun h => h2 h.1), if_neg (fun h => h4 h.1), if_neg (fun h => h6 h.2)]
      have hM : ∀ l, l = x.drop 3 → 3 ≤ x.length → (⟨rd x 0, 0, 0, ⟨0, 0, 0, 0⟩, (if (1 : Int) + 1 ≤ x.length then rwn 1 x 1 else 0), ⟨(if (2 : Int) + 1 ≤ x.length then rwn 1 x 2 else 0), l⟩⟩ : S40) = mK x := fun l hl h6 => by
        rw [if_pos (by omega), if_pos (by omega), rwn1, rwn1, hl]
        rfl
      have hboth : ∀ l, l = x.drop 3 → ∀ g, g = some (tup ⟨rd x 0, 0, 0, ⟨0, 0, 0, 0⟩, (if (1 : Int) + 1 ≤ x.length then rwn 1 x 1 else 0), ⟨(if (2 : Int) + 1 ≤ x.length then rwn 1 x 2 else 0), l⟩⟩ (decide (mfm ⟨rd x 0, 0, 0, ⟨0, 0, 0, 0⟩, (if (1 : Int) + 1 ≤ x.length then rwn 1 x 1 else 0), ⟨(if (2 : Int) + 1 ≤ x.length then rwn 1 x 2 else 0), l⟩⟩ = 0 ∧ emm ⟨rd x 0, 0, 0, ⟨0, 0, 0, 0⟩, (if (1 : Int) + 1 ≤ x.length then rwn 1 x 1 else 0), ⟨(if (2 : Int) + 1 ≤ x.length then rwn 1 x 2 else 0), l⟩⟩ = x))) → ∃ m b, g = some (tup m b) ∧ (b = true → dm x = some m ∧ mfm m = 0) ∧ (b = false → ∀ m', dm x = some m' → mfm m' ≠ 0) := by
        intro l hl g hg
        refine key _ ?_ ?_ g hg
        · intro he
          have hlen : 3 ≤ x.length := by
            have e : (emm ⟨rd x 0, 0, 0, ⟨0, 0, 0, 0⟩, (if (1 : Int) + 1 ≤ x.length then rwn 1 x 1 else 0), ⟨(if (2 : Int) + 1 ≤ x.length then rwn 1 x 2 else 0), l⟩⟩).length = x.length := by rw [he]
            have e2 : (emm ⟨rd x 0, 0, 0, ⟨0, 0, 0, 0⟩, (if (1 : Int) + 1 ≤ x.length then rwn 1 x 1 else 0), ⟨(if (2 : Int) + 1 ≤ x.length then rwn 1 x 2 else 0), l⟩⟩).length = 3 + l.length := by
              show (emv (rd x 0) 0 0 0 0 0 0 _ _ l).length = _
              unfold emv
              rw [if_neg h13, if_neg h2, if_neg h4]
              simp
              omega
            omega
          rw [hdm hlen, hM l hl hlen]
        · intro m' hm'
          by_cases h6 : 3 ≤ x.length
          · rw [hdm h6] at hm'
            rw [hM l hl h6]
            exact ⟨(Option.some.inj hm').symm, emm_mK x hx h5 h6⟩
          · rw [hno h6] at hm'
            cases hm'
      by_cases hg : (x.length : Int) > 3
      · have hcl : slices_Clone_byte_byte.f (x.drop 3) = some (x.drop 3) := by
          unfold slices_Clone_byte_byte.f
          rw [if_pos (by rw [List.length_drop]; omega)]
        rw [if_pos hg, if_pos (by omega), hcl]
        simp only [Option.bind_some]
        exact hboth (x.drop 3) rfl _ (dec_fin x ⟨rd x 0, 0, 0, ⟨0, 0, 0, 0⟩, (if (1 : Int) + 1 ≤ x.length then rwn 1 x 1 else 0), ⟨(if (2 : Int) + 1 ≤ x.length then rwn 1 x 2 else 0), x.drop 3⟩⟩ k (by omega) hl)
      · rw [if_neg hg]
        exact hboth [] (by rw [List.drop_eq_nil_of_le (by omega)]) _ (dec_fin x ⟨rd x 0, 0, 0, ⟨0, 0, 0, 0⟩, (if (1 : Int) + 1 ≤ x.length then rwn 1 x 1 else 0), ⟨(if (2 : Int) + 1 ≤ x.length then rwn 1 x 2 else 0), []⟩⟩ k (by omega) hl)
    rw [if_neg h5]
    have hno : dm x = none := by
      unfold dm
      rw [if_neg (fun h => h13 h.1), if_neg (fun h => h2 h.1), if_neg (fun h => h4 h.1), if_neg (fun h => h5 h.1)]
    have hmf : mfm ⟨rd x 0, 0, 0, ⟨0, 0, 0, 0⟩, 0, ⟨0, []⟩⟩ ≠ 0 := by
      intro h
      have := (mfv_ok (show mfv (rd x 0) 0 0 0 0 0 0 0 0 [] = 0 from h)).2
      omega
    exact ⟨_, _, dec_fin x ⟨rd x 0, 0, 0, ⟨0, 0, 0, 0⟩, 0, ⟨0, []⟩⟩ k (by omega) hl, fun hb => absurd (of_decide_eq_true hb).1 hmf, fun _ m' hm' => by rw [hno] at hm'; cases hm'⟩
  by_cases c1 : rd x 0 = 1
  · rw [if_pos c1]
    exact hj _ (by simp [c1])
  · rw [if_neg c1]
    exact hj _ (by rw [Bool.eq_iff_iff]; simp [c1])
theorem spec_DecodeMessage_at (x : List Int) (hx : ∀ y ∈ x, 0 ≤ y ∧ y ≤ 255) (k : Nat) (hk : 200 ≤ k) : spec_DecodeMessage.f k x = some (dmr x) := by
  obtain ⟨k, rfl⟩ : ∃ z, k = z + 1 := ⟨k - 1, by omega⟩
  have hj : ∀ b, b = decide (x.length < 1 ∨ 100 < x.length) → spec_DecodeMessage.j0 (k + 1) x b = some (dmr x) := by
    intro b hb
    unfold dmr
    by_cases h : x.length < 1 ∨ 100 < x.length
    · rw [decide_eq_true h] at hb
      rw [hb, if_pos h, spec_DecodeMessage.j0, if_pos rfl]
    · rw [decide_eq_false h] at hb
      rw [hb, if_neg h, spec_DecodeMessage.j0, if_neg (by decide), spec_l7Decode_at x hx (by omega) (by omega) k (by omega)]
      cases hd : dm x with
      | none =>
        simp only [Option.bind_some]
        rfl
      | some m =>
        simp only [Option.bind_some, tup]
        by_cases hm : mfm m = 0
        · rw [if_pos (show (mfm m == 0) = true by simp [hm]), if_pos hm]
        · rw [if_neg (show ¬ (mfm m == 0) = true by simp [hm]), if_neg hm]
  unfold spec_DecodeMessage.f
  by_cases h1 : (x.length : Int) < 1
  · rw [if_pos h1]
    exact hj _ (decide_eq_true (.inl (by omega))).symm
  · rw [if_neg h1]
    refine hj _ ?_
    exact decide_eq_decide.mpr (by omega)
theorem impl_DecodeMessage_at (x : List Int) (hx : ∀ y ∈ x, 0 ≤ y ∧ y ≤ 255) (hl : x.length ≤ 1048576) (k : Nat) (hk : 1000 ≤ k) : impl_DecodeMessage.f k x = some (dmr x) := by
  unfold impl_DecodeMessage.f dmr
  rw [impl_in_at]
  simp only [Option.bind_some]
  by_cases h : x.length < 1 ∨ 100 < x.length
  · rw [if_pos h, if_neg (by rw [decide_eq_true_eq]; omega)]
  · rw [if_neg h, if_pos (by rw [decide_eq_true_eq]; omega)]
    obtain ⟨m, b, e, p1, p2⟩ := impl_decoded_at x hx (by omega) (by omega) k hk
    rw [e]
    simp only [Option.bind_some, tup]
    cases b with
    | true =>
      obtain ⟨q1, q2⟩ := p1 rfl
      rw [if_pos rfl, q1]
      simp only [q2, ↓reduceIte]
    | false =>
      rw [if_neg (by decide)]
      have := p2 rfl
      cases hd : dm x with
      | none => rfl
      | some m' => simp only [this m' hd, ↓reduceIte]
theorem dmr_two (x : List Int) (hl : x.length ≤ 1048576) : dmr x = ((dmr x).1, []) ∨ ∃ m : S40, dmr x = (0, [m]) ∧ m.f5.f1.length ≤ 1048576 := by
  unfold dmr
  split
  · exact .inl rfl
  · cases hd : dm x with
    | none => exact .inl rfl
    | some m =>
      simp only
      split
      · refine .inr ⟨m, rfl, ?_⟩
        unfold dm at hd
        split at hd
        · cases hd
          exact Nat.zero_le _
        · split at hd
          · cases hd
            exact Nat.zero_le _
          · split at hd
            · cases hd
              exact Nat.zero_le _
            · split at hd
              · cases hd
                show (x.drop 3).length ≤ _
                rw [List.length_drop]
                omega
              · cases hd
      · exact .inl rfl
theorem eqMessagesResult_self (c : Int) (l : List S40) (hl : l.length ≤ 1048576) (hs : ∀ m ∈ l, m.f5.f1.length ≤ 1048576) (k : Nat) (hk : 3000000 ≤ k) : laws_eqMessagesResult.f k c l c l = some true := by
  unfold laws_eqMessagesResult.f
  rw [if_pos rfl, eqMessageS_self l hl hs k hk]
  simp only [Option.bind_some, ↓reduceIte]
theorem marked_two (c : Int) (l : List S40) (h : l = [] ∨ ∃ m : S40, l = [m] ∧ m.f5.f1.length ≤ 1048576) (k : Nat) (hk : 3000000 ≤ k) : ∃ r v, laws_markMessagesResult.f k c l 1 = some (r, v) ∧ 0 ≤ r ∧ ∀ j, 3000000 ≤ j → laws_heldMessagesResult.f j c v 1 = some r := by
  obtain ⟨k, rfl⟩ : ∃ z, k = z + 2 := ⟨k - 2, by omega⟩
  unfold laws_markMessagesResult.f laws_markMessageS.f laws_heldMessagesResult.f laws_heldMessageS.f
  rcases h with rfl | ⟨m, rfl, hm⟩
  · refine ⟨1, [], ?_, by omega, fun j hj => ?_⟩
    · rw [laws_markMessageS.l0, if_neg (by simp)]
      rfl
    · obtain ⟨j, rfl⟩ : ∃ z, j = z + 1 := ⟨j - 1, by omega⟩
      rw [laws_heldMessageS.l0, if_neg (by simp)]
      rfl
  · have hr0 : rd_T40 [m] 0 = m := rfl
    have hkk : 1048576 < k + 1 := by omega
    have q : ∀ x : Int, 0 ≤ x → x ≤ 100 → wrap64 (x + 1) = x + 1 := fun x _ _ => w64 (by omega) (by omega)
    have w1 : wrap64 (0 + 1) = 1 := q 0 (by omega) (by omega)
    have q2 : wrap64 (1 + 1) = 2 := q 1 (by omega) (by omega)
    have q3 : wrap64 (2 + 1) = 3 := q 2 (by omega) (by omega)
    have q4 : wrap64 (3 + 1) = 4 := q 3 (by omega) (by omega)
    have q5 : wrap64 (4 + 1) = 5 := q 4 (by omega) (by omega)
    have q6 : wrap64 (5 + 1) = 6 := q 5 (by omega) (by omega)
    have q7 : wrap64 (6 + 1) = 7 := q 6 (by omega) (by omega)
    have q8 : wrap64 (7 + 1) = 8 := q 7 (by omega) (by omega)
    have q9 : wrap64 (8 + 1) = 9 := q 8 (by omega) (by omega)
    have q10 : wrap64 (9 + 1) = 10 := q 9 (by omega) (by omega)
    clear q
    refine ⟨10 + 1 * (m.f5.f1.length : Int), [⟨1, 2, 3, ⟨4, 5, 6, 7⟩, 8, ⟨9, marks (fun x => x % 256) 1 10 m.f5.f1.length⟩⟩], ?_, (by clear w1 q2 q3 q4 q5 q6 q7 q8 q9 q10; omega), fun j hj => ?_⟩
    · rw [laws_markMessageS.l0, if_pos (by simp), if_pos (Int.le_refl 0), hr0, q2, q3, q4, q5, q6, q7, q8, q9, q10, markByteS_at _ 10 (by decide) (by decide) (Nat.le_trans hm (by decide)) _ (Nat.lt_of_le_of_lt hm hkk)]
      simp only [Option.bind_some]
      rw [w1, laws_markMessageS.l0, if_neg (by simp)]
      rfl
    · obtain ⟨j, rfl⟩ : ∃ z, j = z + 2 := ⟨j - 2, by clear w1 q2 q3 q4 q5 q6 q7 q8 q9 q10; omega⟩
      have hr1 : ∀ q : S40, rd_T40 [q] 0 = q := fun _ => rfl
      have hn : ¬ (10 + 1 * (m.f5.f1.length : Int)) < 0 := by
        clear w1 q2 q3 q4 q5 q6 q7 q8 q9 q10
        omega
      have hjj : m.f5.f1.length < j + 1 := by
        clear w1 q2 q3 q4 q5 q6 q7 q8 q9 q10
        omega
      rw [laws_heldMessageS.l0, if_pos (by simp), if_pos (Int.le_refl 0)]
      simp only [hr1, q2, q3, q4, q5, q6, q7, q8, q9, q10, ↓reduceIte]
      rw [heldByteS_at _ 10 (by decide) (by decide) (Nat.le_trans hm (by decide)) _ hjj]
      simp only [Option.bind_some]
      rw [if_neg hn, w1, laws_heldMessageS.l0, if_neg (by simp)]
      simp only [Option.bind_some]
      rw [if_neg hn]
end Go.Proofs.Ytpjelfgeohklkaa.Pure
