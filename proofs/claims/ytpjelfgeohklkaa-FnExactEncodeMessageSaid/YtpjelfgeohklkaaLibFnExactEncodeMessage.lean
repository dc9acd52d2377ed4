/- What the printed functions of the law FnExactEncodeMessage answer, as plain Lean. -/
import Derived.Test.YtpjelfgeohklkaaStFnExactEncodeMessage
import Derived.Test.YtpjelfgeohklkaaBaFnExactEncodeMessage
namespace Go.Proofs.Ytpjelfgeohklkaa.Pure
open Go.RowKit Go.Proofs.Ytpjelfgeohklkaa.Open Go.Proofs.Ytpjelfgeohklkaa.Base Go.Proofs.Ytpjelfgeohklkaa.MFnExactEncodeMessage Go.Proofs.YtpjelfgeohklkaaW.PrintWords Go.Proofs.YtpjelfgeohklkaaW.PrintLast
set_option linter.unusedVariables false
set_option linter.unusedSimpArgs false
theorem impl_in_at (a b c : Int) : impl_in.f a b c = some (decide (b ≤ a ∧ a ≤ c)) := by
  unfold impl_in.f
  by_cases h : a ≥ b
  · rw [if_pos h]
    have h' : b ≤ a := h
    simp [h']
  · rw [if_neg h]
    have h' : ¬ b ≤ a := h
    simp [h']
theorem spec_in_at (a b c : Int) : spec_l1In.f a b c = some (decide (b ≤ a ∧ a ≤ c)) := by
  unfold spec_l1In.f
  by_cases h : a ≥ b
  · rw [if_pos h]
    have h' : b ≤ a := h
    simp [h']
  · rw [if_neg h]
    have h' : ¬ b ≤ a := h
    simp [h']
def cfv (a b c d : Int) : Int := if (0 ≤ a ∧ a ≤ 3) ∧ (0 ≤ b ∧ b ≤ 1000000) ∧ (0 ≤ c ∧ c ≤ 2) ∧ (0 ≤ d ∧ d ≤ 9999999) then 0 else 3
theorem cfv_or (a b c d : Int) : cfv a b c d = 0 ∨ cfv a b c d = 3 := by
  unfold cfv
  split
  · exact .inl rfl
  · exact .inr rfl
theorem cfv_ok {a b c d : Int} (h : cfv a b c d = 0) : (0 ≤ a ∧ a ≤ 3) ∧ (0 ≤ b ∧ b ≤ 1000000) ∧ (0 ≤ c ∧ c ≤ 2) ∧ (0 ≤ d ∧ d ≤ 9999999) := by
  unfold cfv at h
  split at h
  · assumption
  · omega
theorem impl_ClaimFault_at (a b c d : Int) : impl_ClaimFault.f a b c d = some (cfv a b c d) := by
  simp only [impl_ClaimFault.f, impl_isNode.f, impl_isStatus.f, impl_in_at, Option.bind_some, decide_eq_true_eq]
  unfold cfv
  repeat' split
  all_goals first | rfl | (exfalso; omega)
theorem spec_ClaimFault_at (a b c d : Int) : spec_ClaimFault.f a b c d = some (cfv a b c d) := by
  simp only [spec_ClaimFault.f, spec_in_at, Option.bind_some, decide_eq_true_eq]
  unfold cfv
  repeat' split
  all_goals first | rfl | (exfalso; omega)
theorem eqByteS_self (l : List Int) (hl : l.length ≤ 1000000000) (k : Nat) (hk : l.length < k) : laws_eqByteS.f k l l = some true := by
  unfold laws_eqByteS.f
  rw [if_pos rfl]
  refine loop_up (fun k (_ : Unit) i => laws_eqByteS.l0 k l l i) l.length 0 (fun _ _ => true) (fun _ _ => True) ?_ ?_ k () 0 0 rfl (Nat.zero_le _) trivial (by omega)
  · intro k _ _ _
    simp only [laws_eqByteS.l0]
    rw [if_neg (by omega)]
  · intro k _ i hi _ _ ih
    simp only [laws_eqByteS.l0]
    rw [if_pos (by omega), if_pos (by omega), if_pos (by omega), w64 (by omega) (by omega)]
    simp only [eq_self, ↓reduceIte]
    exact ih () trivial
theorem szByteS_at (l : List Int) (a : Int) (h0 : 0 ≤ a) (h1 : a ≤ 1048576) (hl : l.length ≤ maxLen) : laws_szByteS.f l a = some (if a < l.length then -1 else a - l.length) := by
  unfold maxLen at hl
  unfold laws_szByteS.f
  rw [w64 (by omega) (by omega)]
  by_cases h : a < l.length
  · rw [if_pos (by omega), if_pos h]
  · rw [if_neg (by omega), if_neg h]
theorem toByteS_at (l : List Int) (hl : l.length ≤ 1000000000) (k : Nat) (hk : l.length < k) : laws_toByteS.f k l = some l := by
  unfold laws_toByteS.f
  rw [if_pos (by omega), if_pos (by omega)]
  have h := to_loop (fun k s i => laws_toByteS.l0 k l s i) l id ?_ ?_ k (List.replicate ((l.length : Int) : Int).toNat 0) (by simp) hk
  · rw [List.map_id] at h
    exact h
  · intro k s hs
    simp only [laws_toByteS.l0]
    rw [if_neg (by omega)]
  · intro k s i hi hs
    simp only [laws_toByteS.l0]
    rw [if_pos (by omega), if_pos (by omega), if_pos (by omega), w64 (by omega) (by omega)]
    simp only [Int.toNat_natCast, rd, getD_at _ _ _ hi, id]
theorem markByteS_at (l : List Int) (a : Int) (h0 : 0 ≤ a) (ha : a ≤ 1000000000000) (hl : l.length ≤ 1000000000) (k : Nat) (hk : l.length < k) : laws_markByteS.f k l a = some (a + 1 * l.length, marks (fun x => x % 256) 1 a l.length) := by
  unfold laws_markByteS.f
  refine mark_loop (fun k s b i => laws_markByteS.l0 k s b i) l.length 1 (fun x => x % 256) a ?_ ?_ k l rfl hk
  · intro k s b hs
    simp only [laws_markByteS.l0]
    rw [if_neg (by omega)]
  · intro k s i hi hs
    show laws_markByteS.l0 (k + 1) s (a + 1 * (i : Int)) (i : Int) = laws_markByteS.l0 k (s.set i ((a + 1 * (i : Int)) % 256)) (a + 1 * (i : Int) + 1) ((i : Int) + 1)
    have e1 : wrap64 (a + 1 * (i : Int) + 1) = a + 1 * (i : Int) + 1 := w64 (by omega) (by omega)
    have ei : wrap64 ((i : Int) + 1) = (i : Int) + 1 := w64 (by omega) (by omega)
    simp only [laws_markByteS.l0]
    rw [if_pos (by omega), if_pos (by omega)]
    simp only [Int.toNat_natCast, e1, ei]
theorem eqBytesResult_self (c : Int) (l : List Int) (hl : l.length ≤ 1000000000) (k : Nat) (hk : l.length < k) : laws_eqBytesResult.f k c l c l = some true := by
  unfold laws_eqBytesResult.f
  rw [if_pos rfl, eqByteS_self l hl k hk]
  simp
theorem markBytesResult_at (c : Int) (l : List Int) (hl : l.length ≤ 1000000000) (k : Nat) (hk : l.length < k) : laws_markBytesResult.f k c l 1 = some (1 + 1 * (l.length : Int), marks (fun x => x % 256) 1 1 l.length) := by
  unfold laws_markBytesResult.f
  rw [markByteS_at l 1 (by omega) (by omega) hl k hk]
  rfl
theorem heldByteS_at (n : Nat) (a : Int) (h0 : 0 ≤ a) (ha : a ≤ 1000000000000) (hl : n ≤ 1000000000) (k : Nat) (hk : n < k) : laws_heldByteS.f k (marks (fun x => x % 256) 1 a n) a = some (a + 1 * n) := by
  unfold laws_heldByteS.f
  refine held_loop (fun k b i => laws_heldByteS.l0 k (marks (fun x => x % 256) 1 a n) b i) n 1 a ?_ ?_ k hk
  · intro k b
    simp only [laws_heldByteS.l0, marks_len]
    rw [if_neg (by omega)]
  · intro k i hi
    show laws_heldByteS.l0 (k + 1) (marks (fun x => x % 256) 1 a n) (a + 1 * (i : Int)) (i : Int) = laws_heldByteS.l0 k (marks (fun x => x % 256) 1 a n) (a + 1 * (i : Int) + 1) ((i : Int) + 1)
    have e1 : wrap64 (a + 1 * (i : Int) + 1) = a + 1 * (i : Int) + 1 := w64 (by omega) (by omega)
    have ei : wrap64 ((i : Int) + 1) = (i : Int) + 1 := w64 (by omega) (by omega)
    have eg : rd (marks (fun x => x % 256) 1 a n) (i : Int) = (a + 1 * (i : Int)) % 256 := by
      simp only [rd, Int.toNat_natCast, List.getD_eq_getElem?_getD, marks_get _ _ _ _ _ hi, Option.getD_some]
      rfl
    simp only [laws_heldByteS.l0, marks_len]
    rw [if_pos (by omega), if_pos (by omega)]
    simp only [eg, e1, ei, eq_self, ↓reduceIte]
theorem heldBytesResult_at (c : Int) (n : Nat) (hl : n ≤ 1000000000) (k : Nat) (hk : n < k) : laws_heldBytesResult.f k c (marks (fun x => x % 256) 1 1 n) 1 = some (1 + 1 * (n : Int)) := by
  unfold laws_heldBytesResult.f
  rw [heldByteS_at n 1 (by omega) (by omega) hl k hk]
  simp only [Option.bind_some]
  rw [if_neg (by omega)]
def pkl : Nat → Int → List Int → List Int
  | 0, _, s => s
  | j + 1, x, s => pkl j (wrap64 (Int.tdiv x 256)) (s.set j ((Int.tmod x 256) % 256))
theorem pkl_len : ∀ (j : Nat) (x : Int) (s : List Int), (pkl j x s).length = s.length
  | 0, _, _ => rfl
  | j + 1, x, s => by rw [pkl, pkl_len j, List.length_set]
def pk (n : Nat) (x : Int) : List Int := pkl n x (List.replicate n 0)
theorem pk_len (n : Nat) (x : Int) : (pk n x).length = n := by rw [pk, pkl_len, List.length_replicate]
theorem pk_one (x : Int) (h : 0 ≤ x) : pk 1 x = [x % 256] := by
  show [(Int.tmod x 256) % 256] = [x % 256]
  rw [Int.tmod_eq_emod_of_nonneg h]
  congr 1
  omega
theorem spec_l1Pack_l0 : ∀ (j k : Nat) (x : Int) (s : List Int), j ≤ s.length → s.length ≤ 1000 → j < k → spec_l1Pack.l0 k x s ((j : Int) - 1) = some (pkl j x s)
  | 0, k, x, s, _, _, hk => by
    obtain ⟨k, rfl⟩ : ∃ z, k = z + 1 := ⟨k - 1, by omega⟩
    rw [spec_l1Pack.l0, if_neg (by omega)]
    rfl
  | j + 1, k, x, s, hj, hs, hk => by
    obtain ⟨k, rfl⟩ : ∃ z, k = z + 1 := ⟨k - 1, by omega⟩
    have e : ((j + 1 : Nat) : Int) - 1 = (j : Int) := by omega
    rw [e, spec_l1Pack.l0, if_pos (by omega), if_pos (by omega), if_pos (by omega), w64 (x := (j : Int) - 1) (by omega) (by omega), Int.toNat_natCast, spec_l1Pack_l0 j k _ _ (by rw [List.length_set]; omega) (by rw [List.length_set]; omega) (by omega)]
    rfl
theorem spec_l1Pack_at (n : Nat) (hn : n ≤ 100) (x : Int) (k : Nat) (hk : n < k) : spec_l1Pack.f k x (n : Int) = some (pk n x) := by
  unfold spec_l1Pack.f
  rw [if_pos (by omega), if_pos (by omega), w64 (by omega) (by omega), Int.toNat_natCast, spec_l1Pack_l0 n k x _ (by simp) (by simp; omega) hk]
  rfl
theorem impl_word_l0 : ∀ (j k : Nat) (x : Int) (s : List Int), j ≤ s.length → s.length ≤ 1000 → j < k → impl_word.l0 k x s ((j : Int) - 1) = some (pkl j x s)
  | 0, k, x, s, _, _, hk => by
    obtain ⟨k, rfl⟩ : ∃ z, k = z + 1 := ⟨k - 1, by omega⟩
    rw [impl_word.l0, if_neg (by omega)]
    rfl
  | j + 1, k, x, s, hj, hs, hk => by
    obtain ⟨k, rfl⟩ : ∃ z, k = z + 1 := ⟨k - 1, by omega⟩
    have e : ((j + 1 : Nat) : Int) - 1 = (j : Int) := by omega
    rw [e, impl_word.l0, if_pos (by omega), if_pos (by omega), if_pos (by omega), w64 (x := (j : Int) - 1) (by omega) (by omega), Int.toNat_natCast, impl_word_l0 j k _ _ (by rw [List.length_set]; omega) (by rw [List.length_set]; omega) (by omega)]
    rfl
theorem impl_word_at (n : Nat) (hn : n ≤ 100) (x : Int) (k : Nat) (hk : n < k) : impl_word.f k x (n : Int) = some (pk n x) := by
  unfold impl_word.f
  rw [if_pos (by omega), if_pos (by omega), w64 (by omega) (by omega), Int.toNat_natCast, impl_word_l0 n k x _ (by simp) (by simp; omega) hk]
  rfl
theorem Concat_l1 (l : List (List Int)) (hl : l.length ≤ 100) (hs : ∀ r ∈ l, r.length ≤ 10000) (m : Nat) : ∀ (k i : Nat) (s : List Int), l.length - i = m → i ≤ l.length → m < k → s.length ≤ 10000 * i → slices_Concat_byte_byte.l1 k s l (l.length : Int) (i : Int) = some (s ++ (l.drop i).flatten) := by
  induction m with
  | zero =>
    intro k i s hm hi hk hb
    obtain ⟨k, rfl⟩ : ∃ z, k = z + 1 := ⟨k - 1, by omega⟩
    obtain rfl : i = l.length := by omega
    rw [slices_Concat_byte_byte.l1, if_neg (by omega), List.drop_length, List.flatten_nil, List.append_nil]
  | succ m ih =>
    intro k i s hm hi hk hb
    obtain ⟨k, rfl⟩ : ∃ z, k = z + 1 := ⟨k - 1, by omega⟩
    have hlt : i < l.length := by omega
    have hy : rd_L1 l (i : Int) = l[i] := by simp only [rd_L1, Int.toNat_natCast, getD_at _ _ _ hlt]
    have hr := hs _ (List.getElem_mem hlt)
    have e2 : ((i + 1 : Nat) : Int) = (i : Int) + 1 := by omega
    rw [slices_Concat_byte_byte.l1, if_pos (by omega), if_pos (by omega), if_pos (by omega), hy, if_pos (by omega), w64 (by omega) (by omega), ← e2, ih k (i + 1) _ (by omega) (by omega) (by omega) (by rw [List.length_append]; omega), drop_cons l i hlt, List.flatten_cons, List.append_assoc]
theorem Concat_l0 (l : List (List Int)) (hl : l.length ≤ 100) (hs : ∀ r ∈ l, r.length ≤ 10000) (m : Nat) : ∀ (k i : Nat) (a : Int), l.length - i = m → i ≤ l.length → m + l.length + 2 < k → 0 ≤ a → a ≤ 10000 * i → slices_Concat_byte_byte.l0 k l a l (l.length : Int) (i : Int) = some l.flatten := by
  induction m with
  | zero =>
    intro k i a hm hi hk h0 hb
    obtain ⟨k, rfl⟩ : ∃ z, k = z + 1 := ⟨k - 1, by omega⟩
    obtain rfl : i = l.length := by omega
    unfold slices_Concat_byte_byte.l0 slices_Grow_byte_byte.f
    rw [if_neg (by omega), if_pos (by rfl), if_pos (by omega), if_pos (by omega), Option.bind_some]
    have e := Concat_l1 l hl hs _ k 0 [] rfl (by omega) (by omega) (by simp)
    rw [show ((0 : Nat) : Int) = 0 from rfl] at e
    rw [e, List.drop_zero, List.nil_append]
  | succ m ih =>
    intro k i a hm hi hk h0 hb
    obtain ⟨k, rfl⟩ : ∃ z, k = z + 1 := ⟨k - 1, by omega⟩
    have hlt : i < l.length := by omega
    have hy : rd_L1 l (i : Int) = l[i] := by simp only [rd_L1, Int.toNat_natCast, getD_at _ _ _ hlt]
    have hr := hs _ (List.getElem_mem hlt)
    have e2 : ((i + 1 : Nat) : Int) = (i : Int) + 1 := by omega
    rw [slices_Concat_byte_byte.l0, if_pos (by omega), if_pos (by omega), if_pos (by omega), hy, w64 (x := a + (l[i].length : Int)) (by omega) (by omega), if_neg (by omega), w64 (by omega) (by omega), ← e2, ih k (i + 1) _ (by omega) (by omega) (by omega) (by omega) (by omega)]
theorem Concat_at (l : List (List Int)) (hl : l.length ≤ 100) (hs : ∀ r ∈ l, r.length ≤ 10000) (k : Nat) (hk : 300 ≤ k) : slices_Concat_byte_byte.f k l = some l.flatten := by
  unfold slices_Concat_byte_byte.f
  have e := Concat_l0 l hl hs _ k 0 0 rfl (by omega) (by omega) (by omega) (by omega)
  exact e
def zcv (a b c d : Int) : Prop := a = 0 ∧ b = 0 ∧ c = 0 ∧ d = 0
instance (a b c d : Int) : Decidable (zcv a b c d) := inferInstanceAs (Decidable (_ ∧ _ ∧ _ ∧ _))
def zkv (p i : Int) (l : List Int) : Prop := p = 0 ∧ i = 0 ∧ l.length = 0
instance (p i : Int) (l : List Int) : Decidable (zkv p i l) := inferInstanceAs (Decidable (_ ∧ _ ∧ _))
theorem zc_bool (a b c d : Int) : (a == 0 && (b == 0 && (c == 0 && (d == 0)))) = decide (zcv a b c d) := by
  rw [Bool.eq_iff_iff, decide_eq_true_eq]
  simp [zcv]
theorem spec_l7Needs_at (a0 a1 a2 a3 a4 a5 a6 a7 a8 : Int) (l : List Int) (n1 n2 n3 n4 : Bool) : spec_l7Needs.f a0 a1 a2 a3 a4 a5 a6 a7 a8 l n1 n2 n3 n4 = some (decide ((n1 = true ∨ a1 = 0) ∧ (n2 = true ∨ a2 = 0) ∧ (n3 = true ∨ zcv a3 a4 a5 a6) ∧ (n4 = true ∨ zkv a7 a8 l))) := by
  have e : (if n4 = true then some true else if a7 = 0 then if a8 = 0 then some ((l.length : Int) == 0) else some false else some false) = some (decide (n4 = true ∨ zkv a7 a8 l)) := by
    cases n4
    · by_cases h7 : a7 = 0
      · by_cases h8 : a8 = 0
        · rw [if_neg (by decide), if_pos h7, if_pos h8, Option.some.injEq, Bool.eq_iff_iff]
          simp [zkv, h7, h8]
        · rw [if_neg (by decide), if_pos h7, if_neg h8]
          simp [zkv, h8]
      · rw [if_neg (by decide), if_neg h7]
        simp [zkv, h7]
    · simp
  unfold spec_l7Needs.f
  simp only [e, zc_bool, decide_eq_true_eq]
  by_cases h3 : zcv a3 a4 a5 a6 <;> cases n1 <;> cases n2 <;> cases n3 <;> by_cases h1 : a1 = 0 <;> by_cases h2 : a2 = 0 <;> simp [h1, h2, h3]
def frm (a0 a1 a2 a3 a4 a5 a6 a7 a8 : Int) (l : List Int) : Prop := ((a0 = 1 ∨ a0 = 3) ∧ zcv a3 a4 a5 a6 ∧ zkv a7 a8 l) ∨ (a0 = 2 ∧ a2 = 0 ∧ zcv a3 a4 a5 a6 ∧ zkv a7 a8 l) ∨ (a0 = 4 ∧ a1 = 0 ∧ a2 = 0 ∧ zkv a7 a8 l) ∨ (a0 = 5 ∧ a1 = 0 ∧ a2 = 0 ∧ zcv a3 a4 a5 a6)
instance (a0 a1 a2 a3 a4 a5 a6 a7 a8 : Int) (l : List Int) : Decidable (frm a0 a1 a2 a3 a4 a5 a6 a7 a8 l) := inferInstanceAs (Decidable (_ ∨ _ ∨ _ ∨ _))
theorem spec_l7Form_at (a0 a1 a2 a3 a4 a5 a6 a7 a8 : Int) (l : List Int) (k : Nat) (hk : 5 ≤ k) : spec_l7Form.f k a0 a1 a2 a3 a4 a5 a6 a7 a8 l = some (decide (frm a0 a1 a2 a3 a4 a5 a6 a7 a8 l)) := by
  obtain ⟨k, rfl⟩ : ∃ z, k = z + 1 := ⟨k - 1, by omega⟩
  unfold spec_l7Form.f
  simp only [spec_l7Form.j0, spec_l7Needs_at, Option.bind_some]
  by_cases h1 : a0 = 1
  · subst h1
    simp [frm]
  · rw [if_neg h1]
    by_cases h3 : a0 = 3
    · subst h3
      simp [frm]
    · by_cases h2 : a0 = 2
      · subst h2
        simp [frm]
      · by_cases h4 : a0 = 4
        · subst h4
          simp [frm]
        · by_cases h5 : a0 = 5
          · subst h5
            simp [frm]
          · simp [frm, h1, h2, h3, h4, h5]
def mfv (a0 a1 a2 a3 a4 a5 a6 a7 a8 : Int) (l : List Int) : Int := if frm a0 a1 a2 a3 a4 a5 a6 a7 a8 l then (if a0 = 4 then cfv a3 a4 a5 a6 else if a0 = 5 then (if (1 ≤ a7 ∧ a7 ≤ 3) ∧ 1 ≤ a8 ∧ a8 ≤ 255 then (if (l.length : Int) = (if a7 = 1 then 16 else 0) then 0 else 2) else 3) else if (0 ≤ a1 ∧ a1 ≤ 1000000) ∧ 0 ≤ a2 ∧ a2 ≤ 3 then 0 else 3) else 1
theorem spec_MessageFault_at (a0 a1 a2 a3 a4 a5 a6 a7 a8 : Int) (l : List Int) (k : Nat) (hk : 10 ≤ k) : spec_MessageFault.f k a0 a1 a2 a3 a4 a5 a6 a7 a8 l = some (mfv a0 a1 a2 a3 a4 a5 a6 a7 a8 l) := by
  obtain ⟨k, rfl⟩ : ∃ z, k = z + 1 := ⟨k - 1, by omega⟩
  unfold spec_MessageFault.f mfv
  rw [spec_l7Form_at _ _ _ _ _ _ _ _ _ _ _ (by omega)]
  simp only [Option.bind_some, spec_ClaimFault_at, spec_in_at, spec_MessageFault.j0, decide_eq_true_eq]
  by_cases hf : frm a0 a1 a2 a3 a4 a5 a6 a7 a8 l
  · rw [if_pos hf, if_pos hf]
    by_cases h4 : a0 = 4
    · rw [if_pos h4, if_pos h4]
    · rw [if_neg h4, if_neg h4]
      by_cases h5 : a0 = 5
      · rw [if_pos h5, if_pos h5]
        by_cases h7 : 1 ≤ a7 ∧ a7 ≤ 3
        · rw [if_pos h7]
          by_cases h8 : 1 ≤ a8 ∧ a8 ≤ 255
          · rw [if_pos (show (1 ≤ a7 ∧ a7 ≤ 3) ∧ 1 ≤ a8 ∧ a8 ≤ 255 from ⟨h7, h8⟩)]
            by_cases e : a7 = 1
            · simp [h8, e]
              split <;> rfl
            · simp [h8, e]
              split <;> rfl
          · rw [if_neg (fun h : (1 ≤ a7 ∧ a7 ≤ 3) ∧ 1 ≤ a8 ∧ a8 ≤ 255 => h8 h.2)]
            simp [h8]
        · rw [if_neg h7, if_neg (fun h : (1 ≤ a7 ∧ a7 ≤ 3) ∧ 1 ≤ a8 ∧ a8 ≤ 255 => h7 h.1)]
          simp
      · rw [if_neg h5, if_neg h5]
        by_cases h6 : 0 ≤ a1 ∧ a1 ≤ 1000000
        · rw [if_pos h6]
          by_cases h7 : 0 ≤ a2 ∧ a2 ≤ 3
          · rw [if_pos h7, if_pos (show (0 ≤ a1 ∧ a1 ≤ 1000000) ∧ 0 ≤ a2 ∧ a2 ≤ 3 from ⟨h6, h7⟩)]
          · rw [if_neg h7, if_neg (fun h : (0 ≤ a1 ∧ a1 ≤ 1000000) ∧ 0 ≤ a2 ∧ a2 ≤ 3 => h7 h.2)]
        · rw [if_neg h6, if_neg (fun h : (0 ≤ a1 ∧ a1 ≤ 1000000) ∧ 0 ≤ a2 ∧ a2 ≤ 3 => h6 h.1)]
  · rw [if_neg hf, if_neg hf]
theorem impl_MF_j2 (b : Bool) (a0 a1 a2 a3 a4 a5 a6 a7 a8 : Int) (l : List Int) (k : Nat) (hk : 10 ≤ k) (hb : b = !decide (frm a0 a1 a2 a3 a4 a5 a6 a7 a8 l)) : impl_MessageFault.j2 k b a0 a1 a2 a3 a4 a5 a6 a7 a8 l = some (mfv a0 a1 a2 a3 a4 a5 a6 a7 a8 l) := by
  obtain ⟨k, rfl⟩ : ∃ z, k = z + 5 := ⟨k - 5, by omega⟩
  subst hb
  unfold mfv
  simp only [impl_MessageFault.j2, impl_MessageFault.j3, impl_MessageFault.j4, impl_MessageFault.j5, impl_isSeq.f, impl_isNode.f, impl_isKeyId.f, impl_in_at, impl_ClaimFault_at, Option.bind_some, decide_eq_true_eq]
  by_cases hf : frm a0 a1 a2 a3 a4 a5 a6 a7 a8 l
  · rw [if_neg (by simp [hf]), if_pos hf]
    by_cases h4 : a0 = 4
    · rw [if_pos h4, if_pos h4]
    · rw [if_neg h4, if_neg h4]
      by_cases h5 : a0 = 5
      · have h1 : a1 = 0 ∧ a2 = 0 := by
          unfold frm at hf
          omega
        rw [if_pos (by omega), if_neg (by simp; omega), if_pos h5, if_pos h5]
        by_cases h7 : 1 ≤ a7 ∧ a7 ≤ 3
        · by_cases h8 : 1 ≤ a8 ∧ a8 ≤ 255
          · by_cases e : a7 = 1
            · simp [h8, e]
              split <;> rfl
            · simp [h7, h8, e]
              split <;> rfl
          · rw [if_neg (fun h : (1 ≤ a7 ∧ a7 ≤ 3) ∧ 1 ≤ a8 ∧ a8 ≤ 255 => h8 h.2)]
            simp [h7, h8]
        · rw [if_neg (fun h : (1 ≤ a7 ∧ a7 ≤ 3) ∧ 1 ≤ a8 ∧ a8 ≤ 255 => h7 h.1)]
          simp [h7]
      · rw [if_neg h5, if_neg h5]
        by_cases h6 : 0 ≤ a1 ∧ a1 ≤ 1000000
        · rw [if_pos h6]
          by_cases h7 : 0 ≤ a2 ∧ a2 ≤ 3
          · rw [if_pos (show (0 ≤ a1 ∧ a1 ≤ 1000000) ∧ 0 ≤ a2 ∧ a2 ≤ 3 from ⟨h6, h7⟩)]
            simp [h7]
          · rw [if_neg (fun h : (0 ≤ a1 ∧ a1 ≤ 1000000) ∧ 0 ≤ a2 ∧ a2 ≤ 3 => h7 h.2)]
            simp [h7]
        · rw [if_neg h6, if_neg (fun h : (0 ≤ a1 ∧ a1 ≤ 1000000) ∧ 0 ≤ a2 ∧ a2 ≤ 3 => h6 h.1)]
          simp
  · rw [if_pos (by simp [hf]), if_neg hf]
theorem zc_not (a b c d : Int) : (!(a == 0) || (!(b == 0) || (!(c == 0) || (!(d == 0))))) = !decide (zcv a b c d) := by
  rw [← zc_bool]
  simp
theorem impl_MF_j1 (a0 a1 a2 a3 a4 a5 a6 a7 a8 : Int) (l : List Int) (b0 b1 b2 b3 b4 b5 b6 b7 b8 : Int) (m : List Int) (k : Nat) (hk : 11 ≤ k) (hf : frm a0 a1 a2 a3 a4 a5 a6 a7 a8 l ↔ b1 = 0 ∧ b2 = 0 ∧ zcv b3 b4 b5 b6 ∧ zkv b7 b8 m) : impl_MessageFault.j1 k a0 a1 a2 a3 a4 a5 a6 a7 a8 l b0 b1 b2 b3 b4 b5 b6 b7 b8 m = some (mfv a0 a1 a2 a3 a4 a5 a6 a7 a8 l) := by
  obtain ⟨k, rfl⟩ : ∃ z, k = z + 1 := ⟨k - 1, by omega⟩
  rw [impl_MessageFault.j1, zc_not]
  by_cases h1 : b1 = 0
  · rw [if_pos h1]
    by_cases h2 : b2 = 0
    · rw [if_pos h2]
      by_cases h3 : zcv b3 b4 b5 b6
      · rw [if_neg (by simp [h3])]
        by_cases h7 : b7 = 0
        · rw [if_pos h7]
          unfold impl_isZeroKey.f
          by_cases h8 : b8 = 0
          · rw [if_pos h8, Option.bind_some]
            refine impl_MF_j2 _ _ _ _ _ _ _ _ _ _ _ _ (by omega) ?_
            rw [Bool.not_eq_eq_eq_not, Bool.not_not, Bool.eq_iff_iff, decide_eq_true_eq, hf]
            simp [h1, h2, h3, zkv, h7, h8]
          · rw [if_neg h8, Option.bind_some]
            refine impl_MF_j2 _ _ _ _ _ _ _ _ _ _ _ _ (by omega) ?_
            simp [hf, zkv, h8]
        · rw [if_neg h7]
          refine impl_MF_j2 _ _ _ _ _ _ _ _ _ _ _ _ (by omega) ?_
          simp [hf, zkv, h7]
      · rw [if_pos (by simp [h3])]
        refine impl_MF_j2 _ _ _ _ _ _ _ _ _ _ _ _ (by omega) ?_
        simp [hf, h3]
    · rw [if_neg h2]
      refine impl_MF_j2 _ _ _ _ _ _ _ _ _ _ _ _ (by omega) ?_
      simp [hf, h2]
  · rw [if_neg h1]
    refine impl_MF_j2 _ _ _ _ _ _ _ _ _ _ _ _ (by omega) ?_
    simp [hf, h1]
theorem impl_MessageFault_at (a0 a1 a2 a3 a4 a5 a6 a7 a8 : Int) (l : List Int) (k : Nat) (hk : 20 ≤ k) : impl_MessageFault.f k a0 a1 a2 a3 a4 a5 a6 a7 a8 l = some (mfv a0 a1 a2 a3 a4 a5 a6 a7 a8 l) := by
  obtain ⟨k, rfl⟩ : ∃ z, k = z + 1 := ⟨k - 1, by omega⟩
  unfold impl_MessageFault.f
  simp only [impl_MessageFault.j0]
  by_cases h1 : a0 = 1
  · subst h1
    rw [if_pos rfl, if_pos (show ((1 : Int) == 1) = true from rfl)]
    exact impl_MF_j1 _ _ _ _ _ _ _ _ _ _ _ _ _ _ _ _ _ _ _ _ _ (by omega) (by simp [frm])
  · rw [if_neg h1]
    by_cases h3 : a0 = 3
    · subst h3
      rw [if_pos (show ((3 : Int) == 3) = true from rfl)]
      exact impl_MF_j1 _ _ _ _ _ _ _ _ _ _ _ _ _ _ _ _ _ _ _ _ _ (by omega) (by simp [frm])
    · rw [if_neg (by simpa using h3)]
      by_cases h2 : a0 = 2
      · subst h2
        rw [if_pos rfl]
        exact impl_MF_j1 _ _ _ _ _ _ _ _ _ _ _ _ _ _ _ _ _ _ _ _ _ (by omega) (by simp [frm])
      · rw [if_neg h2]
        by_cases h4 : a0 = 4
        · subst h4
          rw [if_pos rfl]
          exact impl_MF_j1 _ _ _ _ _ _ _ _ _ _ _ _ _ _ _ _ _ _ _ _ _ (by omega) (by simp [frm, zcv])
        · rw [if_neg h4]
          by_cases h5 : a0 = 5
          · subst h5
            rw [if_pos rfl]
            exact impl_MF_j1 _ _ _ _ _ _ _ _ _ _ _ _ _ _ _ _ _ _ _ _ _ (by omega) (by simp [frm, zkv])
          · rw [if_neg h5]
            unfold mfv
            rw [if_neg (by simp [frm, h1, h2, h3, h4, h5])]
theorem szMessage_at (a0 a1 a2 a3 a4 a5 a6 a7 a8 : Int) (l : List Int) (a : Int) (h0 : 0 ≤ a) (h1 : a ≤ 1048576) (hl : l.length ≤ maxLen) : laws_szMessage.f a0 a1 a2 a3 a4 a5 a6 a7 a8 l a = some (if a < l.length then -1 else a - l.length) := by
  unfold laws_szMessage.f laws_szKey.f
  rw [szByteS_at l a h0 h1 hl]
  simp only [Option.bind_some]
  by_cases h : a < l.length
  · simp [h]
  · rw [if_neg h, if_neg (by omega)]
    simp only [Option.bind_some]
    rw [if_neg (by omega)]
theorem toMessage_at (a0 a1 a2 a3 a4 a5 a6 a7 a8 : Int) (l : List Int) (hl : l.length ≤ 1000000000) (k : Nat) (hk : l.length < k) : laws_toMessage.f k a0 a1 a2 a3 a4 a5 a6 a7 a8 l = some (a0, a1, a2, a3, a4, a5, a6, a7, a8, l) := by
  unfold laws_toMessage.f laws_toKey.f laws_toClaim.f
  rw [toByteS_at l hl k hk]
  rfl
theorem eqMessage_self (a0 a1 a2 a3 a4 a5 a6 a7 a8 : Int) (l : List Int) (hl : l.length ≤ 1000000000) (k : Nat) (hk : l.length < k) : laws_eqMessage.f k a0 a1 a2 a3 a4 a5 a6 a7 a8 l a0 a1 a2 a3 a4 a5 a6 a7 a8 l = some true := by
  unfold laws_eqMessage.f laws_eqKey.f laws_eqClaim.f
  rw [eqByteS_self l hl k hk]
  simp
def emv (a0 a1 a2 a3 a4 a5 a6 a7 a8 : Int) (l : List Int) : List Int := if a0 = 1 ∨ a0 = 3 then [a0 % 256] ++ (pk 4 a1 ++ [a2 % 256]) else if a0 = 2 then [a0 % 256] ++ pk 4 a1 else if a0 = 4 then [a0 % 256] ++ ([a3 % 256] ++ (pk 4 a4 ++ ([a5 % 256] ++ pk 4 a6))) else [a0 % 256] ++ ([a7 % 256] ++ ([a8 % 256] ++ l))
theorem emv_len (a0 a1 a2 a3 a4 a5 a6 a7 a8 : Int) (l : List Int) (h : l.length ≤ 16) : (emv a0 a1 a2 a3 a4 a5 a6 a7 a8 l).length ≤ 100 := by
  unfold emv
  repeat' split
  all_goals simp only [List.length_append, List.length_singleton, pk_len]
  all_goals omega
theorem mfv_ok {a0 a1 a2 a3 a4 a5 a6 a7 a8 : Int} {l : List Int} (h : mfv a0 a1 a2 a3 a4 a5 a6 a7 a8 l = 0) : l.length ≤ 16 ∧ ((a0 = 1 ∨ a0 = 3) ∧ 0 ≤ a1 ∧ 0 ≤ a2 ∨ a0 = 2 ∧ 0 ≤ a1 ∨ a0 = 4 ∧ 0 ≤ a3 ∧ 0 ≤ a4 ∧ 0 ≤ a5 ∧ 0 ≤ a6 ∨ a0 = 5 ∧ 0 ≤ a7 ∧ 0 ≤ a8) := by
  unfold mfv at h
  split at h
  · rename_i hf
    unfold frm zkv at hf
    split at h
    · have := cfv_ok h
      omega
    · split at h
      · split at h
        · split at h
          · rename_i h4 h5 h6
            split at h <;> omega
          · omega
        · omega
      · split at h
        · omega
        · omega
  · omega
theorem spec_l7Encode_at (a0 a1 a2 a3 a4 a5 a6 a7 a8 : Int) (l : List Int) (hl : l.length ≤ 16) (hz : a0 = 1 ∨ a0 = 3 ∨ a0 = 2 ∨ a0 = 4 ∨ a0 = 5) (k : Nat) (hk : 300 ≤ k) : spec_l7Encode.f k a0 a1 a2 a3 a4 a5 a6 a7 a8 l = some (emv a0 a1 a2 a3 a4 a5 a6 a7 a8 l) := by
  obtain ⟨k, rfl⟩ : ∃ z, k = z + 1 := ⟨k - 1, by omega⟩
  have e4 : ∀ x, spec_l1Pack.f k x 4 = some (pk 4 x) := fun x => spec_l1Pack_at 4 (by omega) x k (by omega)
  have p4 : ∀ x, (pk 4 x).length = 4 := pk_len 4
  unfold spec_l7Encode.f emv
  simp only [spec_l7Encode.j0, e4, Option.bind_some, List.length_append, List.length_cons, List.length_nil, p4]
  rcases hz with rfl | rfl | rfl | rfl | rfl
  all_goals simp
  omega
theorem impl_Message_encoded_at (a0 a1 a2 a3 a4 a5 a6 a7 a8 : Int) (l : List Int) (hl : l.length ≤ 16) (hk : (a0 = 1 ∨ a0 = 3) ∧ 0 ≤ a1 ∧ 0 ≤ a2 ∨ a0 = 2 ∧ 0 ≤ a1 ∨ a0 = 4 ∧ 0 ≤ a3 ∧ 0 ≤ a4 ∧ 0 ≤ a5 ∧ 0 ≤ a6 ∨ a0 = 5 ∧ 0 ≤ a7 ∧ 0 ≤ a8) (k : Nat) (hk2 : 400 ≤ k) : impl_Message_encoded.f k a0 a1 a2 a3 a4 a5 a6 a7 a8 l = some (emv a0 a1 a2 a3 a4 a5 a6 a7 a8 l) := by
  obtain ⟨k, rfl⟩ : ∃ z, k = z + 1 := ⟨k - 1, by omega⟩
  have e4 : ∀ x, impl_word.f k x 4 = some (pk 4 x) := fun x => impl_word_at 4 (by omega) x k (by omega)
  have e1 : ∀ x, impl_word.f k x 1 = some (pk 1 x) := fun x => impl_word_at 1 (by omega) x k (by omega)
  unfold impl_Message_encoded.f emv
  simp only [impl_Message_encoded.j0, e4, e1, Option.bind_some]
  rcases hk with ⟨h | h, h1, h2⟩ | ⟨h, h1⟩ | ⟨h, h1, h2, h3, h4⟩ | ⟨h, h1, h2⟩
  · subst h
    rw [if_pos rfl, if_pos (show ((1 : Int) == 1) = true from rfl), Concat_at _ (by simp) (by simp [pk_len]) k (by omega), pk_one _ h2]
    simp
  · subst h
    rw [if_neg (by omega), if_pos (show ((3 : Int) == 3) = true from rfl), Concat_at _ (by simp) (by simp [pk_len]) k (by omega), pk_one _ h2]
    simp
  · subst h
    rw [if_neg (by omega), if_neg (by decide), if_pos rfl, Concat_at _ (by simp) (by simp [pk_len]) k (by omega)]
    simp
  · subst h
    rw [if_neg (by omega), if_neg (by decide), if_neg (by omega), if_pos rfl, Concat_at _ (by simp) (by simp [pk_len]) k (by omega), pk_one _ h1, pk_one _ h3]
    simp
  · subst h
    rw [if_neg (by omega), if_neg (by decide), if_neg (by omega), if_neg (by omega), Concat_at _ (by simp) (by simp [pk_len]; omega) k (by omega), pk_one _ h1, pk_one _ h2]
    simp
def emr (a0 a1 a2 a3 a4 a5 a6 a7 a8 : Int) (l : List Int) : Int × List Int := if mfv a0 a1 a2 a3 a4 a5 a6 a7 a8 l = 0 then (0, emv a0 a1 a2 a3 a4 a5 a6 a7 a8 l) else (mfv a0 a1 a2 a3 a4 a5 a6 a7 a8 l, [])
theorem emr_len (a0 a1 a2 a3 a4 a5 a6 a7 a8 : Int) (l : List Int) : (emr a0 a1 a2 a3 a4 a5 a6 a7 a8 l).2.length ≤ 100 := by
  unfold emr
  split
  · rename_i h
    exact emv_len _ _ _ _ _ _ _ _ _ _ (mfv_ok h).1
  · simp
theorem spec_EncodeMessage_at (a0 a1 a2 a3 a4 a5 a6 a7 a8 : Int) (l : List Int) (k : Nat) (hk : 500 ≤ k) : spec_EncodeMessage.f k a0 a1 a2 a3 a4 a5 a6 a7 a8 l = some (emr a0 a1 a2 a3 a4 a5 a6 a7 a8 l) := by
  unfold spec_EncodeMessage.f emr
  rw [spec_MessageFault_at _ _ _ _ _ _ _ _ _ _ _ (by omega)]
  simp only [Option.bind_some]
  by_cases h : mfv a0 a1 a2 a3 a4 a5 a6 a7 a8 l = 0
  · obtain ⟨h1, h2⟩ := mfv_ok h
    rw [if_pos h, if_pos h, spec_l7Encode_at _ _ _ _ _ _ _ _ _ _ h1 (by omega) _ (by omega)]
    rfl
  · rw [if_neg h, if_neg h]
theorem impl_EncodeMessage_at (a0 a1 a2 a3 a4 a5 a6 a7 a8 : Int) (l : List Int) (k : Nat) (hk : 500 ≤ k) : impl_EncodeMessage.f k a0 a1 a2 a3 a4 a5 a6 a7 a8 l = some (emr a0 a1 a2 a3 a4 a5 a6 a7 a8 l) := by
  unfold impl_EncodeMessage.f emr
  rw [impl_MessageFault_at _ _ _ _ _ _ _ _ _ _ _ (by omega)]
  simp only [Option.bind_some]
  by_cases h : mfv a0 a1 a2 a3 a4 a5 a6 a7 a8 l = 0
  · obtain ⟨h1, h2⟩ := mfv_ok h
    rw [if_pos h, if_pos h, impl_Message_encoded_at _ _ _ _ _ _ _ _ _ _ h1 h2 _ (by omega)]
    rfl
  · rw [if_neg h, if_neg h]
    rfl
theorem markMessage_at (a0 a1 a2 a3 a4 a5 a6 a7 a8 : Int) (l : List Int) (hl : l.length ≤ 1000000000) (k : Nat) (hk : l.length < k) : laws_markMessage.f k a0 a1 a2 a3 a4 a5 a6 a7 a8 l 1 = some (1 + 1 * (l.length : Int), marks (fun x => x % 256) 1 1 l.length) := by
  unfold laws_markMessage.f laws_markKey.f
  rw [markByteS_at l 1 (by omega) (by omega) hl k hk]
  rfl
end Go.Proofs.Ytpjelfgeohklkaa.Pure
