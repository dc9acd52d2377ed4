/- What the printed functions of the law FnExactEncodeMessages answer, as plain Lean. -/
import Derived.Test.YtpjelfgeohklkaaStFnExactEncodeMessages
import Derived.Test.YtpjelfgeohklkaaBaFnExactEncodeMessages
namespace Go.Proofs.Ytpjelfgeohklkaa.Pure
open Go.RowKit Go.Proofs.Ytpjelfgeohklkaa.Open Go.Proofs.Ytpjelfgeohklkaa.Base Go.Proofs.Ytpjelfgeohklkaa.MFnExactEncodeMessages Go.Proofs.YtpjelfgeohklkaaW.PrintWords Go.Proofs.YtpjelfgeohklkaaW.PrintLast Go.Proofs.YtpjelfgeohklkaaW.PrintMore
set_option linter.unusedVariables false
set_option linter.unusedSimpArgs false
theorem impl_in_at (a b c : Int) : impl_in.f a b c = some (decide (b ≤ a ∧ a ≤ c)) := by
  unfold impl_in.f
  by_cases h : a ≥ b
  · rw [if_pos h]
    have h' : b ≤ a := h
    simp [h']
  · rw [if_neg h]
    have h' : ¬ b ≤ a := h
    simp [h']
theorem spec_in_at (a b c : Int) : spec_l1In.f a b c = some (decide (b ≤ a ∧ a ≤ c)) := by
  unfold spec_l1In.f
  by_cases h : a ≥ b
  · rw [if_pos h]
    have h' : b ≤ a := h
    simp [h']
  · rw [if_neg h]
    have h' : ¬ b ≤ a := h
    simp [h']
def cfv (a b c d : Int) : Int := if (0 ≤ a ∧ a ≤ 3) ∧ (0 ≤ b ∧ b ≤ 1000000) ∧ (0 ≤ c ∧ c ≤ 2) ∧ (0 ≤ d ∧ d ≤ 9999999) then 0 else 3
theorem cfv_or (a b c d : Int) : cfv a b c d = 0 ∨ cfv a b c d = 3 := by
  unfold cfv
  split
  · exact .inl rfl
  · exact .inr rfl
theorem cfv_ok {a b c d : Int} (h : cfv a b c d = 0) : (0 ≤ a ∧ a ≤ 3) ∧ (0 ≤ b ∧ b ≤ 1000000) ∧ (0 ≤ c ∧ c ≤ 2) ∧ (0 ≤ d ∧ d ≤ 9999999) := by
  unfold cfv at h
  split at h
  · assumption
  · omega
theorem impl_ClaimFault_at (a b c d : Int) : impl_ClaimFault.f a b c d = some (cfv a b c d) := by
  simp only [impl_ClaimFault.f, impl_isNode.f, impl_isStatus.f, impl_in_at, Option.bind_some, decide_eq_true_eq]
  unfold cfv
  repeat' split
  all_goals first | rfl | (exfalso; omega)
theorem spec_ClaimFault_at (a b c d : Int) : spec_ClaimFault.f a b c d = some (cfv a b c d) := by
  simp only [spec_ClaimFault.f, spec_in_at, Option.bind_some, decide_eq_true_eq]
  unfold cfv
  repeat' split
  all_goals first | rfl | (exfalso; omega)
theorem eqByteS_self (l : List Int) (hl : l.length ≤ 1000000000) (k : Nat) (hk : l.length < k) : laws_eqByteS.f k l l = some true := by
  unfold laws_eqByteS.f
  rw [if_pos rfl]
  refine loop_up (fun k (_ : Unit) i => laws_eqByteS.l0 k l l i) l.length 0 (fun _ _ => true) (fun _ _ => True) ?_ ?_ k () 0 0 rfl (Nat.zero_le _) trivial (by omega)
  · intro k _ _ _
    simp only [laws_eqByteS.l0]
    rw [if_neg (by omega)]
  · intro k _ i hi _ _ ih
    simp only [laws_eqByteS.l0]
    rw [if_pos (by omega), if_pos (by omega), if_pos (by omega), w64 (by omega) (by omega)]
    simp only [eq_self, ↓reduceIte]
    exact ih () trivial
theorem szByteS_at (l : List Int) (a : Int) (h0 : 0 ≤ a) (h1 : a ≤ 1048576) (hl : l.length ≤ maxLen) : laws_szByteS.f l a = some (if a < l.length then -1 else a - l.length) := by
  unfold maxLen at hl
  unfold laws_szByteS.f
  rw [w64 (by omega) (by omega)]
  by_cases h : a < l.length
  · rw [if_pos (by omega), if_pos h]
  · rw [if_neg (by omega), if_neg h]
theorem toByteS_at (l : List Int) (hl : l.length ≤ 1000000000) (k : Nat) (hk : l.length < k) : laws_toByteS.f k l = some l := by
  unfold laws_toByteS.f
  rw [if_pos (by omega), if_pos (by omega)]
  have h := to_loop (fun k s i => laws_toByteS.l0 k l s i) l id ?_ ?_ k (List.replicate ((l.length : Int) : Int).toNat 0) (by simp) hk
  · rw [List.map_id] at h
    exact h
  · intro k s hs
    simp only [laws_toByteS.l0]
    rw [if_neg (by omega)]
  · intro k s i hi hs
    simp only [laws_toByteS.l0]
    rw [if_pos (by omega), if_pos (by omega), if_pos (by omega), w64 (by omega) (by omega)]
    simp only [Int.toNat_natCast, rd, getD_at _ _ _ hi, id]
theorem markByteS_at (l : List Int) (a : Int) (h0 : 0 ≤ a) (ha : a ≤ 4000000000000000) (hl : l.length ≤ 1000000000) (k : Nat) (hk : l.length < k) : laws_markByteS.f k l a = some (a + 1 * l.length, marks (fun x => x % 256) 1 a l.length) := by
  unfold laws_markByteS.f
  refine mark_loop (fun k s b i => laws_markByteS.l0 k s b i) l.length 1 (fun x => x % 256) a ?_ ?_ k l rfl hk
  · intro k s b hs
    simp only [laws_markByteS.l0]
    rw [if_neg (by omega)]
  · intro k s i hi hs
    show laws_markByteS.l0 (k + 1) s (a + 1 * (i : Int)) (i : Int) = laws_markByteS.l0 k (s.set i ((a + 1 * (i : Int)) % 256)) (a + 1 * (i : Int) + 1) ((i : Int) + 1)
    have e1 : wrap64 (a + 1 * (i : Int) + 1) = a + 1 * (i : Int) + 1 := w64 (by omega) (by omega)
    have ei : wrap64 ((i : Int) + 1) = (i : Int) + 1 := w64 (by omega) (by omega)
    simp only [laws_markByteS.l0]
    rw [if_pos (by omega), if_pos (by omega)]
    simp only [Int.toNat_natCast, e1, ei]
theorem eqBytesResult_self (c : Int) (l : List Int) (hl : l.length ≤ 1000000000) (k : Nat) (hk : l.length < k) : laws_eqBytesResult.f k c l c l = some true := by
  unfold laws_eqBytesResult.f
  rw [if_pos rfl, eqByteS_self l hl k hk]
  simp
theorem markBytesResult_at (c : Int) (l : List Int) (hl : l.length ≤ 1000000000) (k : Nat) (hk : l.length < k) : laws_markBytesResult.f k c l 1 = some (1 + 1 * (l.length : Int), marks (fun x => x % 256) 1 1 l.length) := by
  unfold laws_markBytesResult.f
  rw [markByteS_at l 1 (by omega) (by omega) hl k hk]
  rfl
theorem heldByteS_at (n : Nat) (a : Int) (h0 : 0 ≤ a) (ha : a ≤ 1000000000000) (hl : n ≤ 1000000000) (k : Nat) (hk : n < k) : laws_heldByteS.f k (marks (fun x => x % 256) 1 a n) a = some (a + 1 * n) := by
  unfold laws_heldByteS.f
  refine held_loop (fun k b i => laws_heldByteS.l0 k (marks (fun x => x % 256) 1 a n) b i) n 1 a ?_ ?_ k hk
  · intro k b
    simp only [laws_heldByteS.l0, marks_len]
    rw [if_neg (by omega)]
  · intro k i hi
    show laws_heldByteS.l0 (k + 1) (marks (fun x => x % 256) 1 a n) (a + 1 * (i : Int)) (i : Int) = laws_heldByteS.l0 k (marks (fun x => x % 256) 1 a n) (a + 1 * (i : Int) + 1) ((i : Int) + 1)
    have e1 : wrap64 (a + 1 * (i : Int) + 1) = a + 1 * (i : Int) + 1 := w64 (by omega) (by omega)
    have ei : wrap64 ((i : Int) + 1) = (i : Int) + 1 := w64 (by omega) (by omega)
    have eg : rd (marks (fun x => x % 256) 1 a n) (i : Int) = (a + 1 * (i : Int)) % 256 := by
      simp only [rd, Int.toNat_natCast, List.getD_eq_getElem?_getD, marks_get _ _ _ _ _ hi, Option.getD_some]
      rfl
    simp only [laws_heldByteS.l0, marks_len]
    rw [if_pos (by omega), if_pos (by omega)]
    simp only [eg, e1, ei, eq_self, ↓reduceIte]
theorem heldBytesResult_at (c : Int) (n : Nat) (hl : n ≤ 1000000000) (k : Nat) (hk : n < k) : laws_heldBytesResult.f k c (marks (fun x => x % 256) 1 1 n) 1 = some (1 + 1 * (n : Int)) := by
  unfold laws_heldBytesResult.f
  rw [heldByteS_at n 1 (by omega) (by omega) hl k hk]
  simp only [Option.bind_some]
  rw [if_neg (by omega)]
def pkl : Nat → Int → List Int → List Int
  | 0, _, s => s
  | j + 1, x, s => pkl j (wrap64 (Int.tdiv x 256)) (s.set j ((Int.tmod x 256) % 256))
theorem pkl_len : ∀ (j : Nat) (x : Int) (s : List Int), (pkl j x s).length = s.length
  | 0, _, _ => rfl
  | j + 1, x, s => by rw [pkl, pkl_len j, List.length_set]
def pk (n : Nat) (x : Int) : List Int := pkl n x (List.replicate n 0)
theorem pk_len (n : Nat) (x : Int) : (pk n x).length = n := by rw [pk, pkl_len, List.length_replicate]
theorem pk_one (x : Int) (h : 0 ≤ x) : pk 1 x = [x % 256] := by
  show [(Int.tmod x 256) % 256] = [x % 256]
  rw [Int.tmod_eq_emod_of_nonneg h]
  congr 1
  omega
theorem spec_l1Pack_l0 : ∀ (j k : Nat) (x : Int) (s : List Int), j ≤ s.length → s.length ≤ 1000 → j < k → spec_l1Pack.l0 k x s ((j : Int) - 1) = some (pkl j x s)
  | 0, k, x, s, _, _, hk => by
    obtain ⟨k, rfl⟩ : ∃ z, k = z + 1 := ⟨k - 1, by omega⟩
    rw [spec_l1Pack.l0, if_neg (by omega)]
    rfl
  | j + 1, k, x, s, hj, hs, hk => by
    obtain ⟨k, rfl⟩ : ∃ z, k = z + 1 := ⟨k - 1, by omega⟩
    have e : ((j + 1 : Nat) : Int) - 1 = (j : Int) := by omega
    rw [e, spec_l1Pack.l0, if_pos (by omega), if_pos (by omega), if_pos (by omega), w64 (x := (j : Int) - 1) (by omega) (by omega), Int.toNat_natCast, spec_l1Pack_l0 j k _ _ (by rw [List.length_set]; omega) (by rw [List.length_set]; omega) (by omega)]
    rfl
theorem spec_l1Pack_at (n : Nat) (hn : n ≤ 100) (x : Int) (k : Nat) (hk : n < k) : spec_l1Pack.f k x (n : Int) = some (pk n x) := by
  unfold spec_l1Pack.f
  rw [if_pos (by omega), if_pos (by omega), w64 (by omega) (by omega), Int.toNat_natCast, spec_l1Pack_l0 n k x _ (by simp) (by simp; omega) hk]
  rfl
theorem impl_word_l0 : ∀ (j k : Nat) (x : Int) (s : List Int), j ≤ s.length → s.length ≤ 1000 → j < k → impl_word.l0 k x s ((j : Int) - 1) = some (pkl j x s)
  | 0, k, x, s, _, _, hk => by
    obtain ⟨k, rfl⟩ : ∃ z, k = z + 1 := ⟨k - 1, by omega⟩
    rw [impl_word.l0, if_neg (by omega)]
    rfl
  | j + 1, k, x, s, hj, hs, hk => by
    obtain ⟨k, rfl⟩ : ∃ z, k = z + 1 := ⟨k - 1, by omega⟩
    have e : ((j + 1 : Nat) : Int) - 1 = (j : Int) := by omega
    rw [e, impl_word.l0, if_pos (by omega), if_pos (by omega), if_pos (by omega), w64 (x := (j : Int) - 1) (by omega) (by omega), Int.toNat_natCast, impl_word_l0 j k _ _ (by rw [List.length_set]; omega) (by rw [List.length_set]; omega) (by omega)]
    rfl
theorem impl_word_at (n : Nat) (hn : n ≤ 100) (x : Int) (k : Nat) (hk : n < k) : impl_word.f k x (n : Int) = some (pk n x) := by
  unfold impl_word.f
  rw [if_pos (by omega), if_pos (by omega), w64 (by omega) (by omega), Int.toNat_natCast, impl_word_l0 n k x _ (by simp) (by simp; omega) hk]
  rfl
theorem Concat_l1 (l : List (List Int)) (hl : l.length ≤ 100) (hs : ∀ r ∈ l, r.length ≤ 10000) (m : Nat) : ∀ (k i : Nat) (s : List Int), l.length - i = m → i ≤ l.length → m < k → s.length ≤ 10000 * i → slices_Concat_byte_byte.l1 k s l (l.length : Int) (i : Int) = some (s ++ (l.drop i).flatten) := by
  induction m with
  | zero =>
    intro k i s hm hi hk hb
    obtain ⟨k, rfl⟩ : ∃ z, k = z + 1 := ⟨k - 1, by omega⟩
    obtain rfl : i = l.length := by omega
    rw [slices_Concat_byte_byte.l1, if_neg (by omega), List.drop_length, List.flatten_nil, List.append_nil]
  | succ m ih =>
    intro k i s hm hi hk hb
    obtain ⟨k, rfl⟩ : ∃ z, k = z + 1 := ⟨k - 1, by omega⟩
    have hlt : i < l.length := by omega
    have hy : rd_L3 l (i : Int) = l[i] := by simp only [rd_L3, Int.toNat_natCast, getD_at _ _ _ hlt]
    have hr := hs _ (List.getElem_mem hlt)
    have e2 : ((i + 1 : Nat) : Int) = (i : Int) + 1 := by omega
    rw [slices_Concat_byte_byte.l1, if_pos (by omega), if_pos (by omega), if_pos (by omega), hy, if_pos (by omega), w64 (by omega) (by omega), ← e2, ih k (i + 1) _ (by omega) (by omega) (by omega) (by rw [List.length_append]; omega), drop_cons l i hlt, List.flatten_cons, List.append_assoc]
theorem Concat_l0 (l : List (List Int)) (hl : l.length ≤ 100) (hs : ∀ r ∈ l, r.length ≤ 10000) (m : Nat) : ∀ (k i : Nat) (a : Int), l.length - i = m → i ≤ l.length → m + l.length + 2 < k → 0 ≤ a → a ≤ 10000 * i → slices_Concat_byte_byte.l0 k l a l (l.length : Int) (i : Int) = some l.flatten := by
  induction m with
  | zero =>
    intro k i a hm hi hk h0 hb
    obtain ⟨k, rfl⟩ : ∃ z, k = z + 1 := ⟨k - 1, by omega⟩
    obtain rfl : i = l.length := by omega
    unfold slices_Concat_byte_byte.l0 slices_Grow_byte_byte.f
    rw [if_neg (by omega), if_pos (by rfl), if_pos (by omega), if_pos (by omega), Option.bind_some]
    have e := Concat_l1 l hl hs _ k 0 [] rfl (by omega) (by omega) (by simp)
    rw [show ((0 : Nat) : Int) = 0 from rfl] at e
    rw [e, List.drop_zero, List.nil_append]
  | succ m ih =>
    intro k i a hm hi hk h0 hb
    obtain ⟨k, rfl⟩ : ∃ z, k = z + 1 := ⟨k - 1, by omega⟩
    have hlt : i < l.length := by omega
    have hy : rd_L3 l (i : Int) = l[i] := by simp only [rd_L3, Int.toNat_natCast, getD_at _ _ _ hlt]
    have hr := hs _ (List.getElem_mem hlt)
    have e2 : ((i + 1 : Nat) : Int) = (i : Int) + 1 := by omega
    rw [slices_Concat_byte_byte.l0, if_pos (by omega), if_pos (by omega), if_pos (by omega), hy, w64 (x := a + (l[i].length : Int)) (by omega) (by omega), if_neg (by omega), w64 (by omega) (by omega), ← e2, ih k (i + 1) _ (by omega) (by omega) (by omega) (by omega) (by omega)]
theorem Concat_at (l : List (List Int)) (hl : l.length ≤ 100) (hs : ∀ r ∈ l, r.length ≤ 10000) (k : Nat) (hk : 300 ≤ k) : slices_Concat_byte_byte.f k l = some l.flatten := by
  unfold slices_Concat_byte_byte.f
  have e := Concat_l0 l hl hs _ k 0 0 rfl (by omega) (by omega) (by omega) (by omega)
  exact e
def zcv (a b c d : Int) : Prop := a = 0 ∧ b = 0 ∧ c = 0 ∧ d = 0
instance (a b c d : Int) : Decidable (zcv a b c d) := inferInstanceAs (Decidable (_ ∧ _ ∧ _ ∧ _))
def zkv (p i : Int) (l : List Int) : Prop := p = 0 ∧ i = 0 ∧ l.length = 0
instance (p i : Int) (l : List Int) : Decidable (zkv p i l) := inferInstanceAs (Decidable (_ ∧ _ ∧ _))
theorem zc_bool (a b c d : Int) : (a == 0 && (b == 0 && (c == 0 && (d == 0)))) = decide (zcv a b c d) := by
  rw [Bool.eq_iff_iff, decide_eq_true_eq]
  simp [zcv]
theorem spec_l7Needs_at (a0 a1 a2 a3 a4 a5 a6 a7 a8 : Int) (l : List Int) (n1 n2 n3 n4 : Bool) : spec_l7Needs.f a0 a1 a2 a3 a4 a5 a6 a7 a8 l n1 n2 n3 n4 = some (decide ((n1 = true ∨ a1 = 0) ∧ (n2 = true ∨ a2 = 0) ∧ (n3 = true ∨ zcv a3 a4 a5 a6) ∧ (n4 = true ∨ zkv a7 a8 l))) := by
  have e : (if n4 = true then some true else if a7 = 0 then if a8 = 0 then some ((l.length : Int) == 0) else some false else some false) = some (decide (n4 = true ∨ zkv a7 a8 l)) := by
    cases n4
    · by_cases h7 : a7 = 0
      · by_cases h8 : a8 = 0
        · rw [if_neg (by decide), if_pos h7, if_pos h8, Option.some.injEq, Bool.eq_iff_iff]
          simp [zkv, h7, h8]
        · rw [if_neg (by decide), if_pos h7, if_neg h8]
          simp [zkv, h8]
      · rw [if_neg (by decide), if_neg h7]
        simp [zkv, h7]
    · simp
  unfold spec_l7Needs.f
  simp only [e, zc_bool, decide_eq_true_eq]
  by_cases h3 : zcv a3 a4 a5 a6 <;> cases n1 <;> cases n2 <;> cases n3 <;> by_cases h1 : a1 = 0 <;> by_cases h2 : a2 = 0 <;> simp [h1, h2, h3]
def frm (a0 a1 a2 a3 a4 a5 a6 a7 a8 : Int) (l : List Int) : Prop := ((a0 = 1 ∨ a0 = 3) ∧ zcv a3 a4 a5 a6 ∧ zkv a7 a8 l) ∨ (a0 = 2 ∧ a2 = 0 ∧ zcv a3 a4 a5 a6 ∧ zkv a7 a8 l) ∨ (a0 = 4 ∧ a1 = 0 ∧ a2 = 0 ∧ zkv a7 a8 l) ∨ (a0 = 5 ∧ a1 = 0 ∧ a2 = 0 ∧ zcv a3 a4 a5 a6)
instance (a0 a1 a2 a3 a4 a5 a6 a7 a8 : Int) (l : List Int) : Decidable (frm a0 a1 a2 a3 a4 a5 a6 a7 a8 l) := inferInstanceAs (Decidable (_ ∨ _ ∨ _ ∨ _))
theorem spec_l7Form_at (a0 a1 a2 a3 a4 a5 a6 a7 a8 : Int) (l : List Int) (k : Nat) (hk : 5 ≤ k) : spec_l7Form.f k a0 a1 a2 a3 a4 a5 a6 a7 a8 l = some (decide (frm a0 a1 a2 a3 a4 a5 a6 a7 a8 l)) := by
  obtain ⟨k, rfl⟩ : ∃ z, k = z + 1 := ⟨k - 1, by omega⟩
  unfold spec_l7Form.f
  simp only [spec_l7Form.j0, spec_l7Needs_at, Option.bind_some]
  by_cases h1 : a0 = 1
  · subst h1
    simp [frm]
  · rw [if_neg h1]
    by_cases h3 : a0 = 3
    · subst h3
      simp [frm]
    · by_cases h2 : a0 = 2
      · subst h2
        simp [frm]
      · by_cases h4 : a0 = 4
        · subst h4
          simp [frm]
        · by_cases h5 : a0 = 5
          · subst h5
            simp [frm]
          · simp [frm, h1, h2, h3, h4, h5]
def mfv (a0 a1 a2 a3 a4 a5 a6 a7 a8 : Int) (l : List Int) : Int := if frm a0 a1 a2 a3 a4 a5 a6 a7 a8 l then (if a0 = 4 then cfv a3 a4 a5 a6 else if a0 = 5 then (if (1 ≤ a7 ∧ a7 ≤ 3) ∧ 1 ≤ a8 ∧ a8 ≤ 255 then (if (l.length : Int) = (if a7 = 1 then 16 else 0) then 0 else 2) else 3) else if (0 ≤ a1 ∧ a1 ≤ 1000000) ∧ 0 ≤ a2 ∧ a2 ≤ 3 then 0 else 3) else 1
theorem spec_MessageFault_at (a0 a1 a2 a3 a4 a5 a6 a7 a8 : Int) (l : List Int) (k : Nat) (hk : 10 ≤ k) : spec_MessageFault.f k a0 a1 a2 a3 a4 a5 a6 a7 a8 l = some (mfv a0 a1 a2 a3 a4 a5 a6 a7 a8 l) := by
  obtain ⟨k, rfl⟩ : ∃ z, k = z + 1 := ⟨k - 1, by omega⟩
  unfold spec_MessageFault.f mfv
  rw [spec_l7Form_at _ _ _ _ _ _ _ _ _ _ _ (by omega)]
  simp only [Option.bind_some, spec_ClaimFault_at, spec_in_at, spec_MessageFault.j0, decide_eq_true_eq]
  by_cases hf : frm a0 a1 a2 a3 a4 a5 a6 a7 a8 l
  · rw [if_pos hf, if_pos hf]
    by_cases h4 : a0 = 4
    · rw [if_pos h4, if_pos h4]
    · rw [if_neg h4, if_neg h4]
      by_cases h5 : a0 = 5
      · rw [if_pos h5, if_pos h5]
        by_cases h7 : 1 ≤ a7 ∧ a7 ≤ 3
        · rw [if_pos h7]
          by_cases h8 : 1 ≤ a8 ∧ a8 ≤ 255
          · rw [if_pos (show (1 ≤ a7 ∧ a7 ≤ 3) ∧ 1 ≤ a8 ∧ a8 ≤ 255 from ⟨h7, h8⟩)]
            by_cases e : a7 = 1
            · simp [h8, e]
              split <;> rfl
            · simp [h8, e]
              split <;> rfl
          · rw [if_neg (fun h : (1 ≤ a7 ∧ a7 ≤ 3) ∧ 1 ≤ a8 ∧ a8 ≤ 255 => h8 h.2)]
            simp [h8]
        · rw [if_neg h7, if_neg (fun h : (1 ≤ a7 ∧ a7 ≤ 3) ∧ 1 ≤ a8 ∧ a8 ≤ 255 => h7 h.1)]
          simp
      · rw [if_neg h5, if_neg h5]
        by_cases h6 : 0 ≤ a1 ∧ a1 ≤ 1000000
        · rw [if_pos h6]
          by_cases h7 : 0 ≤ a2 ∧ a2 ≤ 3
          · rw [if_pos h7, if_pos (show (0 ≤ a1 ∧ a1 ≤ 1000000) ∧ 0 ≤ a2 ∧ a2 ≤ 3 from ⟨h6, h7⟩)]
          · rw [if_neg h7, if_neg (fun h : (0 ≤ a1 ∧ a1 ≤ 1000000) ∧ 0 ≤ a2 ∧ a2 ≤ 3 => h7 h.2)]
        · rw [if_neg h6, if_neg (fun h : (0 ≤ a1 ∧ a1 ≤ 1000000) ∧ 0 ≤ a2 ∧ a2 ≤ 3 => h6 h.1)]
  · rw [if_neg hf, if_neg hf]
theorem impl_MF_j2 (b : Bool) (a0 a1 a2 a3 a4 a5 a6 a7 a8 : Int) (l : List Int) (k : Nat) (hk : 10 ≤ k) (hb : b = !decide (frm a0 a1 a2 a3 a4 a5 a6 a7 a8 l)) : impl_MessageFault.j2 k b a0 a1 a2 a3 a4 a5 a6 a7 a8 l = some (mfv a0 a1 a2 a3 a4 a5 a6 a7 a8 l) := by
  obtain ⟨k, rfl⟩ : ∃ z, k = z + 5 := ⟨k - 5, by omega⟩
  subst hb
  unfold mfv
  simp only [impl_MessageFault.j2, impl_MessageFault.j3, impl_MessageFault.j4, impl_MessageFault.j5, impl_isSeq.f, impl_isNode.f, impl_isKeyId.f, impl_in_at, impl_ClaimFault_at, Option.bind_some, decide_eq_true_eq]
  by_cases hf : frm a0 a1 a2 a3 a4 a5 a6 a7 a8 l
  · rw [if_neg (by simp [hf]), if_pos hf]
    by_cases h4 : a0 = 4
    · rw [if_pos h4, if_pos h4]
    · rw [if_neg h4, if_neg h4]
      by_cases h5 : a0 = 5
      · have h1 : a1 = 0 ∧ a2 = 0 := by
          unfold frm at hf
          omega
        rw [if_pos (by omega), if_neg (by simp; omega), if_pos h5, if_pos h5]
        by_cases h7 : 1 ≤ a7 ∧ a7 ≤ 3
        · by_cases h8 : 1 ≤ a8 ∧ a8 ≤ 255
          · by_cases e : a7 = 1
            · simp [h8, e]
              split <;> rfl
            · simp [h7, h8, e]
              split <;> rfl
          · rw [if_neg (fun h : (1 ≤ a7 ∧ a7 ≤ 3) ∧ 1 ≤ a8 ∧ a8 ≤ 255 => h8 h.2)]
            simp [h7, h8]
        · rw [if_neg (fun h : (1 ≤ a7 ∧ a7 ≤ 3) ∧ 1 ≤ a8 ∧ a8 ≤ 255 => h7 h.1)]
          simp [h7]
      · rw [if_neg h5, if_neg h5]
        by_cases h6 : 0 ≤ a1 ∧ a1 ≤ 1000000
        · rw [if_pos h6]
          by_cases h7 : 0 ≤ a2 ∧ a2 ≤ 3
          · rw [if_pos (show (0 ≤ a1 ∧ a1 ≤ 1000000) ∧ 0 ≤ a2 ∧ a2 ≤ 3 from ⟨h6, h7⟩)]
            simp [h7]
          · rw [if_neg (fun h : (0 ≤ a1 ∧ a1 ≤ 1000000) ∧ 0 ≤ a2 ∧ a2 ≤ 3 => h7 h.2)]
            simp [h7]
        · rw [if_neg h6, if_neg (fun h : (0 ≤ a1 ∧ a1 ≤ 1000000) ∧ 0 ≤ a2 ∧ a2 ≤ 3 => h6 h.1)]
          simp
  · rw [if_pos (by simp [hf]), if_neg hf]
theorem zc_not (a b c d : Int) : (!(a == 0) || (!(b == 0) || (!(c == 0) || (!(d == 0))))) = !decide (zcv a b c d) := by
  rw [← zc_bool]
  simp
theorem impl_MF_j1 (a0 a1 a2 a3 a4 a5 a6 a7 a8 : Int) (l : List Int) (b0 b1 b2 b3 b4 b5 b6 b7 b8 : Int) (m : List Int) (k : Nat) (hk : 11 ≤ k) (hf : frm a0 a1 a2 a3 a4 a5 a6 a7 a8 l ↔ b1 = 0 ∧ b2 = 0 ∧ zcv b3 b4 b5 b6 ∧ zkv b7 b8 m) : impl_MessageFault.j1 k a0 a1 a2 a3 a4 a5 a6 a7 a8 l b0 b1 b2 b3 b4 b5 b6 b7 b8 m = some (mfv a0 a1 a2 a3 a4 a5 a6 a7 a8 l) := by
  obtain ⟨k, rfl⟩ : ∃ z, k = z + 1 := ⟨k - 1, by omega⟩
  rw [impl_MessageFault.j1, zc_not]
  by_cases h1 : b1 = 0
  · rw [if_pos h1]
    by_cases h2 : b2 = 0
    · rw [if_pos h2]
      by_cases h3 : zcv b3 b4 b5 b6
      · rw [if_neg (by simp [h3])]
        by_cases h7 : b7 = 0
        · rw [if_pos h7]
          unfold impl_isZeroKey.f
          by_cases h8 : b8 = 0
          · rw [if_pos h8, Option.bind_some]
            refine impl_MF_j2 _ _ _ _ _ _ _ _ _ _ _ _ (by omega) ?_
            rw [Bool.not_eq_eq_eq_not, Bool.not_not, Bool.eq_iff_iff, decide_eq_true_eq, hf]
            simp [h1, h2, h3, zkv, h7, h8]
          · rw [if_neg h8, Option.bind_some]
            refine impl_MF_j2 _ _ _ _ _ _ _ _ _ _ _ _ (by omega) ?_
            simp [hf, zkv, h8]
        · rw [if_neg h7]
          refine impl_MF_j2 _ _ _ _ _ _ _ _ _ _ _ _ (by omega) ?_
          simp [hf, zkv, h7]
      · rw [if_pos (by simp [h3])]
        refine impl_MF_j2 _ _ _ _ _ _ _ _ _ _ _ _ (by omega) ?_
        simp [hf, h3]
    · rw [if_neg h2]
      refine impl_MF_j2 _ _ _ _ _ _ _ _ _ _ _ _ (by omega) ?_
      simp [hf, h2]
  · rw [if_neg h1]
    refine impl_MF_j2 _ _ _ _ _ _ _ _ _ _ _ _ (by omega) ?_
    simp [hf, h1]
theorem impl_MessageFault_at (a0 a1 a2 a3 a4 a5 a6 a7 a8 : Int) (l : List Int) (k : Nat) (hk : 20 ≤ k) : impl_MessageFault.f k a0 a1 a2 a3 a4 a5 a6 a7 a8 l = some (mfv a0 a1 a2 a3 a4 a5 a6 a7 a8 l) := by
  obtain ⟨k, rfl⟩ : ∃ z, k = z + 1 := ⟨k - 1, by omega⟩
  unfold impl_MessageFault.f
  simp only [impl_MessageFault.j0]
  by_cases h1 : a0 = 1
  · subst h1
    rw [if_pos rfl, if_pos (show ((1 : Int) == 1) = true from rfl)]
    exact impl_MF_j1 _ _ _ _ _ _ _ _ _ _ _ _ _ _ _ _ _ _ _ _ _ (by omega) (by simp [frm])
  · rw [if_neg h1]
    by_cases h3 : a0 = 3
    · subst h3
      rw [if_pos (show ((3 : Int) == 3) = true from rfl)]
      exact impl_MF_j1 _ _ _ _ _ _ _ _ _ _ _ _ _ _ _ _ _ _ _ _ _ (by omega) (by simp [frm])
    · rw [if_neg (by simpa using h3)]
      by_cases h2 : a0 = 2
      · subst h2
        rw [if_pos rfl]
        exact impl_MF_j1 _ _ _ _ _ _ _ _ _ _ _ _ _ _ _ _ _ _ _ _ _ (by omega) (by simp [frm])
      · rw [if_neg h2]
        by_cases h4 : a0 = 4
        · subst h4
          rw [if_pos rfl]
          exact impl_MF_j1 _ _ _ _ _ _ _ _ _ _ _ _ _ _ _ _ _ _ _ _ _ (by omega) (by simp [frm, zcv])
        · rw [if_neg h4]
          by_cases h5 : a0 = 5
          · subst h5
            rw [if_pos rfl]
            exact impl_MF_j1 _ _ _ _ _ _ _ _ _ _ _ _ _ _ _ _ _ _ _ _ _ (by omega) (by simp [frm, zkv])
          · rw [if_neg h5]
            unfold mfv
            rw [if_neg (by simp [frm, h1, h2, h3, h4, h5])]
theorem szMessage_at (a0 a1 a2 a3 a4 a5 a6 a7 a8 : Int) (l : List Int) (a : Int) (h0 : 0 ≤ a) (h1 : a ≤ 1048576) (hl : l.length ≤ maxLen) : laws_szMessage.f a0 a1 a2 a3 a4 a5 a6 a7 a8 l a = some (if a < l.length then -1 else a - l.length) := by
  unfold laws_szMessage.f laws_szKey.f
  rw [szByteS_at l a h0 h1 hl]
  simp only [Option.bind_some]
  by_cases h : a < l.length
  · simp [h]
  · rw [if_neg h, if_neg (by omega)]
    simp only [Option.bind_some]
    rw [if_neg (by omega)]
theorem toMessage_at (a0 a1 a2 a3 a4 a5 a6 a7 a8 : Int) (l : List Int) (hl : l.length ≤ 1000000000) (k : Nat) (hk : l.length < k) : laws_toMessage.f k a0 a1 a2 a3 a4 a5 a6 a7 a8 l = some (a0, a1, a2, a3, a4, a5, a6, a7, a8, l) := by
  unfold laws_toMessage.f laws_toKey.f laws_toClaim.f
  rw [toByteS_at l hl k hk]
  rfl
theorem eqMessage_self (a0 a1 a2 a3 a4 a5 a6 a7 a8 : Int) (l : List Int) (hl : l.length ≤ 1000000000) (k : Nat) (hk : l.length < k) : laws_eqMessage.f k a0 a1 a2 a3 a4 a5 a6 a7 a8 l a0 a1 a2 a3 a4 a5 a6 a7 a8 l = some true := by
  unfold laws_eqMessage.f laws_eqKey.f laws_eqClaim.f
  rw [eqByteS_self l hl k hk]
  simp
def emv (a0 a1 a2 a3 a4 a5 a6 a7 a8 : Int) (l : List Int) : List Int := if a0 = 1 ∨ a0 = 3 then [a0 % 256] ++ (pk 4 a1 ++ [a2 % 256]) else if a0 = 2 then [a0 % 256] ++ pk 4 a1 else if a0 = 4 then [a0 % 256] ++ ([a3 % 256] ++ (pk 4 a4 ++ ([a5 % 256] ++ pk 4 a6))) else [a0 % 256] ++ ([a7 % 256] ++ ([a8 % 256] ++ l))
theorem emv_len (a0 a1 a2 a3 a4 a5 a6 a7 a8 : Int) (l : List Int) (h : l.length ≤ 16) : (emv a0 a1 a2 a3 a4 a5 a6 a7 a8 l).length ≤ 100 := by
  unfold emv
  repeat' split
  all_goals simp only [List.length_append, List.length_singleton, pk_len]
  all_goals omega
theorem mfv_ok {a0 a1 a2 a3 a4 a5 a6 a7 a8 : Int} {l : List Int} (h : mfv a0 a1 a2 a3 a4 a5 a6 a7 a8 l = 0) : l.length ≤ 16 ∧ ((a0 = 1 ∨ a0 = 3) ∧ 0 ≤ a1 ∧ 0 ≤ a2 ∨ a0 = 2 ∧ 0 ≤ a1 ∨ a0 = 4 ∧ 0 ≤ a3 ∧ 0 ≤ a4 ∧ 0 ≤ a5 ∧ 0 ≤ a6 ∨ a0 = 5 ∧ 0 ≤ a7 ∧ 0 ≤ a8) := by
  unfold mfv at h
  split at h
  · rename_i hf
    unfold frm zkv at hf
    split at h
    · have := cfv_ok h
      omega
    · split at h
      · split at h
        · split at h
          · rename_i h4 h5 h6
            split at h <;> omega
          · omega
        · omega
      · split at h
        · omega
        · omega
  · omega
theorem spec_l7Encode_at (a0 a1 a2 a3 a4 a5 a6 a7 a8 : Int) (l : List Int) (hl : l.length ≤ 16) (hz : a0 = 1 ∨ a0 = 3 ∨ a0 = 2 ∨ a0 = 4 ∨ a0 = 5) (k : Nat) (hk : 300 ≤ k) : spec_l7Encode.f k a0 a1 a2 a3 a4 a5 a6 a7 a8 l = some (emv a0 a1 a2 a3 a4 a5 a6 a7 a8 l) := by
  obtain ⟨k, rfl⟩ : ∃ z, k = z + 1 := ⟨k - 1, by omega⟩
  have e4 : ∀ x, spec_l1Pack.f k x 4 = some (pk 4 x) := fun x => spec_l1Pack_at 4 (by omega) x k (by omega)
  have p4 : ∀ x, (pk 4 x).length = 4 := pk_len 4
  unfold spec_l7Encode.f emv
  simp only [spec_l7Encode.j0, e4, Option.bind_some, List.length_append, List.length_cons, List.length_nil, p4]
  rcases hz with rfl | rfl | rfl | rfl | rfl
  all_goals simp
  omega
theorem impl_Message_encoded_at (a0 a1 a2 a3 a4 a5 a6 a7 a8 : Int) (l : List Int) (hl : l.length ≤ 16) (hk : (a0 = 1 ∨ a0 = 3) ∧ 0 ≤ a1 ∧ 0 ≤ a2 ∨ a0 = 2 ∧ 0 ≤ a1 ∨ a0 = 4 ∧ 0 ≤ a3 ∧ 0 ≤ a4 ∧ 0 ≤ a5 ∧ 0 ≤ a6 ∨ a0 = 5 ∧ 0 ≤ a7 ∧ 0 ≤ a8) (k : Nat) (hk2 : 400 ≤ k) : impl_Message_encoded.f k a0 a1 a2 a3 a4 a5 a6 a7 a8 l = some (emv a0 a1 a2 a3 a4 a5 a6 a7 a8 l) := by
  obtain ⟨k, rfl⟩ : ∃ z, k = z + 1 := ⟨k - 1, by omega⟩
  have e4 : ∀ x, impl_word.f k x 4 = some (pk 4 x) := fun x => impl_word_at 4 (by omega) x k (by omega)
  have e1 : ∀ x, impl_word.f k x 1 = some (pk 1 x) := fun x => impl_word_at 1 (by omega) x k (by omega)
  unfold impl_Message_encoded.f emv
  simp only [impl_Message_encoded.j0, e4, e1, Option.bind_some]
  rcases hk with ⟨h | h, h1, h2⟩ | ⟨h, h1⟩ | ⟨h, h1, h2, h3, h4⟩ | ⟨h, h1, h2⟩
  · subst h
    rw [if_pos rfl, if_pos (show ((1 : Int) == 1) = true from rfl), Concat_at _ (by simp) (by simp [pk_len]) k (by omega), pk_one _ h2]
    simp
  · subst h
    rw [if_neg (by omega), if_pos (show ((3 : Int) == 3) = true from rfl), Concat_at _ (by simp) (by simp [pk_len]) k (by omega), pk_one _ h2]
    simp
  · subst h
    rw [if_neg (by omega), if_neg (by decide), if_pos rfl, Concat_at _ (by simp) (by simp [pk_len]) k (by omega)]
    simp
  · subst h
    rw [if_neg (by omega), if_neg (by decide), if_neg (by omega), if_pos rfl, Concat_at _ (by simp) (by simp [pk_len]) k (by omega), pk_one _ h1, pk_one _ h3]
    simp
  · subst h
    rw [if_neg (by omega), if_neg (by decide), if_neg (by omega), if_neg (by omega), Concat_at _ (by simp) (by simp [pk_len]; omega) k (by omega), pk_one _ h1, pk_one _ h2]
    simp
def emr (a0 a1 a2 a3 a4 a5 a6 a7 a8 : Int) (l : List Int) : Int × List Int := if mfv a0 a1 a2 a3 a4 a5 a6 a7 a8 l = 0 then (0, emv a0 a1 a2 a3 a4 a5 a6 a7 a8 l) else (mfv a0 a1 a2 a3 a4 a5 a6 a7 a8 l, [])
theorem emr_len (a0 a1 a2 a3 a4 a5 a6 a7 a8 : Int) (l : List Int) : (emr a0 a1 a2 a3 a4 a5 a6 a7 a8 l).2.length ≤ 100 := by
  unfold emr
  split
  · rename_i h
    exact emv_len _ _ _ _ _ _ _ _ _ _ (mfv_ok h).1
  · simp
theorem impl_EncodeMessage_at (a0 a1 a2 a3 a4 a5 a6 a7 a8 : Int) (l : List Int) (k : Nat) (hk : 500 ≤ k) : impl_EncodeMessage.f k a0 a1 a2 a3 a4 a5 a6 a7 a8 l = some (emr a0 a1 a2 a3 a4 a5 a6 a7 a8 l) := by
  unfold impl_EncodeMessage.f emr
  rw [impl_MessageFault_at _ _ _ _ _ _ _ _ _ _ _ (by omega)]
  simp only [Option.bind_some]
  by_cases h : mfv a0 a1 a2 a3 a4 a5 a6 a7 a8 l = 0
  · obtain ⟨h1, h2⟩ := mfv_ok h
    rw [if_pos h, if_pos h, impl_Message_encoded_at _ _ _ _ _ _ _ _ _ _ h1 h2 _ (by omega)]
    rfl
  · rw [if_neg h, if_neg h]
    rfl
theorem szMessageS_l0 (l : List S34) (hs : ∀ m ∈ l, m.f5.f1.length ≤ maxLen) (hl : l.length ≤ 1048576) (d : Nat) : ∀ (k : Nat) (a : Int) (i : Nat), l.length - i = d → i ≤ l.length → d < k → 0 ≤ a → a ≤ 1048576 → ∃ z, laws_szMessageS.l0 k l a (i : Int) = some z ∧ (z < 0 ∨ (0 ≤ z ∧ z ≤ a ∧ ∀ m ∈ l.drop i, m.f5.f1.length ≤ 1048576)) := by
  induction d with
  | zero =>
    intro k a i hd hi hk h0 h1
    obtain ⟨k, rfl⟩ : ∃ z, k = z + 1 := ⟨k - 1, by omega⟩
    obtain rfl : i = l.length := by omega
    refine ⟨a, by rw [laws_szMessageS.l0, if_neg (by omega)], .inr ⟨h0, by omega, ?_⟩⟩
    rw [List.drop_length]
    simp
  | succ d ih =>
    intro k a i hd hi hk h0 h1
    obtain ⟨k, rfl⟩ : ∃ z, k = z + 1 := ⟨k - 1, by omega⟩
    have hlt : i < l.length := by omega
    have hy : rd_T34 l (i : Int) = l[i] := by simp only [rd_T34, Int.toNat_natCast, getD_at _ _ _ hlt]
    have e2 : ((i + 1 : Nat) : Int) = (i : Int) + 1 := by omega
    have hm := hs _ (List.getElem_mem hlt)
    rw [laws_szMessageS.l0, if_pos (by omega), if_pos (by omega), hy, szMessage_at _ _ _ _ _ _ _ _ _ _ a h0 h1 hm]
    simp only [Option.bind_some]
    by_cases hb : a < l[i].f5.f1.length
    · rw [if_pos hb, if_pos (by omega)]
      exact ⟨-1, rfl, .inl (by omega)⟩
    · rw [if_neg hb, if_neg (by omega), w64 (by omega) (by omega), ← e2]
      obtain ⟨z, e, hz⟩ := ih k (a - l[i].f5.f1.length) (i + 1) (by omega) (by omega) (by omega) (by omega) (by omega)
      refine ⟨z, e, ?_⟩
      rcases hz with hz | ⟨z0, z1, z2⟩
      · exact .inl hz
      · refine .inr ⟨z0, by omega, ?_⟩
        rw [drop_cons l i hlt]
        intro m hm2
        rcases List.mem_cons.1 hm2 with rfl | hm2
        · omega
        · exact z2 m hm2
theorem szMessageS_at (l : List S34) (hs : ∀ m ∈ l, m.f5.f1.length ≤ maxLen) (hl : l.length ≤ maxLen) (a : Int) (h0 : 0 ≤ a) (h1 : a ≤ 1048576) (k : Nat) (hk : 1048600 ≤ k) : ∃ z, laws_szMessageS.f k l a = some z ∧ (z < 0 ∨ (0 ≤ z ∧ z ≤ a ∧ l.length ≤ 1048576 ∧ ∀ m ∈ l, m.f5.f1.length ≤ 1048576)) := by
  unfold maxLen at hl
  unfold laws_szMessageS.f
  rw [w64 (by omega) (by omega)]
  by_cases h : a - (l.length : Int) < 0
  · rw [if_pos h]
    exact ⟨-1, rfl, .inl (by omega)⟩
  · rw [if_neg h]
    obtain ⟨z, e, hz⟩ := szMessageS_l0 l hs (by omega) _ k (a - l.length) 0 rfl (by omega) (by omega) (by omega) (by omega)
    rw [show ((0 : Nat) : Int) = 0 from rfl] at e
    refine ⟨z, e, ?_⟩
    rcases hz with hz | ⟨z0, z1, z2⟩
    · exact .inl hz
    · exact .inr ⟨z0, by omega, by omega, by simpa using z2⟩
def cvM (m : S34) : S40 := ⟨m.f0, m.f1, m.f2, ⟨m.f3.f0, m.f3.f1, m.f3.f2, m.f3.f3⟩, m.f4, ⟨m.f5.f0, m.f5.f1⟩⟩
theorem toMessageS_at (l : List S34) (hl : l.length ≤ 1048576) (hs : ∀ m ∈ l, m.f5.f1.length ≤ 1048576) (k : Nat) (hk : 3000000 ≤ k) : laws_toMessageS.f k l = some (l.map cvM) := by
  unfold laws_toMessageS.f
  rw [if_pos (by omega), if_pos (by omega)]
  refine loop_up (fun k s i => laws_toMessageS.l0 k l s i) l.length 1500000 (fun _ _ => l.map cvM) (fun s i => s.length = l.length ∧ s.take i = (l.take i).map cvM) ?_ ?_ k _ 0 0 rfl (by omega) ⟨by simp, rfl⟩ (by omega)
  · intro k s ⟨h1, h2⟩ _
    rw [laws_toMessageS.l0, if_neg (by omega)]
    rw [List.take_of_length_le (by omega), List.take_of_length_le (by omega)] at h2
    rw [h2]
  · intro k s i hi ⟨h1, h2⟩ hm ih
    have hy : rd_T34 l (i : Int) = l[i] := by simp only [rd_T34, Int.toNat_natCast, getD_at _ _ _ hi]
    have hb := hs _ (List.getElem_mem hi)
    rw [laws_toMessageS.l0, if_pos (by omega), if_pos (by omega), hy, toMessage_at _ _ _ _ _ _ _ _ _ _ (by omega) _ (by omega)]
    simp only [Option.bind_some]
    rw [if_pos (by omega), w64 (by omega) (by omega)]
    refine ih _ ⟨by rw [List.length_set]; exact h1, ?_⟩
    rw [Int.toNat_natCast, set_take _ _ _ (by omega), h2, take_succ _ _ hi, List.map_append]
    rfl
theorem eqMessageS_self (l : List S40) (hl : l.length ≤ 1048576) (hs : ∀ m ∈ l, m.f5.f1.length ≤ 1048576) (k : Nat) (hk : 3000000 ≤ k) : laws_eqMessageS.f k l l = some true := by
  unfold laws_eqMessageS.f
  rw [if_pos rfl]
  refine loop_up (fun k (_ : Unit) i => laws_eqMessageS.l0 k l l i) l.length 1500000 (fun _ _ => true) (fun _ _ => True) ?_ ?_ k () 0 0 rfl (by omega) trivial (by omega)
  · intro k _ _ _
    rw [laws_eqMessageS.l0, if_neg (by omega)]
  · intro k _ i hi _ hm ih
    have hy : rd_T40 l (i : Int) = l[i] := by simp only [rd_T40, Int.toNat_natCast, getD_at _ _ _ hi]
    have hb := hs _ (List.getElem_mem hi)
    rw [laws_eqMessageS.l0, if_pos (by omega), if_pos (by omega), if_pos (by omega), hy, eqMessage_self _ _ _ _ _ _ _ _ _ _ (by omega) _ (by omega), w64 (by omega) (by omega)]
    exact ih () trivial
def mfm (m : S40) : Int := mfv m.f0 m.f1 m.f2 m.f3.f0 m.f3.f1 m.f3.f2 m.f3.f3 m.f4 m.f5.f0 m.f5.f1
def emm (m : S40) : List Int := emv m.f0 m.f1 m.f2 m.f3.f0 m.f3.f1 m.f3.f2 m.f3.f3 m.f4 m.f5.f0 m.f5.f1
def allv (o : List Int) : List S40 → List Int
  | [] => o
  | m :: t => allv (o ++ [((emm m).length : Int) % 256] ++ emm m) t
def encs (o : List Int) : List S40 → Int × List Int
  | [] => if (o.length : Int) > 300 then (2, []) else (0, o)
  | m :: t => if mfm m = 0 then encs (o ++ [((emm m).length : Int) % 256] ++ emm m) t else (mfm m, [])
def flt : List S40 → Int
  | [] => 0
  | m :: t => if mfm m = 0 then flt t else mfm m
def encr (l : List S40) : Int × List Int := if (l.length : Int) > 12 then (2, []) else encs [(l.length : Int) % 256] l
theorem emm_len (m : S40) (h : mfm m = 0) : (emm m).length ≤ 100 := emv_len _ _ _ _ _ _ _ _ _ _ (mfv_ok h).1
theorem encs_flt (l : List S40) : ∀ o, encs o l = if flt l = 0 then (if ((allv o l).length : Int) > 300 then (2, []) else (0, allv o l)) else (flt l, []) := by
  induction l with
  | nil => intro o; rfl
  | cons m t ih =>
    intro o
    by_cases h : mfm m = 0
    · simp only [encs, flt, allv, h, ↓reduceIte]
      exact ih _
    · simp only [encs, flt, h, ↓reduceIte]
theorem encs_len (l : List S40) (o : List Int) : (encs o l).2.length ≤ 300 := by
  rw [encs_flt]
  split
  · split
    · simp
    · simp only
      omega
  · simp
theorem encr_len (l : List S40) : (encr l).2.length ≤ 300 := by
  unfold encr
  split
  · simp
  · exact encs_len _ _
theorem flt_drop (l : List S40) (i : Nat) (hi : i < l.length) (h : flt (l.drop i) = 0) : mfm l[i] = 0 ∧ flt (l.drop (i + 1)) = 0 := by
  rw [drop_cons l i hi] at h
  simp only [flt] at h
  split at h
  · exact ⟨by assumption, h⟩
  · contradiction
theorem spec_l7All_at (l : List S40) (hl : l.length ≤ 12) (hf : flt l = 0) (k : Nat) (hk : 1000 ≤ k) : spec_l7All.f k l = some (allv [(l.length : Int) % 256] l) := by
  unfold spec_l7All.f
  refine loop_up (fun k s i => spec_l7All.l0 k l s i) l.length 500 (fun s i => allv s (l.drop i)) (fun s i => s.length ≤ 1 + 101 * i ∧ flt (l.drop i) = 0) ?_ ?_ k _ 0 0 rfl (by omega) ⟨by simp, hf⟩ (by omega)
  · intro k s _ _
    rw [spec_l7All.l0, if_neg (by omega), List.drop_length]
    rfl
  · intro k s i hi ⟨hs, hd⟩ hm ih
    obtain ⟨h1, h2⟩ := flt_drop l i hi hd
    have hy : rd_T40 l (i : Int) = l[i] := by simp only [rd_T40, Int.toNat_natCast, getD_at _ _ _ hi]
    obtain ⟨o1, o2⟩ := mfv_ok h1
    have hle := emm_len _ h1
    rw [spec_l7All.l0, if_pos (by omega), if_pos (by omega), hy, spec_l7Encode_at _ _ _ _ _ _ _ _ _ _ o1 (by omega) _ (by omega)]
    simp only [Option.bind_some]
    rw [show emv l[i].f0 l[i].f1 l[i].f2 l[i].f3.f0 l[i].f3.f1 l[i].f3.f2 l[i].f3.f3 l[i].f4 l[i].f5.f0 l[i].f5.f1 = emm l[i] from rfl]
    rw [if_pos (by omega), if_pos (by simp only [List.length_append, List.length_singleton]; omega), w64 (by omega) (by omega), drop_cons l i hi]
    exact ih _ ⟨by simp only [List.length_append, List.length_singleton]; omega, h2⟩
theorem spec_EncodeMessages_at (l : List S40) (k : Nat) (hk : 2000 ≤ k) : spec_EncodeMessages.f k l = some (encr l) := by
  unfold spec_EncodeMessages.f encr
  by_cases h : (l.length : Int) > 12
  · rw [if_pos h, if_pos h]
  rw [if_neg h, if_neg h]
  refine loop_up (fun k (_ : Unit) i => spec_EncodeMessages.l0 k l i) l.length 1500 (fun _ i => if flt (l.drop i) = 0 then encs [(l.length : Int) % 256] l else (flt (l.drop i), [])) (fun _ i => flt l = flt (l.drop i)) ?_ ?_ k () 0 0 rfl (by omega) rfl (by omega) |>.trans ?_
  · intro k _ hd hm
    rw [List.drop_length] at hd ⊢
    have h0 : flt l = 0 := hd
    rw [spec_EncodeMessages.l0, if_neg (by omega), spec_l7All_at l (by omega) h0 k (by omega), encs_flt, if_pos h0]
    simp only [Option.bind_some, flt, ↓reduceIte]
    split <;> rfl
  · intro k _ i hi hd hm ih
    have hy : rd_T40 l (i : Int) = l[i] := by simp only [rd_T40, Int.toNat_natCast, getD_at _ _ _ hi]
    rw [spec_EncodeMessages.l0, if_pos (by omega), if_pos (by omega), hy, spec_MessageFault_at _ _ _ _ _ _ _ _ _ _ _ (by omega)]
    simp only [Option.bind_some]
    rw [show mfv l[i].f0 l[i].f1 l[i].f2 l[i].f3.f0 l[i].f3.f1 l[i].f3.f2 l[i].f3.f3 l[i].f4 l[i].f5.f0 l[i].f5.f1 = mfm l[i] from rfl, drop_cons l i hi]
    by_cases h0 : mfm l[i] = 0
    · rw [if_pos h0, w64 (by omega) (by omega), ih () (by rw [hd, drop_cons l i hi]; simp only [flt, h0, ↓reduceIte])]
      simp only [flt, h0, ↓reduceIte]
    · rw [if_neg h0]
      simp only [flt, h0, ↓reduceIte]
  · rw [List.drop_zero, encs_flt]
    split
    · rename_i h0
      rfl
    · rfl
theorem impl_EncodeMessages_at (l : List S40) (k : Nat) (hk : 2000 ≤ k) : impl_EncodeMessages.f k l = some (encr l) := by
  unfold impl_EncodeMessages.f encr
  by_cases h : (l.length : Int) > 12
  · rw [if_pos h, if_pos h]
    rfl
  rw [if_neg h, if_neg h]
  refine loop_up (fun k s i => impl_EncodeMessages.l0 k s l (l.length : Int) i) l.length 1500 (fun s i => encs s (l.drop i)) (fun s i => s.length ≤ 1 + 101 * i) ?_ ?_ k _ 0 0 rfl (by omega) (by simp) (by omega)
  · intro k s _ _
    rw [impl_EncodeMessages.l0, if_neg (by omega), List.drop_length]
    simp only [encs]
    by_cases h3 : (s.length : Int) > 300
    · rw [if_pos h3, if_pos h3]
      rfl
    · rw [if_neg h3, if_neg h3]
  · intro k s i hi hs hm ih
    have hy : rd_T40 l (i : Int) = l[i] := by simp only [rd_T40, Int.toNat_natCast, getD_at _ _ _ hi]
    rw [impl_EncodeMessages.l0, if_pos (by omega), if_pos (by omega), if_pos (by omega), hy, impl_EncodeMessage_at _ _ _ _ _ _ _ _ _ _ _ (by omega), drop_cons l i hi]
    simp only [Option.bind_some, emr]
    rw [show mfv l[i].f0 l[i].f1 l[i].f2 l[i].f3.f0 l[i].f3.f1 l[i].f3.f2 l[i].f3.f3 l[i].f4 l[i].f5.f0 l[i].f5.f1 = mfm l[i] from rfl, show emv l[i].f0 l[i].f1 l[i].f2 l[i].f3.f0 l[i].f3.f1 l[i].f3.f2 l[i].f3.f3 l[i].f4 l[i].f5.f0 l[i].f5.f1 = emm l[i] from rfl]
    by_cases h0 : mfm l[i] = 0
    · have hle := emm_len _ h0
      simp only [h0, ↓reduceIte, encs]
      rw [if_pos (by omega), if_pos (by simp only [List.length_append, List.length_singleton]; omega), w64 (by omega) (by omega)]
      exact ih _ (by simp only [List.length_append, List.length_singleton]; omega)
    · simp only [h0, ↓reduceIte, encs]
theorem markMessageS_at (l : List S40) (hl : l.length ≤ 1048576) (hs : ∀ m ∈ l, m.f5.f1.length ≤ 1048576) (k : Nat) (hk : 3000000 ≤ k) : ∃ r v, laws_markMessageS.f k l 1 = some (r, v) ∧ 0 ≤ r := by
  unfold laws_markMessageS.f
  obtain ⟨k, rfl⟩ : ∃ z, k = z := ⟨_, rfl⟩
  suffices H : ∀ (d : Nat) (k : Nat) (s : List S40) (a : Int) (i : Nat), s.length - i = d → i ≤ s.length → s.length ≤ 1048576 → (∀ m ∈ s.drop i, m.f5.f1.length ≤ 1048576) → 1500000 + d ≤ k → 0 ≤ a → a ≤ 1 + 2000000 * (i : Int) → ∃ r v, laws_markMessageS.l0 k s a (i : Int) = some (r, v) ∧ 0 ≤ r from
    H _ k l 1 0 rfl (by omega) hl (by simpa using hs) (by omega) (by omega) (by omega)
  intro d
  induction d with
  | zero =>
    intro k s a i hd hi hn hs hk h0 h1
    obtain ⟨k, rfl⟩ : ∃ z, k = z + 1 := ⟨k - 1, by omega⟩
    exact ⟨a, s, by rw [laws_markMessageS.l0, if_neg (by omega)], h0⟩
  | succ d ih =>
    intro k s a i hd hi hn hs hk h0 h1
    obtain ⟨k, rfl⟩ : ∃ z, k = z + 1 := ⟨k - 1, by omega⟩
    have hlt : i < s.length := by omega
    have hy : rd_T40 s (i : Int) = s[i] := by simp only [rd_T40, Int.toNat_natCast, getD_at _ _ _ hlt]
    have e2 : ((i + 1 : Nat) : Int) = (i : Int) + 1 := by omega
    rw [drop_cons s i hlt] at hs
    have hb := hs _ List.mem_cons_self
    have g1 : (i : Int) < (s.length : Int) := by omega
    have g2 : (0 : Int) ≤ (i : Int) := by omega
    have g3 : 0 ≤ a + 9 := by omega
    have g4 : a + 9 ≤ 4000000000000000 := by omega
    have g5 : s[i].f5.f1.length ≤ 1000000000 := by omega
    have g6 : s[i].f5.f1.length < k := by omega
    have g7 : 1500000 + d ≤ k := by omega
    have g8 : 0 ≤ a + 9 + 1 * (s[i].f5.f1.length : Int) := by omega
    have g9 : a + 9 + 1 * (s[i].f5.f1.length : Int) ≤ 1 + 2000000 * ((i + 1 : Nat) : Int) := by omega
    have g10 : s.length - (i + 1) = d := by omega
    have g11 : i < i + 1 := by omega
    have q : ∀ x : Int, 0 ≤ x → x ≤ 4000000000000 → wrap64 (x + 1) = x + 1 := fun x _ _ => w64 (by omega) (by omega)
    have e9 : wrap64 (wrap64 (wrap64 (wrap64 (wrap64 (wrap64 (wrap64 (wrap64 (wrap64 (a + 1) + 1) + 1) + 1) + 1) + 1) + 1) + 1) + 1) = a + 9 := by
      rw [q a (by omega) (by omega), q (a + 1) (by omega) (by omega), q (a + 1 + 1) (by omega) (by omega), q (a + 1 + 1 + 1) (by omega) (by omega), q (a + 1 + 1 + 1 + 1) (by omega) (by omega), q (a + 1 + 1 + 1 + 1 + 1) (by omega) (by omega), q (a + 1 + 1 + 1 + 1 + 1 + 1) (by omega) (by omega), q (a + 1 + 1 + 1 + 1 + 1 + 1 + 1) (by omega) (by omega), q (a + 1 + 1 + 1 + 1 + 1 + 1 + 1 + 1) (by omega) (by omega)]
      omega
    have ei : wrap64 ((i : Int) + 1) = ((i + 1 : Nat) : Int) := by rw [w64 (by omega) (by omega)]; omega
    rw [laws_markMessageS.l0, if_pos g1, if_pos g2, hy, e9, markByteS_at _ _ g3 g4 g5 _ g6]
    simp only [Option.bind_some]
    rw [ei]
    refine ih _ _ _ (i + 1) (by rw [List.length_set]; exact g10) (by rw [List.length_set]; exact hlt) (by rw [List.length_set]; exact hn) (fun m hm => hs m ?_) g7 g8 g9
    rw [Int.toNat_natCast, List.drop_set_of_lt g11] at hm
    exact List.mem_cons_of_mem _ hm
end Go.Proofs.Ytpjelfgeohklkaa.Pure
