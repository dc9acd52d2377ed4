/- What the printed functions of the law FnExactPackQuery answer, as plain Lean. -/
import Derived.Test.YtllkeaghjacalaaStFnExactPackQuery
import Derived.Test.YtllkeaghjacalaaBaFnExactPackQuery
namespace Go.Proofs.Ytllkeaghjacalaa.Pure
open Go.RowKit Go.Proofs.Ytllkeaghjacalaa.Open Go.Proofs.Ytllkeaghjacalaa.Base Go.Proofs.Ytllkeaghjacalaa.MFnExactPackQuery Go.Proofs.YtllkeaghjacalaaW.PrintWords Go.Proofs.YtllkeaghjacalaaW.PrintLast
set_option linter.unusedVariables false
set_option linter.unusedSimpArgs false
theorem impl_in_at (a b c : Int) : impl_in.f a b c = some (decide (b ≤ a ∧ a ≤ c)) := by
  unfold impl_in.f
  by_cases h : a ≥ b
  · rw [if_pos h]
    have h' : b ≤ a := h
    simp [h']
  · rw [if_neg h]
    have h' : ¬ b ≤ a := h
    simp [h']
theorem spec_in_at (a b c : Int) : spec_l1In.f a b c = some (decide (b ≤ a ∧ a ≤ c)) := by
  unfold spec_l1In.f
  by_cases h : a ≥ b
  · rw [if_pos h]
    have h' : b ≤ a := h
    simp [h']
  · rw [if_neg h]
    have h' : ¬ b ≤ a := h
    simp [h']
theorem eqByteS_self (l : List Int) (hl : l.length ≤ 1000000000) (k : Nat) (hk : l.length < k) : laws_eqByteS.f k l l = some true := by
  unfold laws_eqByteS.f
  rw [if_pos rfl]
  refine loop_up (fun k (_ : Unit) i => laws_eqByteS.l0 k l l i) l.length 0 (fun _ _ => true) (fun _ _ => True) ?_ ?_ k () 0 0 rfl (Nat.zero_le _) trivial (by omega)
  · intro k _ _ _
    simp only [laws_eqByteS.l0]
    rw [if_neg (by omega)]
  · intro k _ i hi _ _ ih
    simp only [laws_eqByteS.l0]
    rw [if_pos (by omega), if_pos (by omega), if_pos (by omega), w64 (by omega) (by omega)]
    simp only [eq_self, ↓reduceIte]
    exact ih () trivial
theorem markByteS_at (l : List Int) (a : Int) (h0 : 0 ≤ a) (ha : a ≤ 1000000000000) (hl : l.length ≤ 1000000000) (k : Nat) (hk : l.length < k) : laws_markByteS.f k l a = some (a + 1 * l.length, marks (fun x => x % 256) 1 a l.length) := by
  unfold laws_markByteS.f
  refine mark_loop (fun k s b i => laws_markByteS.l0 k s b i) l.length 1 (fun x => x % 256) a ?_ ?_ k l rfl hk
  · intro k s b hs
    simp only [laws_markByteS.l0]
    rw [if_neg (by omega)]
  · intro k s i hi hs
    show laws_markByteS.l0 (k + 1) s (a + 1 * (i : Int)) (i : Int) = laws_markByteS.l0 k (s.set i ((a + 1 * (i : Int)) % 256)) (a + 1 * (i : Int) + 1) ((i : Int) + 1)
    have e1 : wrap64 (a + 1 * (i : Int) + 1) = a + 1 * (i : Int) + 1 := w64 (by omega) (by omega)
    have ei : wrap64 ((i : Int) + 1) = (i : Int) + 1 := w64 (by omega) (by omega)
    simp only [laws_markByteS.l0]
    rw [if_pos (by omega), if_pos (by omega)]
    simp only [Int.toNat_natCast, e1, ei]
theorem markText_l0 (d : Nat) : ∀ (k : Nat) (x : Int) (s : ByteArray), 0 ≤ x → x < 10 ^ d → x ≤ 1000000000000000000 → d < k → s.size + d ≤ 1000 → ∃ r, laws_markText.l0 k x s = some r := by
  induction d with
  | zero =>
    intro k x s h0 h1 h2 hk hs
    obtain ⟨k, rfl⟩ : ∃ m, k = m + 1 := ⟨k - 1, by omega⟩
    rw [laws_markText.l0, if_neg (by simp at h1; omega), if_pos (by omega)]
    exact ⟨_, rfl⟩
  | succ d ih =>
    intro k x s h0 h1 h2 hk hs
    obtain ⟨k, rfl⟩ : ∃ m, k = m + 1 := ⟨k - 1, by omega⟩
    rw [laws_markText.l0]
    by_cases hx : x > 0
    · rw [if_pos hx]
      simp only [Option.bind_some]
      have hz : ∀ y : Int, (strOfNums [y]).size = 1 := fun y => rfl
      rw [hz, if_pos (by omega)]
      have hq0 : 0 ≤ Int.tdiv x 10 := Int.tdiv_nonneg h0 (by omega)
      have hq1 : Int.tdiv x 10 < 10 ^ d := by
        rw [Int.tdiv_eq_ediv_of_nonneg h0]
        have : (10 : Int) ^ (d + 1) = 10 ^ d * 10 := Int.pow_succ ..
        omega
      have hq2 : Int.tdiv x 10 ≤ x := Int.tdiv_le_self _ h0
      rw [w64 (by omega) (by omega)]
      exact ih k _ _ hq0 hq1 (by omega) (by omega) (by rw [ByteArray.size_append, hz]; omega)
    · rw [if_neg hx, if_pos (by omega)]
      exact ⟨_, rfl⟩
def mkT (a : Int) : ByteArray := (laws_markText.f 100 a).getD ByteArray.empty
theorem markText_at (a : Int) (h1 : a ≤ 1000000000000000) (k : Nat) (hk : 100 ≤ k) : laws_markText.f k a = some (mkT a) := by
  have h : ∃ r, laws_markText.f 100 a = some r := by
    unfold laws_markText.f
    by_cases h0 : a ≤ 0
    · rw [if_pos h0]
      exact ⟨_, rfl⟩
    · rw [if_neg h0]
      exact markText_l0 20 100 a _ (by omega) (by omega) (by omega) (by omega) (by simp [ByteArray.size])
  obtain ⟨r, hr⟩ := h
  have h2 : mkT a = r := by
    unfold mkT
    rw [hr]
    rfl
  rw [h2]
  exact at_rounds (g := fun k => laws_markText.f k a) (fun k => laws_markText.mono a k) hk hr
theorem eqStringS_self (l : List ByteArray) (hl : l.length ≤ 1000000000) (k : Nat) (hk : l.length < k) : laws_eqStringS.f k l l = some true := by
  unfold laws_eqStringS.f
  rw [if_pos rfl]
  refine loop_up (fun k (_ : Unit) i => laws_eqStringS.l0 k l l i) l.length 0 (fun _ _ => true) (fun _ _ => True) ?_ ?_ k () 0 0 rfl (Nat.zero_le _) trivial (by omega)
  · intro k _ _ _
    simp only [laws_eqStringS.l0]
    rw [if_neg (by omega)]
  · intro k _ i hi _ _ ih
    simp only [laws_eqStringS.l0]
    rw [if_pos (by omega), if_pos (by omega), if_pos (by omega), w64 (by omega) (by omega)]
    simp only [eq_self, ↓reduceIte]
    exact ih () trivial
theorem markStringS_at (l : List ByteArray) (a : Int) (h0 : 0 ≤ a) (ha : a ≤ 1000000000000) (hl : l.length ≤ 1000000000) (k : Nat) (hk : l.length + 200 < k) : laws_markStringS.f k l a = some (a + 1 * l.length, marks mkT 1 a l.length) := by
  unfold laws_markStringS.f
  have key := loop_up (fun k (x : List ByteArray × Int) i => laws_markStringS.l0 k x.1 x.2 i) l.length 150 (fun _ _ => (a + 1 * (l.length : Int), marks mkT 1 a l.length)) (fun x i => x.1.length = l.length ∧ x.1.take i = marks mkT 1 a i ∧ x.2 = a + 1 * (i : Int)) ?_ ?_ k (l, a) 0 0 rfl (by omega) ⟨rfl, rfl, by simp⟩ (by omega)
  · exact key
  · rintro k ⟨s, b⟩ ⟨h1, h2, h3⟩ _
    simp only at h1 h2 h3
    show laws_markStringS.l0 (k + 1) s b l.length = _
    rw [laws_markStringS.l0, if_neg (by omega), h3]
    rw [List.take_of_length_le (by omega)] at h2
    rw [h2]
  · rintro k ⟨s, b⟩ i hi ⟨h1, h2, h3⟩ hm ih
    simp only at h1 h2 h3
    subst h3
    show laws_markStringS.l0 (k + 1) s (a + 1 * i) i = _
    have e1 : wrap64 (a + 1 * (i : Int) + 1) = a + 1 * (i : Int) + 1 := w64 (by omega) (by omega)
    have ei : wrap64 ((i : Int) + 1) = (i : Int) + 1 := w64 (by omega) (by omega)
    rw [laws_markStringS.l0, if_pos (by omega), markText_at _ (by omega) k (by omega)]
    simp only [Option.bind_some, Int.toNat_natCast, e1, ei]
    rw [if_pos (by omega)]
    refine ih (s.set i (mkT (a + 1 * (i : Int))), a + 1 * (i : Int) + 1) ⟨by simp [h1], ?_, ?_⟩
    · show (s.set i _).take (i + 1) = _
      rw [set_take _ _ _ (by omega), h2, marks_succ]
      rfl
    · show a + 1 * (i : Int) + 1 = a + 1 * ((i + 1 : Nat) : Int)
      omega
def okb (x : Int) : Bool := decide ((97 ≤ x ∧ x ≤ 122) ∨ (48 ≤ x ∧ x ≤ 57) ∨ x = 45)
def okbs (s : ByteArray) (i : Nat) : Bool := ((List.range s.size).drop i).all fun j => okb (bt s (j : Int))
def labv (s : ByteArray) : Bool := decide (1 ≤ s.size ∧ s.size ≤ 20) && okbs s 0
theorem okbs_end (s : ByteArray) : okbs s s.size = true := by
  unfold okbs
  rw [List.drop_of_length_le (by simp)]
  rfl
theorem okbs_step (s : ByteArray) (i : Nat) (h : i < s.size) : okbs s i = (okb (bt s (i : Int)) && okbs s (i + 1)) := by
  unfold okbs
  rw [drop_cons (List.range s.size) i (by simpa using h), List.getElem_range]
  rfl
theorem spec_l10Label_l0 (s : ByteArray) (hs : s.size ≤ 1000000000) (k : Nat) (hk : s.size < k) : spec_l10Label.l0 k s 0 = some (okbs s 0) := by
  refine loop_up (fun k (_ : Unit) i => spec_l10Label.l0 k s i) s.size 0 (fun _ i => okbs s i) (fun _ _ => True) ?_ ?_ k () 0 0 rfl (Nat.zero_le _) trivial (by omega)
  · intro k _ _ _
    rw [spec_l10Label.l0, if_neg (by omega), okbs_end]
  · intro k _ i hi _ _ ih
    have ih' := ih () trivial
    have ei : wrap64 ((i : Int) + 1) = (i : Int) + 1 := w64 (by omega) (by omega)
    have e : ∀ b, okb (bt s (i : Int)) = b → okbs s i = (b && okbs s (i + 1)) := fun b hb => by rw [okbs_step s i hi, hb]
    rw [spec_l10Label.l0, if_pos (by omega), if_pos (by omega), ei, ih']
    unfold okb at e
    generalize bt s (i : Int) = x at *
    by_cases h : (97 ≤ x ∧ x ≤ 122) ∨ (48 ≤ x ∧ x ≤ 57) ∨ x = 45
    · rw [e true (decide_eq_true h), Bool.true_and]
      repeat' split
      all_goals first | rfl | (exfalso; omega)
    · rw [e false (decide_eq_false h), Bool.false_and]
      repeat' split
      all_goals first | rfl | (exfalso; omega)
theorem spec_l10Label_at (s : ByteArray) (hs : s.size ≤ 1000000000) (k : Nat) (hk : s.size + 1 < k) : spec_l10Label.f k s = some (labv s) := by
  obtain ⟨k, rfl⟩ : ∃ m, k = m + 1 := ⟨k - 1, by omega⟩
  unfold spec_l10Label.f labv
  by_cases h1 : (s.size : Int) < 1
  · rw [if_pos h1, spec_l10Label.j0, if_pos rfl, decide_eq_false (by omega), Bool.false_and]
  · rw [if_neg h1, spec_l10Label.j0]
    by_cases h2 : (s.size : Int) > 20
    · rw [if_pos (decide_eq_true h2), decide_eq_false (by omega), Bool.false_and]
    · rw [if_neg (by simpa using h2), spec_l10Label_l0 s hs k (by omega), decide_eq_true (by omega), Bool.true_and]
theorem impl_isLabel_at (s : ByteArray) (hs : s.size ≤ 1000000000) (k : Nat) (hk : s.size < k) : impl_isLabel.f k s = some (labv s) := by
  unfold impl_isLabel.f labv
  rw [Bool.and_comm]
  refine loop_up (fun k (_ : Unit) i => impl_isLabel.l0 k s (s.size : Int) i) s.size 0 (fun _ i => okbs s i && decide (1 ≤ s.size ∧ s.size ≤ 20)) (fun _ _ => True) ?_ ?_ k () 0 0 rfl (Nat.zero_le _) trivial (by omega)
  · intro k _ _ _
    rw [impl_isLabel.l0, if_neg (by omega), impl_in_at, okbs_end, Bool.true_and]
    simp only [Option.bind_some]
    exact congrArg some (decide_eq_decide.mpr (by omega))
  · intro k _ i hi _ _ ih
    have ih' := ih () trivial
    have ei : wrap64 ((i : Int) + 1) = (i : Int) + 1 := w64 (by omega) (by omega)
    have e : ∀ b, okb (bt s (i : Int)) = b → okbs s i = (b && okbs s (i + 1)) := fun b hb => by rw [okbs_step s i hi, hb]
    rw [impl_isLabel.l0, if_pos (by omega), if_pos (by omega), if_pos (by omega), ei, ih']
    unfold okb at e
    generalize bt s (i : Int) = x at *
    by_cases h : (97 ≤ x ∧ x ≤ 122) ∨ (48 ≤ x ∧ x ≤ 57) ∨ x = 45
    · rw [e true (decide_eq_true h), Bool.true_and]
      repeat' split
      all_goals first | rfl | (exfalso; omega)
    · rw [e false (decide_eq_false h), Bool.false_and, Bool.false_and]
      repeat' split
      all_goals first | rfl | (exfalso; omega)
theorem szStringS_l0 (l : List ByteArray) (hs : ∀ s ∈ l, s.size ≤ maxLen) (hl : l.length ≤ 1048576) (d : Nat) : ∀ (k : Nat) (a : Int) (i : Nat) (j : Int), j = i → i + d = l.length → d < k → 0 ≤ a → a ≤ 1048576 → ∃ z, laws_szStringS.l0 k l a j = some z ∧ (z < 0 ∨ ∀ q, i ≤ q → (h : q < l.length) → l[q].size ≤ 1048576) := by
  induction d with
  | zero =>
    intro k a i j hj hi hk h0 h1
    subst hj
    obtain ⟨k, rfl⟩ : ∃ m, k = m + 1 := ⟨k - 1, by omega⟩
    rw [laws_szStringS.l0, if_neg (by omega)]
    exact ⟨a, rfl, .inr (fun q h2 h3 => by omega)⟩
  | succ d ih =>
    intro k a i j hj hi hk h0 h1
    subst hj
    obtain ⟨k, rfl⟩ : ∃ m, k = m + 1 := ⟨k - 1, by omega⟩
    have hi2 : i < l.length := by omega
    have hy : rdOf ByteArray.empty l (i : Int) = l[i] := by simp only [rdOf, Int.toNat_natCast, getD_at _ _ _ hi2]
    have hm := hs l[i] (List.getElem_mem _)
    unfold maxLen at hm
    rw [laws_szStringS.l0, if_pos (by omega), if_pos (by omega), hy, w64 (x := a - (l[i].size : Int)) (by omega) (by omega)]
    by_cases h : a - (l[i].size : Int) < 0
    · rw [if_pos h]
      exact ⟨-1, rfl, .inl (by omega)⟩
    · rw [if_neg h]
      have e2 : wrap64 ((i : Int) + 1) = ((i + 1 : Nat) : Int) := by rw [w64 (by omega) (by omega)]; rfl
      rw [e2]
      obtain ⟨z, e, hz⟩ := ih k (a - (l[i].size : Int)) (i + 1) _ rfl (by omega) (by omega) (by omega) (by omega)
      refine ⟨z, e, ?_⟩
      rcases hz with hz | hz
      · exact .inl hz
      · refine .inr (fun q h2 h3 => ?_)
        by_cases hq : q = i
        · subst hq
          omega
        · exact hz q (by omega) h3
theorem szStringS_at (l : List ByteArray) (hs : ∀ s ∈ l, s.size ≤ maxLen) (hl : l.length ≤ maxLen) (k : Nat) (hk : 1048580 ≤ k) : ∃ z, laws_szStringS.f k l 1048576 = some z ∧ (z < 0 ∨ (l.length ≤ 1048576 ∧ ∀ s ∈ l, s.size ≤ 1048576)) := by
  have hl2 := hl
  unfold maxLen at hl2
  unfold laws_szStringS.f
  rw [w64 (by omega) (by omega)]
  by_cases h : 1048576 - (l.length : Int) < 0
  · rw [if_pos h]
    exact ⟨-1, rfl, .inl (by omega)⟩
  · rw [if_neg h]
    obtain ⟨z, e, hz⟩ := szStringS_l0 l hs (by omega) l.length k (1048576 - (l.length : Int)) 0 0 rfl (by omega) (by omega) (by omega) (by omega)
    refine ⟨z, e, ?_⟩
    rcases hz with hz | hz
    · exact .inl hz
    · refine .inr ⟨by omega, fun s hm => ?_⟩
      obtain ⟨q, hq, rfl⟩ := List.getElem_of_mem hm
      exact hz q (by omega) hq
theorem toStringS_at (l : List ByteArray) (hl : l.length ≤ 1000000000) (k : Nat) (hk : l.length < k) : laws_toStringS.f k l = some l := by
  unfold laws_toStringS.f
  rw [if_pos (by omega), if_pos (by omega)]
  have h := to_loop (fun k s i => laws_toStringS.l0 k l s i) l id ?_ ?_ k (List.replicate ((l.length : Int) : Int).toNat (⟨#[]⟩ : ByteArray)) (by simp) hk
  · rw [List.map_id] at h
    exact h
  · intro k s hs
    simp only [laws_toStringS.l0]
    rw [if_neg (by omega)]
  · intro k s i hi hs
    simp only [laws_toStringS.l0]
    rw [if_pos (by omega), if_pos (by omega), if_pos (by omega), w64 (by omega) (by omega)]
    simp only [Int.toNat_natCast, rdOf, getD_at _ _ _ hi, id]
theorem eqBytesResult_self (c : Int) (l : List Int) (hl : l.length ≤ 1000000000) (k : Nat) (hk : l.length < k) : laws_eqBytesResult.f k c l c l = some true := by
  unfold laws_eqBytesResult.f
  rw [if_pos rfl, eqByteS_self l hl k hk]
  simp
theorem markBytesResult_at (c : Int) (l : List Int) (hl : l.length ≤ 1000000000) (k : Nat) (hk : l.length < k) : laws_markBytesResult.f k c l 1 = some (1 + 1 * (l.length : Int), marks (fun x => x % 256) 1 1 l.length) := by
  unfold laws_markBytesResult.f
  rw [markByteS_at l 1 (by omega) (by omega) hl k hk]
  rfl
theorem heldByteS_at (n : Nat) (a : Int) (h0 : 0 ≤ a) (ha : a ≤ 1000000000000) (hl : n ≤ 1000000000) (k : Nat) (hk : n < k) : laws_heldByteS.f k (marks (fun x => x % 256) 1 a n) a = some (a + 1 * n) := by
  unfold laws_heldByteS.f
  refine held_loop (fun k b i => laws_heldByteS.l0 k (marks (fun x => x % 256) 1 a n) b i) n 1 a ?_ ?_ k hk
  · intro k b
    simp only [laws_heldByteS.l0, marks_len]
    rw [if_neg (by omega)]
  · intro k i hi
    show laws_heldByteS.l0 (k + 1) (marks (fun x => x % 256) 1 a n) (a + 1 * (i : Int)) (i : Int) = laws_heldByteS.l0 k (marks (fun x => x % 256) 1 a n) (a + 1 * (i : Int) + 1) ((i : Int) + 1)
    have e1 : wrap64 (a + 1 * (i : Int) + 1) = a + 1 * (i : Int) + 1 := w64 (by omega) (by omega)
    have ei : wrap64 ((i : Int) + 1) = (i : Int) + 1 := w64 (by omega) (by omega)
    have eg : rd (marks (fun x => x % 256) 1 a n) (i : Int) = (a + 1 * (i : Int)) % 256 := by
      simp only [rd, Int.toNat_natCast, List.getD_eq_getElem?_getD, marks_get _ _ _ _ _ hi, Option.getD_some]
      rfl
    simp only [laws_heldByteS.l0, marks_len]
    rw [if_pos (by omega), if_pos (by omega)]
    simp only [eg, e1, ei, eq_self, ↓reduceIte]
theorem heldBytesResult_at (c : Int) (n : Nat) (hl : n ≤ 1000000000) (k : Nat) (hk : n < k) : laws_heldBytesResult.f k c (marks (fun x => x % 256) 1 1 n) 1 = some (1 + 1 * (n : Int)) := by
  unfold laws_heldBytesResult.f
  rw [heldByteS_at n 1 (by omega) (by omega) hl k hk]
  simp only [Option.bind_some]
  rw [if_neg (by omega)]
theorem spec_l10Labels_at (l : List ByteArray) (hs : ∀ s ∈ l, s.size ≤ 1048576) (k : Nat) (hk : 1048600 ≤ k) : spec_l10Labels.f k l = some (if l.length > 6 then 2 else if l.all labv = true then 0 else 5) := by
  unfold spec_l10Labels.f
  by_cases h6 : l.length > 6
  · rw [if_pos (by omega), if_pos h6]
  rw [if_neg (by omega), if_neg h6]
  refine loop_up (fun k (_ : Unit) i => spec_l10Labels.l0 k l i) l.length 1048580 (fun _ i => if (l.drop i).all labv = true then 0 else 5) (fun _ _ => True) ?_ ?_ k () 0 0 rfl (Nat.zero_le _) trivial (by omega)
  · intro k _ _ _
    rw [spec_l10Labels.l0, if_neg (by omega), List.drop_length]
    rfl
  · intro k _ i hi _ hm ih
    have ih' := ih () trivial
    have ei : wrap64 ((i : Int) + 1) = (i : Int) + 1 := w64 (by omega) (by omega)
    have hy : rdOf ByteArray.empty l (i : Int) = l[i] := by simp only [rdOf, Int.toNat_natCast, getD_at _ _ _ hi]
    have hz := hs l[i] (List.getElem_mem _)
    rw [spec_l10Labels.l0, if_pos (by omega), if_pos (by omega), hy, spec_l10Label_at _ (by omega) _ (by omega), ei, ih', drop_cons l i hi]
    simp only [Option.bind_some, List.all_cons]
    by_cases hb : labv l[i] = true
    · simp [hb]
    · simp [hb]
def encv (l : List ByteArray) : List Int := l.flatMap fun s => ((s.size : Int) % 256) :: bytesOf s
theorem encv_cons (s : ByteArray) (l : List ByteArray) : encv (s :: l) = (((s.size : Int) % 256) :: bytesOf s) ++ encv l := rfl
theorem labv_size {s : ByteArray} (h : labv s = true) : 1 ≤ s.size ∧ s.size ≤ 20 := by
  unfold labv at h
  rw [Bool.and_eq_true, decide_eq_true_eq] at h
  exact h.1
theorem encv_len (l : List ByteArray) (h : l.all labv = true) : (encv l).length ≤ 21 * l.length := by
  induction l with
  | nil => simp [encv]
  | cons s t ih =>
    rw [List.all_cons, Bool.and_eq_true] at h
    have h1 := labv_size h.1
    have h2 := ih h.2
    rw [encv_cons, List.length_append, List.length_cons, bytesOf_length, List.length_cons]
    omega
theorem spec_l10Name_at (l : List ByteArray) (hl : l.length ≤ 6) (ha : l.all labv = true) (k : Nat) (hk : 20 ≤ k) : spec_l10Name.f k l = some (encv l ++ [0]) := by
  unfold spec_l10Name.f
  have key := loop_up (fun k (x : List Int) i => spec_l10Name.l0 k l x i) l.length 0 (fun x i => x ++ encv (l.drop i) ++ [0]) (fun x i => x.length ≤ 21 * i) ?_ ?_ k [] 0 0 rfl (Nat.zero_le _) (by simp) (by omega)
  · simpa using key
  · intro k x hx _
    rw [spec_l10Name.l0, if_neg (by omega), if_pos (by omega), List.drop_length]
    simp [encv]
  · intro k x i hi hx _ ih
    have ei : wrap64 ((i : Int) + 1) = (i : Int) + 1 := w64 (by omega) (by omega)
    have hy : rdOf ByteArray.empty l (i : Int) = l[i] := by simp only [rdOf, Int.toNat_natCast, getD_at _ _ _ hi]
    have hz := labv_size (List.all_eq_true.mp ha l[i] (List.getElem_mem _))
    rw [spec_l10Name.l0, if_pos (by omega), if_pos (by omega), hy, if_pos (by omega), ei, ih _ (by rw [List.length_append, List.length_append, bytesOf_length, List.length_singleton]; omega), drop_cons l i hi, encv_cons]
    simp
theorem impl_EncodeName_l0 (l : List ByteArray) (hl : l.length ≤ 6) (hs : ∀ s ∈ l, s.size ≤ 1048576) (k : Nat) (hk : 1048600 ≤ k) : impl_EncodeName.l0 k [] l (l.length : Int) 0 = some (if l.all labv = true then (0, encv l ++ [0]) else (5, [])) := by
  have key := loop_up (fun k (x : List Int) i => impl_EncodeName.l0 k x l (l.length : Int) i) l.length 1048580 (fun x i => if (l.drop i).all labv = true then (0, x ++ encv (l.drop i) ++ [0]) else (5, [])) (fun x i => x.length ≤ 21 * i) ?_ ?_ k [] 0 0 rfl (Nat.zero_le _) (by simp) (by omega)
  · simpa using key
  · intro k x hx _
    rw [impl_EncodeName.l0, if_neg (by omega), if_pos (by omega), List.drop_length]
    simp [encv]
  · intro k x i hi hx hm ih
    have ei : wrap64 ((i : Int) + 1) = (i : Int) + 1 := w64 (by omega) (by omega)
    have hy : rdOf ByteArray.empty l (i : Int) = l[i] := by simp only [rdOf, Int.toNat_natCast, getD_at _ _ _ hi]
    have hz := hs l[i] (List.getElem_mem _)
    rw [impl_EncodeName.l0, if_pos (by omega), if_pos (by omega), if_pos (by omega), hy, impl_isLabel_at _ (by omega) _ (by omega), ei, drop_cons l i hi]
    simp only [Option.bind_some, List.all_cons]
    by_cases hb : labv l[i] = true
    · have h1 := labv_size hb
      rw [if_pos hb, if_pos (by omega), if_pos (by rw [List.length_append, List.length_singleton]; omega), ih _ (by rw [List.length_append, List.length_append, bytesOf_length, List.length_singleton]; omega), encv_cons]
      simp [hb]
    · simp [hb, impl_noBytes.f]
def env (l : List ByteArray) : Int × List Int := if l.length > 6 then (2, []) else if l.all labv = true then (0, encv l ++ [0]) else (5, [])
theorem env_len (l : List ByteArray) : (env l).2.length ≤ 200 := by
  unfold env
  split
  · simp
  · split
    · rename_i h1 h2
      have := encv_len l h2
      simp only [List.length_append, List.length_singleton]
      omega
    · simp
theorem impl_EncodeName_at (l : List ByteArray) (hs : ∀ s ∈ l, s.size ≤ 1048576) (k : Nat) (hk : 1048600 ≤ k) : impl_EncodeName.f k l = some (env l) := by
  unfold impl_EncodeName.f env
  by_cases h6 : l.length > 6
  · rw [if_pos (by omega), if_pos h6]
    rfl
  · rw [if_neg (by omega), if_neg h6, impl_EncodeName_l0 l (by omega) hs k hk]
def pkl : Nat → Int → List Int → List Int
  | 0, _, s => s
  | j + 1, x, s => pkl j (wrap64 (Int.tdiv x 256)) (s.set j ((Int.tmod x 256) % 256))
theorem pkl_len : ∀ (j : Nat) (x : Int) (s : List Int), (pkl j x s).length = s.length
  | 0, _, _ => rfl
  | j + 1, x, s => by rw [pkl, pkl_len j, List.length_set]
def pk (n : Nat) (x : Int) : List Int := pkl n x (List.replicate n 0)
theorem pk_len (n : Nat) (x : Int) : (pk n x).length = n := by rw [pk, pkl_len, List.length_replicate]
theorem pk_one (x : Int) (h : 0 ≤ x) : pk 1 x = [x % 256] := by
  show [(Int.tmod x 256) % 256] = [x % 256]
  rw [Int.tmod_eq_emod_of_nonneg h]
  congr 1
  omega
theorem spec_l1Pack_l0 : ∀ (j k : Nat) (x : Int) (s : List Int), j ≤ s.length → s.length ≤ 1000 → j < k → spec_l1Pack.l0 k x s ((j : Int) - 1) = some (pkl j x s)
  | 0, k, x, s, _, _, hk => by
    obtain ⟨k, rfl⟩ : ∃ z, k = z + 1 := ⟨k - 1, by omega⟩
    rw [spec_l1Pack.l0, if_neg (by omega)]
    rfl
  | j + 1, k, x, s, hj, hs, hk => by
    obtain ⟨k, rfl⟩ : ∃ z, k = z + 1 := ⟨k - 1, by omega⟩
    have e : ((j + 1 : Nat) : Int) - 1 = (j : Int) := by omega
    rw [e, spec_l1Pack.l0, if_pos (by omega), if_pos (by omega), if_pos (by omega), w64 (x := (j : Int) - 1) (by omega) (by omega), Int.toNat_natCast, spec_l1Pack_l0 j k _ _ (by rw [List.length_set]; omega) (by rw [List.length_set]; omega) (by omega)]
    rfl
theorem spec_l1Pack_at (n : Nat) (hn : n ≤ 100) (x : Int) (k : Nat) (hk : n < k) : spec_l1Pack.f k x (n : Int) = some (pk n x) := by
  unfold spec_l1Pack.f
  rw [if_pos (by omega), if_pos (by omega), w64 (by omega) (by omega), Int.toNat_natCast, spec_l1Pack_l0 n k x _ (by simp) (by simp; omega) hk]
  rfl
theorem impl_word_l0 : ∀ (j k : Nat) (x : Int) (s : List Int), j ≤ s.length → s.length ≤ 1000 → j < k → impl_word.l0 k x s ((j : Int) - 1) = some (pkl j x s)
  | 0, k, x, s, _, _, hk => by
    obtain ⟨k, rfl⟩ : ∃ z, k = z + 1 := ⟨k - 1, by omega⟩
    rw [impl_word.l0, if_neg (by omega)]
    rfl
  | j + 1, k, x, s, hj, hs, hk => by
    obtain ⟨k, rfl⟩ : ∃ z, k = z + 1 := ⟨k - 1, by omega⟩
    have e : ((j + 1 : Nat) : Int) - 1 = (j : Int) := by omega
    rw [e, impl_word.l0, if_pos (by omega), if_pos (by omega), if_pos (by omega), w64 (x := (j : Int) - 1) (by omega) (by omega), Int.toNat_natCast, impl_word_l0 j k _ _ (by rw [List.length_set]; omega) (by rw [List.length_set]; omega) (by omega)]
    rfl
theorem impl_word_at (n : Nat) (hn : n ≤ 100) (x : Int) (k : Nat) (hk : n < k) : impl_word.f k x (n : Int) = some (pk n x) := by
  unfold impl_word.f
  rw [if_pos (by omega), if_pos (by omega), w64 (by omega) (by omega), Int.toNat_natCast, impl_word_l0 n k x _ (by simp) (by simp; omega) hk]
  rfl
theorem Concat_l1 (l : List (List Int)) (hl : l.length ≤ 100) (hs : ∀ r ∈ l, r.length ≤ 10000) (m : Nat) : ∀ (k i : Nat) (s : List Int), l.length - i = m → i ≤ l.length → m < k → s.length ≤ 10000 * i → slices_Concat_byte_byte.l1 k s l (l.length : Int) (i : Int) = some (s ++ (l.drop i).flatten) := by
  induction m with
  | zero =>
    intro k i s hm hi hk hb
    obtain ⟨k, rfl⟩ : ∃ z, k = z + 1 := ⟨k - 1, by omega⟩
    obtain rfl : i = l.length := by omega
    rw [slices_Concat_byte_byte.l1, if_neg (by omega), List.drop_length, List.flatten_nil, List.append_nil]
  | succ m ih =>
    intro k i s hm hi hk hb
    obtain ⟨k, rfl⟩ : ∃ z, k = z + 1 := ⟨k - 1, by omega⟩
    have hlt : i < l.length := by omega
    have hy : rd_L2 l (i : Int) = l[i] := by simp only [rd_L2, Int.toNat_natCast, getD_at _ _ _ hlt]
    have hr := hs _ (List.getElem_mem hlt)
    have e2 : ((i + 1 : Nat) : Int) = (i : Int) + 1 := by omega
    rw [slices_Concat_byte_byte.l1, if_pos (by omega), if_pos (by omega), if_pos (by omega), hy, if_pos (by omega), w64 (by omega) (by omega), ← e2, ih k (i + 1) _ (by omega) (by omega) (by omega) (by rw [List.length_append]; omega), drop_cons l i hlt, List.flatten_cons, List.append_assoc]
theorem Concat_l0 (l : List (List Int)) (hl : l.length ≤ 100) (hs : ∀ r ∈ l, r.length ≤ 10000) (m : Nat) : ∀ (k i : Nat) (a : Int), l.length - i = m → i ≤ l.length → m + l.length + 2 < k → 0 ≤ a → a ≤ 10000 * i → slices_Concat_byte_byte.l0 k l a l (l.length : Int) (i : Int) = some l.flatten := by
  induction m with
  | zero =>
    intro k i a hm hi hk h0 hb
    obtain ⟨k, rfl⟩ : ∃ z, k = z + 1 := ⟨k - 1, by omega⟩
    obtain rfl : i = l.length := by omega
    unfold slices_Concat_byte_byte.l0 slices_Grow_byte_byte.f
    rw [if_neg (by omega), if_pos (by rfl), if_pos (by omega), if_pos (by omega), Option.bind_some]
    have e := Concat_l1 l hl hs _ k 0 [] rfl (by omega) (by omega) (by simp)
    rw [show ((0 : Nat) : Int) = 0 from rfl] at e
    rw [e, List.drop_zero, List.nil_append]
  | succ m ih =>
    intro k i a hm hi hk h0 hb
    obtain ⟨k, rfl⟩ : ∃ z, k = z + 1 := ⟨k - 1, by omega⟩
    have hlt : i < l.length := by omega
    have hy : rd_L2 l (i : Int) = l[i] := by simp only [rd_L2, Int.toNat_natCast, getD_at _ _ _ hlt]
    have hr := hs _ (List.getElem_mem hlt)
    have e2 : ((i + 1 : Nat) : Int) = (i : Int) + 1 := by omega
    rw [slices_Concat_byte_byte.l0, if_pos (by omega), if_pos (by omega), if_pos (by omega), hy, w64 (x := a + (l[i].length : Int)) (by omega) (by omega), if_neg (by omega), w64 (by omega) (by omega), ← e2, ih k (i + 1) _ (by omega) (by omega) (by omega) (by omega) (by omega)]
theorem Concat_at (l : List (List Int)) (hl : l.length ≤ 100) (hs : ∀ r ∈ l, r.length ≤ 10000) (k : Nat) (hk : 300 ≤ k) : slices_Concat_byte_byte.f k l = some l.flatten := by
  unfold slices_Concat_byte_byte.f
  have e := Concat_l0 l hl hs _ k 0 0 rfl (by omega) (by omega) (by omega) (by omega)
  exact e
theorem impl_shorts_at (l : List Int) (hl : l.length ≤ 10) (k : Nat) (hk : 50 ≤ k) : impl_shorts.f k l = some (l.flatMap (pk 2)) := by
  unfold impl_shorts.f
  have key := loop_up (fun k (x : List Int) i => impl_shorts.l0 k x l (l.length : Int) i) l.length 10 (fun x i => x ++ (l.drop i).flatMap (pk 2)) (fun x i => x.length ≤ 2 * i) ?_ ?_ k [] 0 0 rfl (Nat.zero_le _) (by simp) (by omega)
  · simpa using key
  · intro k x hx _
    rw [impl_shorts.l0, if_neg (by omega), List.drop_length]
    simp
  · intro k x i hi hx hm ih
    have ei : wrap64 ((i : Int) + 1) = (i : Int) + 1 := w64 (by omega) (by omega)
    have hy : rd l (i : Int) = l[i] := by simp only [rd, Int.toNat_natCast, getD_at _ _ _ hi]
    have ew := impl_word_at 2 (by omega) l[i] k (by omega)
    have e2 : ((2 : Nat) : Int) = 2 := rfl
    rw [e2] at ew
    rw [impl_shorts.l0, if_pos (by omega), if_pos (by omega), if_pos (by omega), hy, ew, Option.bind_some, pk_len, if_pos (by omega), ei, ih _ (by rw [List.length_append, pk_len]; omega), drop_cons l i hi, List.flatMap_cons, List.append_assoc]
theorem pk2_0 : pk 2 0 = [0, 0] := by
  show [(Int.tmod (wrap64 (Int.tdiv 0 256)) 256) % 256, (Int.tmod 0 256) % 256] = _
  rw [show Int.tdiv 0 256 = 0 from rfl, w64 (by omega) (by omega)]
  rfl
theorem pk2_1 : pk 2 1 = [0, 1] := by
  show [(Int.tmod (wrap64 (Int.tdiv 1 256)) 256) % 256, (Int.tmod 1 256) % 256] = _
  rw [show Int.tdiv 1 256 = 0 from rfl, w64 (by omega) (by omega)]
  rfl
def qv (a : Int) (l : List ByteArray) (b : Int) : List Int := pk 2 a ++ ([1, 0, 0, 1, 0, 0, 0, 0, 0, 0] ++ (encv l ++ [0] ++ (pk 2 b ++ [0, 1])))
theorem qv_len (a : Int) (l : List ByteArray) (b : Int) : (qv a l b).length = 17 + (encv l).length := by
  simp only [qv, List.length_append, List.length_cons, List.length_nil, pk_len]
  omega
theorem spec_l10Query_at (a : Int) (l : List ByteArray) (b : Int) (hl : l.length ≤ 6) (ha : l.all labv = true) (k : Nat) (hk : 50 ≤ k) : spec_l10Query.f k a l b = some (qv a l b) := by
  have e2 : ∀ x, spec_l10Pair.f k x = some (pk 2 x) := fun x => by
    unfold spec_l10Pair.f
    have := spec_l1Pack_at 2 (by omega) x k (by omega)
    have e2 : ((2 : Nat) : Int) = 2 := rfl
    rw [e2] at this
    rw [this]
    rfl
  have hn := encv_len l ha
  have p2 : ∀ x, (pk 2 x).length = 2 := pk_len 2
  unfold spec_l10Query.f qv
  rw [spec_l10Name_at l hl ha k (by omega)]
  simp only [e2, Option.bind_some, List.length_append, List.length_cons, List.length_nil, p2]
  rw [if_pos (by omega), if_pos (by omega), if_pos (by omega), if_pos (by omega)]
  simp only [List.append_assoc]
def pqr (a : Int) (l : List ByteArray) (b : Int) : Int × List Int := if (0 ≤ a ∧ a ≤ 65535) ∧ 0 ≤ b ∧ b ≤ 65535 then (if l.length > 6 then (2, []) else if l.all labv = true then (0, qv a l b) else (5, [])) else (3, [])
theorem pqr_len (a : Int) (l : List ByteArray) (b : Int) : (pqr a l b).2.length ≤ 200 := by
  unfold pqr
  split
  · split
    · simp
    · split
      · rename_i h1 h2
        have := encv_len l h2
        have := qv_len a l b
        show (qv a l b).length ≤ 200
        omega
      · simp
  · simp
theorem impl_PackQuery_at (a : Int) (l : List ByteArray) (b : Int) (hs : ∀ s ∈ l, s.size ≤ 1048576) (k : Nat) (hk : 1048700 ≤ k) : impl_PackQuery.f k a l b = some (pqr a l b) := by
  obtain ⟨k, rfl⟩ : ∃ z, k = z + 1 := ⟨k - 1, by omega⟩
  unfold impl_PackQuery.f pqr
  simp only [impl_in_at, Option.bind_some, decide_eq_true_eq]
  by_cases h1 : 0 ≤ a ∧ a ≤ 65535
  · rw [if_pos h1]
    by_cases h2 : 0 ≤ b ∧ b ≤ 65535
    · rw [if_pos (show (0 ≤ a ∧ a ≤ 65535) ∧ 0 ≤ b ∧ b ≤ 65535 from ⟨h1, h2⟩), impl_PackQuery.j0, if_neg (by simp [h2]), impl_EncodeName_at l hs k (by omega)]
      simp only [Option.bind_some]
      unfold env
      by_cases h6 : l.length > 6
      · rw [if_pos h6, if_pos h6]
        rfl
      · rw [if_neg h6, if_neg h6]
        by_cases ha : l.all labv = true
        · have hn := encv_len l ha
          rw [if_pos ha, if_pos ha, if_pos rfl, impl_shorts_at _ (by simp) _ (by omega), impl_shorts_at _ (by simp) _ (by omega), impl_shorts_at _ (by simp) _ (by omega)]
          simp only [Option.bind_some]
          rw [Concat_at _ (by simp) (by simp [pk_len, pk2_0, pk2_1]; omega) k (by omega)]
          simp [qv, pk2_0, pk2_1]
        · rw [if_neg ha, if_neg ha]
          rfl
    · rw [if_neg (fun h : (0 ≤ a ∧ a ≤ 65535) ∧ 0 ≤ b ∧ b ≤ 65535 => h2 h.2), impl_PackQuery.j0, if_pos (by simp [h2])]
      rfl
  · rw [if_neg h1, if_neg (fun h : (0 ≤ a ∧ a ≤ 65535) ∧ 0 ≤ b ∧ b ≤ 65535 => h1 h.1), impl_PackQuery.j0, if_pos rfl]
    rfl
theorem spec_PackQuery_at (a : Int) (l : List ByteArray) (b : Int) (hs : ∀ s ∈ l, s.size ≤ 1048576) (k : Nat) (hk : 1048700 ≤ k) : spec_PackQuery.f k a l b = some (pqr a l b) := by
  obtain ⟨k, rfl⟩ : ∃ z, k = z + 1 := ⟨k - 1, by omega⟩
  unfold spec_PackQuery.f pqr
  simp only [spec_in_at, Option.bind_some, decide_eq_true_eq]
  by_cases h1 : 0 ≤ a ∧ a ≤ 65535
  · rw [if_pos h1]
    by_cases h2 : 0 ≤ b ∧ b ≤ 65535
    · rw [if_pos (show (0 ≤ a ∧ a ≤ 65535) ∧ 0 ≤ b ∧ b ≤ 65535 from ⟨h1, h2⟩), spec_PackQuery.j0, if_neg (by simp [h2]), spec_l10Labels_at l hs k (by omega)]
      simp only [Option.bind_some]
      by_cases h6 : l.length > 6
      · rw [if_pos h6, if_pos h6, if_neg (by omega)]
      · rw [if_neg h6, if_neg h6]
        by_cases ha : l.all labv = true
        · rw [if_pos ha, if_pos ha, if_pos rfl, spec_l10Query_at a l b (by omega) ha k (by omega)]
          rfl
        · rw [if_neg ha, if_neg ha, if_neg (by omega)]
    · rw [if_neg (fun h : (0 ≤ a ∧ a ≤ 65535) ∧ 0 ≤ b ∧ b ≤ 65535 => h2 h.2), spec_PackQuery.j0, if_pos (by simp [h2])]
  · rw [if_neg h1, if_neg (fun h : (0 ≤ a ∧ a ≤ 65535) ∧ 0 ≤ b ∧ b ≤ 65535 => h1 h.1), spec_PackQuery.j0, if_pos rfl]
theorem eqQuery_self (a : Int) (l : List ByteArray) (b : Int) (hl : l.length ≤ 1000000000) (k : Nat) (hk : l.length < k) : laws_eqQuery.f k a l b a l b = some true := by
  unfold laws_eqQuery.f
  rw [eqStringS_self l hl k hk]
  simp
theorem markQuery_at (a : Int) (l : List ByteArray) (b : Int) (hl : l.length ≤ 1000000000) (k : Nat) (hk : l.length + 200 < k) : laws_markQuery.f k a l b 1 = some (1 + 1 * (l.length : Int), marks mkT 1 1 l.length) := by
  unfold laws_markQuery.f
  rw [markStringS_at l 1 (by omega) (by omega) hl k hk]
  rfl
theorem toQuery_at (a : Int) (l : List ByteArray) (b : Int) (hl : l.length ≤ 1000000000) (k : Nat) (hk : l.length < k) : laws_toQuery.f k a l b = some (a, l, b) := by
  unfold laws_toQuery.f
  rw [toStringS_at l hl k hk]
  rfl
end Go.Proofs.Ytllkeaghjacalaa.Pure
