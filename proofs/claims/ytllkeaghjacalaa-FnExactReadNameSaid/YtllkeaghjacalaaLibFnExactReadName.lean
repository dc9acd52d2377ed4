/- What the printed functions of the law FnExactReadName answer, as plain Lean. -/
import Derived.Test.YtllkeaghjacalaaStFnExactReadName
import Derived.Test.YtllkeaghjacalaaBaFnExactReadName
namespace Go.Proofs.Ytllkeaghjacalaa.Pure
open Go.RowKit Go.Proofs.Ytllkeaghjacalaa.Open Go.Proofs.Ytllkeaghjacalaa.Base Go.Proofs.Ytllkeaghjacalaa.MFnExactReadName Go.Proofs.YtllkeaghjacalaaW.PrintWords Go.Proofs.YtllkeaghjacalaaW.PrintLast
set_option linter.unusedVariables false
set_option linter.unusedSimpArgs false
theorem impl_in_at (a b c : Int) : impl_in.f a b c = some (decide (b ≤ a ∧ a ≤ c)) := by
  unfold impl_in.f
  by_cases h : a ≥ b
  · rw [if_pos h]
    have h' : b ≤ a := h
    simp [h']
  · rw [if_neg h]
    have h' : ¬ b ≤ a := h
    simp [h']
theorem spec_in_at (a b c : Int) : spec_l1In.f a b c = some (decide (b ≤ a ∧ a ≤ c)) := by
  unfold spec_l1In.f
  by_cases h : a ≥ b
  · rw [if_pos h]
    have h' : b ≤ a := h
    simp [h']
  · rw [if_neg h]
    have h' : ¬ b ≤ a := h
    simp [h']
theorem eqByteS_self (l : List Int) (hl : l.length ≤ 1000000000) (k : Nat) (hk : l.length < k) : laws_eqByteS.f k l l = some true := by
  unfold laws_eqByteS.f
  rw [if_pos rfl]
  refine loop_up (fun k (_ : Unit) i => laws_eqByteS.l0 k l l i) l.length 0 (fun _ _ => true) (fun _ _ => True) ?_ ?_ k () 0 0 rfl (Nat.zero_le _) trivial (by omega)
  · intro k _ _ _
    simp only [laws_eqByteS.l0]
    rw [if_neg (by omega)]
  · intro k _ i hi _ _ ih
    simp only [laws_eqByteS.l0]
    rw [if_pos (by omega), if_pos (by omega), if_pos (by omega), w64 (by omega) (by omega)]
    simp only [eq_self, ↓reduceIte]
    exact ih () trivial
theorem toByteS_at (l : List Int) (hl : l.length ≤ 1000000000) (k : Nat) (hk : l.length < k) : laws_toByteS.f k l = some l := by
  unfold laws_toByteS.f
  rw [if_pos (by omega), if_pos (by omega)]
  have h := to_loop (fun k s i => laws_toByteS.l0 k l s i) l id ?_ ?_ k (List.replicate ((l.length : Int) : Int).toNat 0) (by simp) hk
  · rw [List.map_id] at h
    exact h
  · intro k s hs
    simp only [laws_toByteS.l0]
    rw [if_neg (by omega)]
  · intro k s i hi hs
    simp only [laws_toByteS.l0]
    rw [if_pos (by omega), if_pos (by omega), if_pos (by omega), w64 (by omega) (by omega)]
    simp only [Int.toNat_natCast, rd, getD_at _ _ _ hi, id]
theorem markByteS_at (l : List Int) (a : Int) (h0 : 0 ≤ a) (ha : a ≤ 1000000000000) (hl : l.length ≤ 1000000000) (k : Nat) (hk : l.length < k) : laws_markByteS.f k l a = some (a + 1 * l.length, marks (fun x => x % 256) 1 a l.length) := by
  unfold laws_markByteS.f
  refine mark_loop (fun k s b i => laws_markByteS.l0 k s b i) l.length 1 (fun x => x % 256) a ?_ ?_ k l rfl hk
  · intro k s b hs
    simp only [laws_markByteS.l0]
    rw [if_neg (by omega)]
  · intro k s i hi hs
    show laws_markByteS.l0 (k + 1) s (a + 1 * (i : Int)) (i : Int) = laws_markByteS.l0 k (s.set i ((a + 1 * (i : Int)) % 256)) (a + 1 * (i : Int) + 1) ((i : Int) + 1)
    have e1 : wrap64 (a + 1 * (i : Int) + 1) = a + 1 * (i : Int) + 1 := w64 (by omega) (by omega)
    have ei : wrap64 ((i : Int) + 1) = (i : Int) + 1 := w64 (by omega) (by omega)
    simp only [laws_markByteS.l0]
    rw [if_pos (by omega), if_pos (by omega)]
    simp only [Int.toNat_natCast, e1, ei]
theorem markText_l0 (d : Nat) : ∀ (k : Nat) (x : Int) (s : ByteArray), 0 ≤ x → x < 10 ^ d → x ≤ 1000000000000000000 → d < k → s.size + d ≤ 1000 → ∃ r, laws_markText.l0 k x s = some r := by
  induction d with
  | zero =>
    intro k x s h0 h1 h2 hk hs
    obtain ⟨k, rfl⟩ : ∃ m, k = m + 1 := ⟨k - 1, by omega⟩
    rw [laws_markText.l0, if_neg (by simp at h1; omega), if_pos (by omega)]
    exact ⟨_, rfl⟩
  | succ d ih =>
    intro k x s h0 h1 h2 hk hs
    obtain ⟨k, rfl⟩ : ∃ m, k = m + 1 := ⟨k - 1, by omega⟩
    rw [laws_markText.l0]
    by_cases hx : x > 0
    · rw [if_pos hx]
      simp only [Option.bind_some]
      have hz : ∀ y : Int, (strOfNums [y]).size = 1 := fun y => rfl
      rw [hz, if_pos (by omega)]
      have hq0 : 0 ≤ Int.tdiv x 10 := Int.tdiv_nonneg h0 (by omega)
      have hq1 : Int.tdiv x 10 < 10 ^ d := by
        rw [Int.tdiv_eq_ediv_of_nonneg h0]
        have : (10 : Int) ^ (d + 1) = 10 ^ d * 10 := Int.pow_succ ..
        omega
      have hq2 : Int.tdiv x 10 ≤ x := Int.tdiv_le_self _ h0
      rw [w64 (by omega) (by omega)]
      exact ih k _ _ hq0 hq1 (by omega) (by omega) (by rw [ByteArray.size_append, hz]; omega)
    · rw [if_neg hx, if_pos (by omega)]
      exact ⟨_, rfl⟩
def mkT (a : Int) : ByteArray := (laws_markText.f 100 a).getD ByteArray.empty
theorem markText_at (a : Int) (h1 : a ≤ 1000000000000000) (k : Nat) (hk : 100 ≤ k) : laws_markText.f k a = some (mkT a) := by
  have h : ∃ r, laws_markText.f 100 a = some r := by
    unfold laws_markText.f
    by_cases h0 : a ≤ 0
    · rw [if_pos h0]
      exact ⟨_, rfl⟩
    · rw [if_neg h0]
      exact markText_l0 20 100 a _ (by omega) (by omega) (by omega) (by omega) (by simp [ByteArray.size])
  obtain ⟨r, hr⟩ := h
  have h2 : mkT a = r := by
    unfold mkT
    rw [hr]
    rfl
  rw [h2]
  exact at_rounds (g := fun k => laws_markText.f k a) (fun k => laws_markText.mono a k) hk hr
theorem eqStringS_self (l : List ByteArray) (hl : l.length ≤ 1000000000) (k : Nat) (hk : l.length < k) : laws_eqStringS.f k l l = some true := by
  unfold laws_eqStringS.f
  rw [if_pos rfl]
  refine loop_up (fun k (_ : Unit) i => laws_eqStringS.l0 k l l i) l.length 0 (fun _ _ => true) (fun _ _ => True) ?_ ?_ k () 0 0 rfl (Nat.zero_le _) trivial (by omega)
  · intro k _ _ _
    simp only [laws_eqStringS.l0]
    rw [if_neg (by omega)]
  · intro k _ i hi _ _ ih
    simp only [laws_eqStringS.l0]
    rw [if_pos (by omega), if_pos (by omega), if_pos (by omega), w64 (by omega) (by omega)]
    simp only [eq_self, ↓reduceIte]
    exact ih () trivial
theorem markStringS_at (l : List ByteArray) (a : Int) (h0 : 0 ≤ a) (ha : a ≤ 1000000000000) (hl : l.length ≤ 1000000000) (k : Nat) (hk : l.length + 200 < k) : laws_markStringS.f k l a = some (a + 1 * l.length, marks mkT 1 a l.length) := by
  unfold laws_markStringS.f
  have key := loop_up (fun k (x : List ByteArray × Int) i => laws_markStringS.l0 k x.1 x.2 i) l.length 150 (fun _ _ => (a + 1 * (l.length : Int), marks mkT 1 a l.length)) (fun x i => x.1.length = l.length ∧ x.1.take i = marks mkT 1 a i ∧ x.2 = a + 1 * (i : Int)) ?_ ?_ k (l, a) 0 0 rfl (by omega) ⟨rfl, rfl, by simp⟩ (by omega)
  · exact key
  · rintro k ⟨s, b⟩ ⟨h1, h2, h3⟩ _
    simp only at h1 h2 h3
    show laws_markStringS.l0 (k + 1) s b l.length = _
    rw [laws_markStringS.l0, if_neg (by omega), h3]
    rw [List.take_of_length_le (by omega)] at h2
    rw [h2]
  · rintro k ⟨s, b⟩ i hi ⟨h1, h2, h3⟩ hm ih
    simp only at h1 h2 h3
    subst h3
    show laws_markStringS.l0 (k + 1) s (a + 1 * i) i = _
    have e1 : wrap64 (a + 1 * (i : Int) + 1) = a + 1 * (i : Int) + 1 := w64 (by omega) (by omega)
    have ei : wrap64 ((i : Int) + 1) = (i : Int) + 1 := w64 (by omega) (by omega)
    rw [laws_markStringS.l0, if_pos (by omega), markText_at _ (by omega) k (by omega)]
    simp only [Option.bind_some, Int.toNat_natCast, e1, ei]
    rw [if_pos (by omega)]
    refine ih (s.set i (mkT (a + 1 * (i : Int))), a + 1 * (i : Int) + 1) ⟨by simp [h1], ?_, ?_⟩
    · show (s.set i _).take (i + 1) = _
      rw [set_take _ _ _ (by omega), h2, marks_succ]
      rfl
    · show a + 1 * (i : Int) + 1 = a + 1 * ((i + 1 : Nat) : Int)
      omega
theorem heldStringS_at (n : Nat) (a : Int) (h0 : 0 ≤ a) (ha : a ≤ 1000000000000) (hl : n ≤ 1000000000) (k : Nat) (hk : n + 200 < k) : laws_heldStringS.f k (marks mkT 1 a n) a = some (a + 1 * n) := by
  unfold laws_heldStringS.f
  refine loop_up (fun k (b : Int) i => laws_heldStringS.l0 k (marks mkT 1 a n) b i) n 150 (fun _ _ => a + 1 * (n : Int)) (fun b i => b = a + 1 * (i : Int)) ?_ ?_ k a 0 0 rfl (by omega) (by simp) (by omega)
  · rintro k b h _
    show laws_heldStringS.l0 (k + 1) (marks mkT 1 a n) b n = _
    rw [laws_heldStringS.l0, marks_len, if_neg (by omega), h]
  · rintro k b i hi h hm ih
    subst h
    show laws_heldStringS.l0 (k + 1) (marks mkT 1 a n) (a + 1 * i) i = _
    have e1 : wrap64 (a + 1 * (i : Int) + 1) = a + 1 * (i : Int) + 1 := w64 (by omega) (by omega)
    have ei : wrap64 ((i : Int) + 1) = (i : Int) + 1 := w64 (by omega) (by omega)
    have eg : rdOf ByteArray.empty (marks mkT 1 a n) (i : Int) = mkT (a + 1 * (i : Int)) := by
      simp only [rdOf, Int.toNat_natCast, List.getD_eq_getElem?_getD, marks_get _ _ _ _ _ hi, Option.getD_some]
      rfl
    rw [laws_heldStringS.l0, marks_len, if_pos (by omega), if_pos (by omega), markText_at _ (by omega) k (by omega)]
    simp only [Option.bind_some, eg, e1, ei, ↓reduceIte]
    refine ih (a + 1 * (i : Int) + 1) ?_
    show a + 1 * (i : Int) + 1 = a + 1 * ((i + 1 : Nat) : Int)
    omega
theorem eqNameResult_self (c : Int) (l : List ByteArray) (n : Int) (hl : l.length ≤ 1000000000) (k : Nat) (hk : l.length < k) : laws_eqNameResult.f k c l n c l n = some true := by
  unfold laws_eqNameResult.f laws_eqName.f
  rw [if_pos rfl, eqStringS_self l hl k hk]
  simp
theorem markNameResult_at (c : Int) (l : List ByteArray) (n : Int) (hl : l.length ≤ 1000000000) (k : Nat) (hk : l.length + 200 < k) : laws_markNameResult.f k c l n 1 = some (1 + 1 * (l.length : Int), marks mkT 1 1 l.length) := by
  unfold laws_markNameResult.f laws_markName.f
  rw [markStringS_at l 1 (by omega) (by omega) hl k hk]
  rfl
theorem heldNameResult_at (c : Int) (m : Nat) (n : Int) (hl : m ≤ 1000000000) (k : Nat) (hk : m + 200 < k) : laws_heldNameResult.f k c (marks mkT 1 1 m) n 1 = some (1 + 1 * (m : Int)) := by
  unfold laws_heldNameResult.f laws_heldName.f
  rw [heldStringS_at m 1 (by omega) (by omega) hl k hk]
  simp only [Option.bind_some]
  rw [if_neg (by omega)]
  simp only [Option.bind_some]
  rw [if_neg (by omega)]
def okb (x : Int) : Bool := decide ((97 ≤ x ∧ x ≤ 122) ∨ (48 ≤ x ∧ x ≤ 57) ∨ x = 45)
def okbs (s : ByteArray) (i : Nat) : Bool := ((List.range s.size).drop i).all fun j => okb (bt s (j : Int))
def labv (s : ByteArray) : Bool := decide (1 ≤ s.size ∧ s.size ≤ 20) && okbs s 0
theorem okbs_end (s : ByteArray) : okbs s s.size = true := by
  unfold okbs
  rw [List.drop_of_length_le (by simp)]
  rfl
theorem okbs_step (s : ByteArray) (i : Nat) (h : i < s.size) : okbs s i = (okb (bt s (i : Int)) && okbs s (i + 1)) := by
  unfold okbs
  rw [drop_cons (List.range s.size) i (by simpa using h), List.getElem_range]
  rfl
theorem spec_l10Label_l0 (s : ByteArray) (hs : s.size ≤ 1000000000) (k : Nat) (hk : s.size < k) : spec_l10Label.l0 k s 0 = some (okbs s 0) := by
  refine loop_up (fun k (_ : Unit) i => spec_l10Label.l0 k s i) s.size 0 (fun _ i => okbs s i) (fun _ _ => True) ?_ ?_ k () 0 0 rfl (Nat.zero_le _) trivial (by omega)
  · intro k _ _ _
    rw [spec_l10Label.l0, if_neg (by omega), okbs_end]
  · intro k _ i hi _ _ ih
    have ih' := ih () trivial
    have ei : wrap64 ((i : Int) + 1) = (i : Int) + 1 := w64 (by omega) (by omega)
    have e : ∀ b, okb (bt s (i : Int)) = b → okbs s i = (b && okbs s (i + 1)) := fun b hb => by rw [okbs_step s i hi, hb]
    rw [spec_l10Label.l0, if_pos (by omega), if_pos (by omega), ei, ih']
    unfold okb at e
    generalize bt s (i : Int) = x at *
    by_cases h : (97 ≤ x ∧ x ≤ 122) ∨ (48 ≤ x ∧ x ≤ 57) ∨ x = 45
    · rw [e true (decide_eq_true h), Bool.true_and]
      repeat' split
      all_goals first | rfl | (exfalso; omega)
    · rw [e false (decide_eq_false h), Bool.false_and]
      repeat' split
      all_goals first | rfl | (exfalso; omega)
theorem spec_l10Label_at (s : ByteArray) (hs : s.size ≤ 1000000000) (k : Nat) (hk : s.size + 1 < k) : spec_l10Label.f k s = some (labv s) := by
  obtain ⟨k, rfl⟩ : ∃ m, k = m + 1 := ⟨k - 1, by omega⟩
  unfold spec_l10Label.f labv
  by_cases h1 : (s.size : Int) < 1
  · rw [if_pos h1, spec_l10Label.j0, if_pos rfl, decide_eq_false (by omega), Bool.false_and]
  · rw [if_neg h1, spec_l10Label.j0]
    by_cases h2 : (s.size : Int) > 20
    · rw [if_pos (decide_eq_true h2), decide_eq_false (by omega), Bool.false_and]
    · rw [if_neg (by simpa using h2), spec_l10Label_l0 s hs k (by omega), decide_eq_true (by omega), Bool.true_and]
theorem impl_isLabel_at (s : ByteArray) (hs : s.size ≤ 1000000000) (k : Nat) (hk : s.size < k) : impl_isLabel.f k s = some (labv s) := by
  unfold impl_isLabel.f labv
  rw [Bool.and_comm]
  refine loop_up (fun k (_ : Unit) i => impl_isLabel.l0 k s (s.size : Int) i) s.size 0 (fun _ i => okbs s i && decide (1 ≤ s.size ∧ s.size ≤ 20)) (fun _ _ => True) ?_ ?_ k () 0 0 rfl (Nat.zero_le _) trivial (by omega)
  · intro k _ _ _
    rw [impl_isLabel.l0, if_neg (by omega), impl_in_at, okbs_end, Bool.true_and]
    simp only [Option.bind_some]
    exact congrArg some (decide_eq_decide.mpr (by omega))
  · intro k _ i hi _ _ ih
    have ih' := ih () trivial
    have ei : wrap64 ((i : Int) + 1) = (i : Int) + 1 := w64 (by omega) (by omega)
    have e : ∀ b, okb (bt s (i : Int)) = b → okbs s i = (b && okbs s (i + 1)) := fun b hb => by rw [okbs_step s i hi, hb]
    rw [impl_isLabel.l0, if_pos (by omega), if_pos (by omega), if_pos (by omega), ei, ih']
    unfold okb at e
    generalize bt s (i : Int) = x at *
    by_cases h : (97 ≤ x ∧ x ≤ 122) ∨ (48 ≤ x ∧ x ≤ 57) ∨ x = 45
    · rw [e true (decide_eq_true h), Bool.true_and]
      repeat' split
      all_goals first | rfl | (exfalso; omega)
    · rw [e false (decide_eq_false h), Bool.false_and, Bool.false_and]
      repeat' split
      all_goals first | rfl | (exfalso; omega)
theorem size_strOfNums (l : List Int) : (strOfNums l).size = l.length := by
  simp [strOfNums, ByteArray.size]
theorem read_both (x : List Int) (hx : ∀ y ∈ x, 0 ≤ y ∧ y ≤ 255) (hl : x.length ≤ 1048576) (m : Nat) : ∀ (k : Nat) (p j : Int) (ls : List ByteArray) (nx nx' : Int), (6 - ls.length) + (5 - j.toNat) + 1 = m → ls.length ≤ 6 → 0 ≤ j → j ≤ 5 → 0 ≤ p → p ≤ 1048600 → (1 ≤ j → nx = nx') → 10 * m + 100 ≤ k →
    ∃ c ls' n', spec_l10Read.l0 k x p (x.length : Int) j ls nx = some (ls', n', c) ∧ impl_ReadName.l0 k x p j 0 ls nx' = some (if c = 0 then (0, ls', n') else (c, [], 0)) ∧ ls'.length ≤ 6 := by
  induction m with
  | zero =>
    intro k p j ls nx nx' hm
    omega
  | succ m ih =>
    intro k p j ls nx nx' hm hls hj0 hj5 hp0 hp1 hnx hk
    obtain ⟨k, rfl⟩ : ∃ z, k = z + 2 := ⟨k - 2, by omega⟩
    rw [spec_l10Read.l0, impl_ReadName.l0]
    by_cases h1 : p < (x.length : Int)
    rotate_left
    · rw [if_neg h1, if_neg h1]
      exact ⟨5, ls, nx, rfl, rfl, hls⟩
    rw [if_pos h1, if_pos h1, if_pos hp0, if_pos h1, if_pos hp0]
    have hb : ∀ q : Int, 0 ≤ q → q < x.length → 0 ≤ rd x q ∧ rd x q ≤ 255 := by
      intro q h0 h1
      have e : rd x q = x[q.toNat]'(by omega) := by
        simp only [rd, List.getD_eq_getElem?_getD]
        rw [List.getElem?_eq_getElem (by omega)]
        rfl
      rw [e]
      exact hx _ (List.getElem_mem _)
    have b0 := hb p hp0 h1
    have e1 : wrap64 (p + 1) = p + 1 := w64 (by omega) (by omega)
    have e2 : wrap64 (p + 2) = p + 2 := w64 (by omega) (by omega)
    have eb : wrap64 (rd x p) = rd x p := w64 (by omega) (by omega)
    rw [eb, e1]
    have hb1 : p + 1 < (x.length : Int) → 0 ≤ rd x (p + 1) ∧ rd x (p + 1) ≤ 255 := fun h => hb (p + 1) (by omega) h
    generalize rd x p = b at *
    by_cases hz : b = 0
    · rw [if_pos hz, if_pos hz]
      by_cases hj : j = 0
      · rw [if_pos hj, if_pos hj]
        exact ⟨0, ls, p + 1, rfl, rfl, hls⟩
      · rw [if_neg hj, if_neg hj]
        exact ⟨0, ls, nx, rfl, by rw [hnx (by omega)]; rfl, hls⟩
    rw [if_neg hz, if_neg hz]
    by_cases hs : b ≤ 20
    · rw [if_neg (by omega), if_pos hs, if_pos hs]
      have e3 : wrap64 (p + 1 + b) = p + 1 + b := w64 (by omega) (by omega)
      rw [e3]
      by_cases hn : p + 1 + b ≤ (x.length : Int)
      · rw [if_pos hn, if_pos (by omega), if_pos (by omega), if_pos hn, if_neg (by omega), if_pos (by omega), if_pos (by omega), if_pos hn]
        have hsz : (strOfNums ((x.take (p + 1 + b).toNat).drop (p + 1).toNat)).size ≤ 20 := by
          rw [size_strOfNums, List.length_drop, List.length_take]
          omega
        rw [spec_l10Label_at _ (by omega) _ (by omega), impl_isLabel_at _ (by omega) _ (by omega)]
        simp only [Option.bind_some, spec_l10Read.j2, impl_ReadName.j1, e1, e3]
        cases labv (strOfNums ((x.take (p + 1 + b).toNat).drop (p + 1).toNat)) with
        | false =>
          refine ⟨5, ls, nx, ?_, ?_, hls⟩
          · rfl
          · rfl
        | true =>
          simp only [Bool.not_true, Bool.false_eq_true, ↓reduceIte]
          by_cases h6 : (ls.length : Int) ≥ 6
          · rw [if_pos h6, if_pos (by omega)]
            exact ⟨2, ls, nx, rfl, rfl, hls⟩
          · rw [if_neg h6, if_pos (by omega), if_pos (by omega), if_pos hn, if_pos (by omega), if_neg (by omega), if_pos (by omega), if_pos (by omega), if_pos hn, if_pos (by omega)]
            exact ih k (p + 1 + b) j _ nx nx' (by simp; omega) (by simp; omega) hj0 hj5 (by omega) (by omega) hnx (by omega)
      · rw [if_neg hn, if_pos (by omega)]
        refine ⟨5, ls, nx, ?_, ?_, hls⟩
        · rfl
        · rfl
    · by_cases hg : b ≥ 192
      · rw [if_pos hg, if_neg hs, if_pos hg]
        by_cases hq : p + 1 ≥ (x.length : Int)
        · have t2 : ¬ p + 1 < (x.length : Int) := by omega
          rw [if_pos hq, decide_eq_false t2]
          refine ⟨5, ls, nx, rfl, ?_, hls⟩
          rfl
        · have t1 : 0 ≤ p + 1 := by omega
          have t2 : p + 1 < (x.length : Int) := by omega
          have b1 := hb1 t2
          have e4 : wrap64 (rd x (p + 1)) = rd x (p + 1) := w64 (by omega) (by omega)
          have e5 : wrap64 (b - 192) = b - 192 := w64 (by omega) (by omega)
          have e6 : wrap64 ((b - 192) * 256) = (b - 192) * 256 := w64 (by omega) (by omega)
          have e7 : wrap64 (j + 1) = j + 1 := w64 (by omega) (by omega)
          have e8 : wrap64 ((b - 192) * 256 + rd x (p + 1)) = (b - 192) * 256 + rd x (p + 1) := w64 (by omega) (by omega)
          rw [if_neg hq, if_pos t1, if_pos t2, decide_eq_true t2]
          have g0 : 0 ≤ (b - 192) * 256 + rd x (p + 1) := by omega
          have g1 : (b - 192) * 256 + rd x (p + 1) ≤ 1048600 := by omega
          simp only [impl_ReadName.j2, spec_l10Read.j1, e1, e2, e4, e5, e6, e7, e8, t1, t2, ↓reduceIte]
          clear e1 e2 e4 e5 e6 e7 e8 hb hb1
          generalize (b - 192) * 256 + rd x (p + 1) = t at *
          by_cases h2 : t ≥ p
          · simp only [h2, ↓reduceIte]
            refine ⟨5, ls, nx, rfl, ?_, hls⟩
            by_cases hj : j = 0 <;> simp [hj]
          · simp only [h2, ↓reduceIte]
            by_cases h3 : j + 1 > 5
            · simp only [h3, decide_true, ↓reduceIte]
              refine ⟨5, ls, nx, rfl, ?_, hls⟩
              by_cases hj : j = 0 <;> simp [hj]
            · simp only [h3, decide_false, Bool.false_eq_true, ↓reduceIte]
              by_cases hj : j = 0
              · have hj1 : j + 1 = 1 := by omega
                rw [if_pos hj1, if_pos hj]
                exact ih k t (j + 1) ls (p + 2) (p + 2) (by omega) hls (by omega) (by omega) (by omega) (by omega) (fun _ => rfl) (by omega)
              · have hj1 : ¬ j + 1 = 1 := by omega
                rw [if_neg hj1, if_neg hj]
                exact ih k t (j + 1) ls nx nx' (by omega) hls (by omega) (by omega) (by omega) (by omega) (fun _ => hnx (by omega)) (by omega)
      · rw [if_neg hg, if_neg hs, if_neg hs, if_neg hg]
        refine ⟨5, ls, nx, ?_, ?_, hls⟩
        · rfl
        · rfl
theorem readName_both (x : List Int) (hx : ∀ y ∈ x, 0 ≤ y ∧ y ≤ 255) (hl : x.length ≤ 1048576) (a : Int) (k : Nat) (hk : 1000 ≤ k) : ∃ c ls n, spec_ReadName.f k x a = some (c, ls, n) ∧ impl_ReadName.f k x a = some (c, ls, n) ∧ ls.length ≤ 6 := by
  unfold spec_ReadName.f impl_ReadName.f spec_l10Read.f
  rw [impl_in_at, spec_in_at, w64 (by omega) (by omega)]
  simp only [Option.bind_some]
  by_cases h : 0 ≤ a ∧ a ≤ (x.length : Int) - 1
  · rw [decide_eq_true h, if_pos rfl, if_pos rfl]
    obtain ⟨c, ls, n, e1, e2, e3⟩ := read_both x hx hl _ k a 0 [] (-1) 0 rfl (by simp) (by omega) (by omega) h.1 (by omega) (by omega) (by simp; omega)
    rw [e1, e2]
    simp only [Option.bind_some]
    by_cases hc : c = 0
    · rw [if_pos hc, if_pos hc]
      exact ⟨0, ls, n, rfl, rfl, e3⟩
    · rw [if_neg hc, if_neg hc]
      exact ⟨c, [], 0, rfl, rfl, by simp⟩
  · rw [decide_eq_false h, if_neg (by decide), if_neg (by decide)]
    exact ⟨3, [], 0, rfl, rfl, by simp⟩
end Go.Proofs.Ytllkeaghjacalaa.Pure
