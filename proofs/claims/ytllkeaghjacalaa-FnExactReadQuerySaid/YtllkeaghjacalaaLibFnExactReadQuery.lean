/- What the printed functions of the law FnExactReadQuery answer, as plain Lean. -/
import Derived.Test.YtllkeaghjacalaaStFnExactReadQuery
import Derived.Test.YtllkeaghjacalaaBaFnExactReadQuery
namespace Go.Proofs.Ytllkeaghjacalaa.Pure
open Go.RowKit Go.Proofs.Ytllkeaghjacalaa.Open Go.Proofs.Ytllkeaghjacalaa.Base Go.Proofs.Ytllkeaghjacalaa.MFnExactReadQuery Go.Proofs.YtllkeaghjacalaaW.PrintWords Go.Proofs.YtllkeaghjacalaaW.PrintLast
set_option linter.unusedVariables false
set_option linter.unusedSimpArgs false
theorem impl_in_at (a b c : Int) : impl_in.f a b c = some (decide (b ≤ a ∧ a ≤ c)) := by
  unfold impl_in.f
  by_cases h : a ≥ b
  · rw [if_pos h]
    have h' : b ≤ a := h
    simp [h']
  · rw [if_neg h]
    have h' : ¬ b ≤ a := h
    simp [h']
theorem eqByteS_self (l : List Int) (hl : l.length ≤ 1000000000) (k : Nat) (hk : l.length < k) : laws_eqByteS.f k l l = some true := by
  unfold laws_eqByteS.f
  rw [if_pos rfl]
  refine loop_up (fun k (_ : Unit) i => laws_eqByteS.l0 k l l i) l.length 0 (fun _ _ => true) (fun _ _ => True) ?_ ?_ k () 0 0 rfl (Nat.zero_le _) trivial (by omega)
  · intro k _ _ _
    simp only [laws_eqByteS.l0]
    rw [if_neg (by omega)]
  · intro k _ i hi _ _ ih
    simp only [laws_eqByteS.l0]
    rw [if_pos (by omega), if_pos (by omega), if_pos (by omega), w64 (by omega) (by omega)]
    simp only [eq_self, ↓reduceIte]
    exact ih () trivial
theorem toByteS_at (l : List Int) (hl : l.length ≤ 1000000000) (k : Nat) (hk : l.length < k) : laws_toByteS.f k l = some l := by
  unfold laws_toByteS.f
  rw [if_pos (by omega), if_pos (by omega)]
  have h := to_loop (fun k s i => laws_toByteS.l0 k l s i) l id ?_ ?_ k (List.replicate ((l.length : Int) : Int).toNat 0) (by simp) hk
  · rw [List.map_id] at h
    exact h
  · intro k s hs
    simp only [laws_toByteS.l0]
    rw [if_neg (by omega)]
  · intro k s i hi hs
    simp only [laws_toByteS.l0]
    rw [if_pos (by omega), if_pos (by omega), if_pos (by omega), w64 (by omega) (by omega)]
    simp only [Int.toNat_natCast, rd, getD_at _ _ _ hi, id]
theorem markByteS_at (l : List Int) (a : Int) (h0 : 0 ≤ a) (ha : a ≤ 1000000000000) (hl : l.length ≤ 1000000000) (k : Nat) (hk : l.length < k) : laws_markByteS.f k l a = some (a + 1 * l.length, marks (fun x => x % 256) 1 a l.length) := by
  unfold laws_markByteS.f
  refine mark_loop (fun k s b i => laws_markByteS.l0 k s b i) l.length 1 (fun x => x % 256) a ?_ ?_ k l rfl hk
  · intro k s b hs
    simp only [laws_markByteS.l0]
    rw [if_neg (by omega)]
  · intro k s i hi hs
    show laws_markByteS.l0 (k + 1) s (a + 1 * (i : Int)) (i : Int) = laws_markByteS.l0 k (s.set i ((a + 1 * (i : Int)) % 256)) (a + 1 * (i : Int) + 1) ((i : Int) + 1)
    have e1 : wrap64 (a + 1 * (i : Int) + 1) = a + 1 * (i : Int) + 1 := w64 (by omega) (by omega)
    have ei : wrap64 ((i : Int) + 1) = (i : Int) + 1 := w64 (by omega) (by omega)
    simp only [laws_markByteS.l0]
    rw [if_pos (by omega), if_pos (by omega)]
    simp only [Int.toNat_natCast, e1, ei]
theorem markText_l0 (d : Nat) : ∀ (k : Nat) (x : Int) (s : ByteArray), 0 ≤ x → x < 10 ^ d → x ≤ 1000000000000000000 → d < k → s.size + d ≤ 1000 → ∃ r, laws_markText.l0 k x s = some r := by
  induction d with
  | zero =>
    intro k x s h0 h1 h2 hk hs
    obtain ⟨k, rfl⟩ : ∃ m, k = m + 1 := ⟨k - 1, by omega⟩
    rw [laws_markText.l0, if_neg (by simp at h1; omega), if_pos (by omega)]
    exact ⟨_, rfl⟩
  | succ d ih =>
    intro k x s h0 h1 h2 hk hs
    obtain ⟨k, rfl⟩ : ∃ m, k = m + 1 := ⟨k - 1, by omega⟩
    rw [laws_markText.l0]
    by_cases hx : x > 0
    · rw [if_pos hx]
      simp only [Option.bind_some]
      have hz : ∀ y : Int, (strOfNums [y]).size = 1 := fun y => rfl
      rw [hz, if_pos (by omega)]
      have hq0 : 0 ≤ Int.tdiv x 10 := Int.tdiv_nonneg h0 (by omega)
      have hq1 : Int.tdiv x 10 < 10 ^ d := by
        rw [Int.tdiv_eq_ediv_of_nonneg h0]
        have : (10 : Int) ^ (d + 1) = 10 ^ d * 10 := Int.pow_succ ..
        omega
      have hq2 : Int.tdiv x 10 ≤ x := Int.tdiv_le_self _ h0
      rw [w64 (by omega) (by omega)]
      exact ih k _ _ hq0 hq1 (by omega) (by omega) (by rw [ByteArray.size_append, hz]; omega)
    · rw [if_neg hx, if_pos (by omega)]
      exact ⟨_, rfl⟩
def mkT (a : Int) : ByteArray := (laws_markText.f 100 a).getD ByteArray.empty
theorem markText_at (a : Int) (h1 : a ≤ 1000000000000000) (k : Nat) (hk : 100 ≤ k) : laws_markText.f k a = some (mkT a) := by
  have h : ∃ r, laws_markText.f 100 a = some r := by
    unfold laws_markText.f
    by_cases h0 : a ≤ 0
    · rw [if_pos h0]
      exact ⟨_, rfl⟩
    · rw [if_neg h0]
      exact markText_l0 20 100 a _ (by omega) (by omega) (by omega) (by omega) (by simp [ByteArray.size])
  obtain ⟨r, hr⟩ := h
  have h2 : mkT a = r := by
    unfold mkT
    rw [hr]
    rfl
  rw [h2]
  exact at_rounds (g := fun k => laws_markText.f k a) (fun k => laws_markText.mono a k) hk hr
theorem eqStringS_self (l : List ByteArray) (hl : l.length ≤ 1000000000) (k : Nat) (hk : l.length < k) : laws_eqStringS.f k l l = some true := by
  unfold laws_eqStringS.f
  rw [if_pos rfl]
  refine loop_up (fun k (_ : Unit) i => laws_eqStringS.l0 k l l i) l.length 0 (fun _ _ => true) (fun _ _ => True) ?_ ?_ k () 0 0 rfl (Nat.zero_le _) trivial (by omega)
  · intro k _ _ _
    simp only [laws_eqStringS.l0]
    rw [if_neg (by omega)]
  · intro k _ i hi _ _ ih
    simp only [laws_eqStringS.l0]
    rw [if_pos (by omega), if_pos (by omega), if_pos (by omega), w64 (by omega) (by omega)]
    simp only [eq_self, ↓reduceIte]
    exact ih () trivial
theorem markStringS_at (l : List ByteArray) (a : Int) (h0 : 0 ≤ a) (ha : a ≤ 1000000000000) (hl : l.length ≤ 1000000000) (k : Nat) (hk : l.length + 200 < k) : laws_markStringS.f k l a = some (a + 1 * l.length, marks mkT 1 a l.length) := by
  unfold laws_markStringS.f
  have key := loop_up (fun k (x : List ByteArray × Int) i => laws_markStringS.l0 k x.1 x.2 i) l.length 150 (fun _ _ => (a + 1 * (l.length : Int), marks mkT 1 a l.length)) (fun x i => x.1.length = l.length ∧ x.1.take i = marks mkT 1 a i ∧ x.2 = a + 1 * (i : Int)) ?_ ?_ k (l, a) 0 0 rfl (by omega) ⟨rfl, rfl, by simp⟩ (by omega)
  · exact key
  · rintro k ⟨s, b⟩ ⟨h1, h2, h3⟩ _
    simp only at h1 h2 h3
    show laws_markStringS.l0 (k + 1) s b l.length = _
    rw [laws_markStringS.l0, if_neg (by omega), h3]
    rw [List.take_of_length_le (by omega)] at h2
    rw [h2]
  · rintro k ⟨s, b⟩ i hi ⟨h1, h2, h3⟩ hm ih
    simp only at h1 h2 h3
    subst h3
    show laws_markStringS.l0 (k + 1) s (a + 1 * i) i = _
    have e1 : wrap64 (a + 1 * (i : Int) + 1) = a + 1 * (i : Int) + 1 := w64 (by omega) (by omega)
    have ei : wrap64 ((i : Int) + 1) = (i : Int) + 1 := w64 (by omega) (by omega)
    rw [laws_markStringS.l0, if_pos (by omega), markText_at _ (by omega) k (by omega)]
    simp only [Option.bind_some, Int.toNat_natCast, e1, ei]
    rw [if_pos (by omega)]
    refine ih (s.set i (mkT (a + 1 * (i : Int))), a + 1 * (i : Int) + 1) ⟨by simp [h1], ?_, ?_⟩
    · show (s.set i _).take (i + 1) = _
      rw [set_take _ _ _ (by omega), h2, marks_succ]
      rfl
    · show a + 1 * (i : Int) + 1 = a + 1 * ((i + 1 : Nat) : Int)
      omega
theorem heldStringS_at (n : Nat) (a : Int) (h0 : 0 ≤ a) (ha : a ≤ 1000000000000) (hl : n ≤ 1000000000) (k : Nat) (hk : n + 200 < k) : laws_heldStringS.f k (marks mkT 1 a n) a = some (a + 1 * n) := by
  unfold laws_heldStringS.f
  refine loop_up (fun k (b : Int) i => laws_heldStringS.l0 k (marks mkT 1 a n) b i) n 150 (fun _ _ => a + 1 * (n : Int)) (fun b i => b = a + 1 * (i : Int)) ?_ ?_ k a 0 0 rfl (by omega) (by simp) (by omega)
  · rintro k b h _
    show laws_heldStringS.l0 (k + 1) (marks mkT 1 a n) b n = _
    rw [laws_heldStringS.l0, marks_len, if_neg (by omega), h]
  · rintro k b i hi h hm ih
    subst h
    show laws_heldStringS.l0 (k + 1) (marks mkT 1 a n) (a + 1 * i) i = _
    have e1 : wrap64 (a + 1 * (i : Int) + 1) = a + 1 * (i : Int) + 1 := w64 (by omega) (by omega)
    have ei : wrap64 ((i : Int) + 1) = (i : Int) + 1 := w64 (by omega) (by omega)
    have eg : rdOf ByteArray.empty (marks mkT 1 a n) (i : Int) = mkT (a + 1 * (i : Int)) := by
      simp only [rdOf, Int.toNat_natCast, List.getD_eq_getElem?_getD, marks_get _ _ _ _ _ hi, Option.getD_some]
      rfl
    rw [laws_heldStringS.l0, marks_len, if_pos (by omega), if_pos (by omega), markText_at _ (by omega) k (by omega)]
    simp only [Option.bind_some, eg, e1, ei, ↓reduceIte]
    refine ih (a + 1 * (i : Int) + 1) ?_
    show a + 1 * (i : Int) + 1 = a + 1 * ((i + 1 : Nat) : Int)
    omega
def okb (x : Int) : Bool := decide ((97 ≤ x ∧ x ≤ 122) ∨ (48 ≤ x ∧ x ≤ 57) ∨ x = 45)
def okbs (s : ByteArray) (i : Nat) : Bool := ((List.range s.size).drop i).all fun j => okb (bt s (j : Int))
def labv (s : ByteArray) : Bool := decide (1 ≤ s.size ∧ s.size ≤ 20) && okbs s 0
theorem okbs_end (s : ByteArray) : okbs s s.size = true := by
  unfold okbs
  rw [List.drop_of_length_le (by simp)]
  rfl
theorem okbs_step (s : ByteArray) (i : Nat) (h : i < s.size) : okbs s i = (okb (bt s (i : Int)) && okbs s (i + 1)) := by
  unfold okbs
  rw [drop_cons (List.range s.size) i (by simpa using h), List.getElem_range]
  rfl
theorem spec_l10Label_l0 (s : ByteArray) (hs : s.size ≤ 1000000000) (k : Nat) (hk : s.size < k) : spec_l10Label.l0 k s 0 = some (okbs s 0) := by
  refine loop_up (fun k (_ : Unit) i => spec_l10Label.l0 k s i) s.size 0 (fun _ i => okbs s i) (fun _ _ => True) ?_ ?_ k () 0 0 rfl (Nat.zero_le _) trivial (by omega)
  · intro k _ _ _
    rw [spec_l10Label.l0, if_neg (by omega), okbs_end]
  · intro k _ i hi _ _ ih
    have ih' := ih () trivial
    have ei : wrap64 ((i : Int) + 1) = (i : Int) + 1 := w64 (by omega) (by omega)
    have e : ∀ b, okb (bt s (i : Int)) = b → okbs s i = (b && okbs s (i + 1)) := fun b hb => by rw [okbs_step s i hi, hb]
    rw [spec_l10Label.l0, if_pos (by omega), if_pos (by omega), ei, ih']
    unfold okb at e
    generalize bt s (i : Int) = x at *
    by_cases h : (97 ≤ x ∧ x ≤ 122) ∨ (48 ≤ x ∧ x ≤ 57) ∨ x = 45
    · rw [e true (decide_eq_true h), Bool.true_and]
      repeat' split
      all_goals first | rfl | (exfalso; omega)
    · rw [e false (decide_eq_false h), Bool.false_and]
      repeat' split
      all_goals first | rfl | (exfalso; omega)
theorem spec_l10Label_at (s : ByteArray) (hs : s.size ≤ 1000000000) (k : Nat) (hk : s.size + 1 < k) : spec_l10Label.f k s = some (labv s) := by
  obtain ⟨k, rfl⟩ : ∃ m, k = m + 1 := ⟨k - 1, by omega⟩
  unfold spec_l10Label.f labv
  by_cases h1 : (s.size : Int) < 1
  · rw [if_pos h1, spec_l10Label.j0, if_pos rfl, decide_eq_false (by omega), Bool.false_and]
  · rw [if_neg h1, spec_l10Label.j0]
    by_cases h2 : (s.size : Int) > 20
    · rw [if_pos (decide_eq_true h2), decide_eq_false (by omega), Bool.false_and]
    · rw [if_neg (by simpa using h2), spec_l10Label_l0 s hs k (by omega), decide_eq_true (by omega), Bool.true_and]
theorem impl_isLabel_at (s : ByteArray) (hs : s.size ≤ 1000000000) (k : Nat) (hk : s.size < k) : impl_isLabel.f k s = some (labv s) := by
  unfold impl_isLabel.f labv
  rw [Bool.and_comm]
  refine loop_up (fun k (_ : Unit) i => impl_isLabel.l0 k s (s.size : Int) i) s.size 0 (fun _ i => okbs s i && decide (1 ≤ s.size ∧ s.size ≤ 20)) (fun _ _ => True) ?_ ?_ k () 0 0 rfl (Nat.zero_le _) trivial (by omega)
  · intro k _ _ _
    rw [impl_isLabel.l0, if_neg (by omega), impl_in_at, okbs_end, Bool.true_and]
    simp only [Option.bind_some]
    exact congrArg some (decide_eq_decide.mpr (by omega))
  · intro k _ i hi _ _ ih
    have ih' := ih () trivial
    have ei : wrap64 ((i : Int) + 1) = (i : Int) + 1 := w64 (by omega) (by omega)
    have e : ∀ b, okb (bt s (i : Int)) = b → okbs s i = (b && okbs s (i + 1)) := fun b hb => by rw [okbs_step s i hi, hb]
    rw [impl_isLabel.l0, if_pos (by omega), if_pos (by omega), if_pos (by omega), ei, ih']
    unfold okb at e
    generalize bt s (i : Int) = x at *
    by_cases h : (97 ≤ x ∧ x ≤ 122) ∨ (48 ≤ x ∧ x ≤ 57) ∨ x = 45
    · rw [e true (decide_eq_true h), Bool.true_and]
      repeat' split
      all_goals first | rfl | (exfalso; omega)
    · rw [e false (decide_eq_false h), Bool.false_and, Bool.false_and]
      repeat' split
      all_goals first | rfl | (exfalso; omega)
theorem size_strOfNums (l : List Int) : (strOfNums l).size = l.length := by
  simp [strOfNums, ByteArray.size]
theorem read_both (x : List Int) (hx : ∀ y ∈ x, 0 ≤ y ∧ y ≤ 255) (hl : x.length ≤ 1048576) (m : Nat) : ∀ (k : Nat) (p j : Int) (ls : List ByteArray) (nx nx' : Int), (6 - ls.length) + (5 - j.toNat) + 1 = m → ls.length ≤ 6 → 0 ≤ j → j ≤ 5 → 0 ≤ p → p ≤ 1048600 → (1 ≤ j → nx = nx') → 10 * m + 100 ≤ k →
    ∃ c ls' n', spec_l10Read.l0 k x p (x.length : Int) j ls nx = some (ls', n', c) ∧ impl_ReadName.l0 k x p j 0 ls nx' = some (if c = 0 then (0, ls', n') else (c, [], 0)) ∧ ls'.length ≤ 6 := by
  induction m with
  | zero =>
    intro k p j ls nx nx' hm
    omega
  | succ m ih =>
    intro k p j ls nx nx' hm hls hj0 hj5 hp0 hp1 hnx hk
    obtain ⟨k, rfl⟩ : ∃ z, k = z + 2 := ⟨k - 2, by omega⟩
    rw [spec_l10Read.l0, impl_ReadName.l0]
    by_cases h1 : p < (x.length : Int)
    rotate_left
    · rw [if_neg h1, if_neg h1]
      exact ⟨5, ls, nx, rfl, rfl, hls⟩
    rw [if_pos h1, if_pos h1, if_pos hp0, if_pos h1, if_pos hp0]
    have hb : ∀ q : Int, 0 ≤ q → q < x.length → 0 ≤ rd x q ∧ rd x q ≤ 255 := by
      intro q h0 h1
      have e : rd x q = x[q.toNat]'(by omega) := by
        simp only [rd, List.getD_eq_getElem?_getD]
        rw [List.getElem?_eq_getElem (by omega)]
        rfl
      rw [e]
      exact hx _ (List.getElem_mem _)
    have b0 := hb p hp0 h1
    have e1 : wrap64 (p + 1) = p + 1 := w64 (by omega) (by omega)
    have e2 : wrap64 (p + 2) = p + 2 := w64 (by omega) (by omega)
    have eb : wrap64 (rd x p) = rd x p := w64 (by omega) (by omega)
    rw [eb, e1]
    have hb1 : p + 1 < (x.length : Int) → 0 ≤ rd x (p + 1) ∧ rd x (p + 1) ≤ 255 := fun h => hb (p + 1) (by omega) h
    generalize rd x p = b at *
    by_cases hz : b = 0
    · rw [if_pos hz, if_pos hz]
      by_cases hj : j = 0
      · rw [if_pos hj, if_pos hj]
        exact ⟨0, ls, p + 1, rfl, rfl, hls⟩
      · rw [if_neg hj, if_neg hj]
        exact ⟨0, ls, nx, rfl, by rw [hnx (by omega)]; rfl, hls⟩
    rw [if_neg hz, if_neg hz]
    by_cases hs : b ≤ 20
    · rw [if_neg (by omega), if_pos hs, if_pos hs]
      have e3 : wrap64 (p + 1 + b) = p + 1 + b := w64 (by omega) (by omega)
      rw [e3]
      by_cases hn : p + 1 + b ≤ (x.length : Int)
      · rw [if_pos hn, if_pos (by omega), if_pos (by omega), if_pos hn, if_neg (by omega), if_pos (by omega), if_pos (by omega), if_pos hn]
        have hsz : (strOfNums ((x.take (p + 1 + b).toNat).drop (p + 1).toNat)).size ≤ 20 := by
          rw [size_strOfNums, List.length_drop, List.length_take]
          omega
        rw [spec_l10Label_at _ (by omega) _ (by omega), impl_isLabel_at _ (by omega) _ (by omega)]
        simp only [Option.bind_some, spec_l10Read.j2, impl_ReadName.j1, e1, e3]
        cases labv (strOfNums ((x.take (p + 1 + b).toNat).drop (p + 1).toNat)) with
        | false =>
          refine ⟨5, ls, nx, ?_, ?_, hls⟩
          · rfl
          · rfl
        | true =>
          simp only [Bool.not_true, Bool.false_eq_true, ↓reduceIte]
          by_cases h6 : (ls.length : Int) ≥ 6
          · rw [if_pos h6, if_pos (by omega)]
            exact ⟨2, ls, nx, rfl, rfl, hls⟩
          · rw [if_neg h6, if_pos (by omega), if_pos (by omega), if_pos hn, if_pos (by omega), if_neg (by omega), if_pos (by omega), if_pos (by omega), if_pos hn, if_pos (by omega)]
            exact ih k (p + 1 + b) j _ nx nx' (by simp; omega) (by simp; omega) hj0 hj5 (by omega) (by omega) hnx (by omega)
      · rw [if_neg hn, if_pos (by omega)]
        refine ⟨5, ls, nx, ?_, ?_, hls⟩
        · rfl
        · rfl
    · by_cases hg : b ≥ 192
      · rw [if_pos hg, if_neg hs, if_pos hg]
        by_cases hq : p + 1 ≥ (x.length : Int)
        · have t2 : ¬ p + 1 < (x.length : Int) := by omega
          rw [if_pos hq, decide_eq_false t2]
          refine ⟨5, ls, nx, rfl, ?_, hls⟩
          rfl
        · have t1 : 0 ≤ p + 1 := by omega
          have t2 : p + 1 < (x.length : Int) := by omega
          have b1 := hb1 t2
          have e4 : wrap64 (rd x (p + 1)) = rd x (p + 1) := w64 (by omega) (by omega)
          have e5 : wrap64 (b - 192) = b - 192 := w64 (by omega) (by omega)
          have e6 : wrap64 ((b - 192) * 256) = (b - 192) * 256 := w64 (by omega) (by omega)
          have e7 : wrap64 (j + 1) = j + 1 := w64 (by omega) (by omega)
          have e8 : wrap64 ((b - 192) * 256 + rd x (p + 1)) = (b - 192) * 256 + rd x (p + 1) := w64 (by omega) (by omega)
          rw [if_neg hq, if_pos t1, if_pos t2, decide_eq_true t2]
          have g0 : 0 ≤ (b - 192) * 256 + rd x (p + 1) := by omega
          have g1 : (b - 192) * 256 + rd x (p + 1) ≤ 1048600 := by omega
          simp only [impl_ReadName.j2, spec_l10Read.j1, e1, e2, e4, e5, e6, e7, e8, t1, t2, ↓reduceIte]
          clear e1 e2 e4 e5 e6 e7 e8 hb hb1
          generalize (b - 192) * 256 + rd x (p + 1) = t at *
          by_cases h2 : t ≥ p
          · simp only [h2, ↓reduceIte]
            refine ⟨5, ls, nx, rfl, ?_, hls⟩
            by_cases hj : j = 0 <;> simp [hj]
          · simp only [h2, ↓reduceIte]
            by_cases h3 : j + 1 > 5
            · simp only [h3, decide_true, ↓reduceIte]
              refine ⟨5, ls, nx, rfl, ?_, hls⟩
              by_cases hj : j = 0 <;> simp [hj]
            · simp only [h3, decide_false, Bool.false_eq_true, ↓reduceIte]
              by_cases hj : j = 0
              · have hj1 : j + 1 = 1 := by omega
                rw [if_pos hj1, if_pos hj]
                exact ih k t (j + 1) ls (p + 2) (p + 2) (by omega) hls (by omega) (by omega) (by omega) (by omega) (fun _ => rfl) (by omega)
              · have hj1 : ¬ j + 1 = 1 := by omega
                rw [if_neg hj1, if_neg hj]
                exact ih k t (j + 1) ls nx nx' (by omega) hls (by omega) (by omega) (by omega) (by omega) (fun _ => hnx (by omega)) (by omega)
      · rw [if_neg hg, if_neg hs, if_neg hs, if_neg hg]
        refine ⟨5, ls, nx, ?_, ?_, hls⟩
        · rfl
        · rfl
def encv (l : List ByteArray) : List Int := l.flatMap fun s => ((s.size : Int) % 256) :: bytesOf s
theorem encv_cons (s : ByteArray) (l : List ByteArray) : encv (s :: l) = (((s.size : Int) % 256) :: bytesOf s) ++ encv l := rfl
theorem labv_size {s : ByteArray} (h : labv s = true) : 1 ≤ s.size ∧ s.size ≤ 20 := by
  unfold labv at h
  rw [Bool.and_eq_true, decide_eq_true_eq] at h
  exact h.1
theorem encv_len (l : List ByteArray) (h : l.all labv = true) : (encv l).length ≤ 21 * l.length := by
  induction l with
  | nil => simp [encv]
  | cons s t ih =>
    rw [List.all_cons, Bool.and_eq_true] at h
    have h1 := labv_size h.1
    have h2 := ih h.2
    rw [encv_cons, List.length_append, List.length_cons, bytesOf_length, List.length_cons]
    omega
theorem spec_l10Name_at (l : List ByteArray) (hl : l.length ≤ 6) (ha : l.all labv = true) (k : Nat) (hk : 20 ≤ k) : spec_l10Name.f k l = some (encv l ++ [0]) := by
  unfold spec_l10Name.f
  have key := loop_up (fun k (x : List Int) i => spec_l10Name.l0 k l x i) l.length 0 (fun x i => x ++ encv (l.drop i) ++ [0]) (fun x i => x.length ≤ 21 * i) ?_ ?_ k [] 0 0 rfl (Nat.zero_le _) (by simp) (by omega)
  · simpa using key
  · intro k x hx _
    rw [spec_l10Name.l0, if_neg (by omega), if_pos (by omega), List.drop_length]
    simp [encv]
  · intro k x i hi hx _ ih
    have ei : wrap64 ((i : Int) + 1) = (i : Int) + 1 := w64 (by omega) (by omega)
    have hy : rdOf ByteArray.empty l (i : Int) = l[i] := by simp only [rdOf, Int.toNat_natCast, getD_at _ _ _ hi]
    have hz := labv_size (List.all_eq_true.mp ha l[i] (List.getElem_mem _))
    rw [spec_l10Name.l0, if_pos (by omega), if_pos (by omega), hy, if_pos (by omega), ei, ih _ (by rw [List.length_append, List.length_append, bytesOf_length, List.length_singleton]; omega), drop_cons l i hi, encv_cons]
    simp
theorem impl_EncodeName_l0 (l : List ByteArray) (hl : l.length ≤ 6) (hs : ∀ s ∈ l, s.size ≤ 1048576) (k : Nat) (hk : 1048600 ≤ k) : impl_EncodeName.l0 k [] l (l.length : Int) 0 = some (if l.all labv = true then (0, encv l ++ [0]) else (5, [])) := by
  have key := loop_up (fun k (x : List Int) i => impl_EncodeName.l0 k x l (l.length : Int) i) l.length 1048580 (fun x i => if (l.drop i).all labv = true then (0, x ++ encv (l.drop i) ++ [0]) else (5, [])) (fun x i => x.length ≤ 21 * i) ?_ ?_ k [] 0 0 rfl (Nat.zero_le _) (by simp) (by omega)
  · simpa using key
  · intro k x hx _
    rw [impl_EncodeName.l0, if_neg (by omega), if_pos (by omega), List.drop_length]
    simp [encv]
  · intro k x i hi hx hm ih
    have ei : wrap64 ((i : Int) + 1) = (i : Int) + 1 := w64 (by omega) (by omega)
    have hy : rdOf ByteArray.empty l (i : Int) = l[i] := by simp only [rdOf, Int.toNat_natCast, getD_at _ _ _ hi]
    have hz := hs l[i] (List.getElem_mem _)
    rw [impl_EncodeName.l0, if_pos (by omega), if_pos (by omega), if_pos (by omega), hy, impl_isLabel_at _ (by omega) _ (by omega), ei, drop_cons l i hi]
    simp only [Option.bind_some, List.all_cons]
    by_cases hb : labv l[i] = true
    · have h1 := labv_size hb
      rw [if_pos hb, if_pos (by omega), if_pos (by rw [List.length_append, List.length_singleton]; omega), ih _ (by rw [List.length_append, List.length_append, bytesOf_length, List.length_singleton]; omega), encv_cons]
      simp [hb]
    · simp [hb, impl_noBytes.f]
def env (l : List ByteArray) : Int × List Int := if l.length > 6 then (2, []) else if l.all labv = true then (0, encv l ++ [0]) else (5, [])
theorem env_len (l : List ByteArray) : (env l).2.length ≤ 200 := by
  unfold env
  split
  · simp
  · split
    · rename_i h1 h2
      have := encv_len l h2
      simp only [List.length_append, List.length_singleton]
      omega
    · simp
theorem impl_EncodeName_at (l : List ByteArray) (hs : ∀ s ∈ l, s.size ≤ 1048576) (k : Nat) (hk : 1048600 ≤ k) : impl_EncodeName.f k l = some (env l) := by
  unfold impl_EncodeName.f env
  by_cases h6 : l.length > 6
  · rw [if_pos (by omega), if_pos h6]
    rfl
  · rw [if_neg (by omega), if_neg h6, impl_EncodeName_l0 l (by omega) hs k hk]
def pkl : Nat → Int → List Int → List Int
  | 0, _, s => s
  | j + 1, x, s => pkl j (wrap64 (Int.tdiv x 256)) (s.set j ((Int.tmod x 256) % 256))
theorem pkl_len : ∀ (j : Nat) (x : Int) (s : List Int), (pkl j x s).length = s.length
  | 0, _, _ => rfl
  | j + 1, x, s => by rw [pkl, pkl_len j, List.length_set]
def pk (n : Nat) (x : Int) : List Int := pkl n x (List.replicate n 0)
theorem pk_len (n : Nat) (x : Int) : (pk n x).length = n := by rw [pk, pkl_len, List.length_replicate]
theorem pk_one (x : Int) (h : 0 ≤ x) : pk 1 x = [x % 256] := by
  show [(Int.tmod x 256) % 256] = [x % 256]
  rw [Int.tmod_eq_emod_of_nonneg h]
  congr 1
  omega
theorem spec_l1Pack_l0 : ∀ (j k : Nat) (x : Int) (s : List Int), j ≤ s.length → s.length ≤ 1000 → j < k → spec_l1Pack.l0 k x s ((j : Int) - 1) = some (pkl j x s)
  | 0, k, x, s, _, _, hk => by
    obtain ⟨k, rfl⟩ : ∃ z, k = z + 1 := ⟨k - 1, by omega⟩
    rw [spec_l1Pack.l0, if_neg (by omega)]
    rfl
  | j + 1, k, x, s, hj, hs, hk => by
    obtain ⟨k, rfl⟩ : ∃ z, k = z + 1 := ⟨k - 1, by omega⟩
    have e : ((j + 1 : Nat) : Int) - 1 = (j : Int) := by omega
    rw [e, spec_l1Pack.l0, if_pos (by omega), if_pos (by omega), if_pos (by omega), w64 (x := (j : Int) - 1) (by omega) (by omega), Int.toNat_natCast, spec_l1Pack_l0 j k _ _ (by rw [List.length_set]; omega) (by rw [List.length_set]; omega) (by omega)]
    rfl
theorem spec_l1Pack_at (n : Nat) (hn : n ≤ 100) (x : Int) (k : Nat) (hk : n < k) : spec_l1Pack.f k x (n : Int) = some (pk n x) := by
  unfold spec_l1Pack.f
  rw [if_pos (by omega), if_pos (by omega), w64 (by omega) (by omega), Int.toNat_natCast, spec_l1Pack_l0 n k x _ (by simp) (by simp; omega) hk]
  rfl
theorem impl_word_l0 : ∀ (j k : Nat) (x : Int) (s : List Int), j ≤ s.length → s.length ≤ 1000 → j < k → impl_word.l0 k x s ((j : Int) - 1) = some (pkl j x s)
  | 0, k, x, s, _, _, hk => by
    obtain ⟨k, rfl⟩ : ∃ z, k = z + 1 := ⟨k - 1, by omega⟩
    rw [impl_word.l0, if_neg (by omega)]
    rfl
  | j + 1, k, x, s, hj, hs, hk => by
    obtain ⟨k, rfl⟩ : ∃ z, k = z + 1 := ⟨k - 1, by omega⟩
    have e : ((j + 1 : Nat) : Int) - 1 = (j : Int) := by omega
    rw [e, impl_word.l0, if_pos (by omega), if_pos (by omega), if_pos (by omega), w64 (x := (j : Int) - 1) (by omega) (by omega), Int.toNat_natCast, impl_word_l0 j k _ _ (by rw [List.length_set]; omega) (by rw [List.length_set]; omega) (by omega)]
    rfl
theorem impl_word_at (n : Nat) (hn : n ≤ 100) (x : Int) (k : Nat) (hk : n < k) : impl_word.f k x (n : Int) = some (pk n x) := by
  unfold impl_word.f
  rw [if_pos (by omega), if_pos (by omega), w64 (by omega) (by omega), Int.toNat_natCast, impl_word_l0 n k x _ (by simp) (by simp; omega) hk]
  rfl
theorem Concat_l1 (l : List (List Int)) (hl : l.length ≤ 100) (hs : ∀ r ∈ l, r.length ≤ 10000) (m : Nat) : ∀ (k i : Nat) (s : List Int), l.length - i = m → i ≤ l.length → m < k → s.length ≤ 10000 * i → slices_Concat_byte_byte.l1 k s l (l.length : Int) (i : Int) = some (s ++ (l.drop i).flatten) := by
  induction m with
  | zero =>
    intro k i s hm hi hk hb
    obtain ⟨k, rfl⟩ : ∃ z, k = z + 1 := ⟨k - 1, by omega⟩
    obtain rfl : i = l.length := by omega
    rw [slices_Concat_byte_byte.l1, if_neg (by omega), List.drop_length, List.flatten_nil, List.append_nil]
  | succ m ih =>
    intro k i s hm hi hk hb
    obtain ⟨k, rfl⟩ : ∃ z, k = z + 1 := ⟨k - 1, by omega⟩
    have hlt : i < l.length := by omega
    have hy : rd_L2 l (i : Int) = l[i] := by simp only [rd_L2, Int.toNat_natCast, getD_at _ _ _ hlt]
    have hr := hs _ (List.getElem_mem hlt)
    have e2 : ((i + 1 : Nat) : Int) = (i : Int) + 1 := by omega
    rw [slices_Concat_byte_byte.l1, if_pos (by omega), if_pos (by omega), if_pos (by omega), hy, if_pos (by omega), w64 (by omega) (by omega), ← e2, ih k (i + 1) _ (by omega) (by omega) (by omega) (by rw [List.length_append]; omega), drop_cons l i hlt, List.flatten_cons, List.append_assoc]
theorem Concat_l0 (l : List (List Int)) (hl : l.length ≤ 100) (hs : ∀ r ∈ l, r.length ≤ 10000) (m : Nat) : ∀ (k i : Nat) (a : Int), l.length - i = m → i ≤ l.length → m + l.length + 2 < k → 0 ≤ a → a ≤ 10000 * i → slices_Concat_byte_byte.l0 k l a l (l.length : Int) (i : Int) = some l.flatten := by
  induction m with
  | zero =>
    intro k i a hm hi hk h0 hb
    obtain ⟨k, rfl⟩ : ∃ z, k = z + 1 := ⟨k - 1, by omega⟩
    obtain rfl : i = l.length := by omega
    unfold slices_Concat_byte_byte.l0 slices_Grow_byte_byte.f
    rw [if_neg (by omega), if_pos (by rfl), if_pos (by omega), if_pos (by omega), Option.bind_some]
    have e := Concat_l1 l hl hs _ k 0 [] rfl (by omega) (by omega) (by simp)
    rw [show ((0 : Nat) : Int) = 0 from rfl] at e
    rw [e, List.drop_zero, List.nil_append]
  | succ m ih =>
    intro k i a hm hi hk h0 hb
    obtain ⟨k, rfl⟩ : ∃ z, k = z + 1 := ⟨k - 1, by omega⟩
    have hlt : i < l.length := by omega
    have hy : rd_L2 l (i : Int) = l[i] := by simp only [rd_L2, Int.toNat_natCast, getD_at _ _ _ hlt]
    have hr := hs _ (List.getElem_mem hlt)
    have e2 : ((i + 1 : Nat) : Int) = (i : Int) + 1 := by omega
    rw [slices_Concat_byte_byte.l0, if_pos (by omega), if_pos (by omega), if_pos (by omega), hy, w64 (x := a + (l[i].length : Int)) (by omega) (by omega), if_neg (by omega), w64 (by omega) (by omega), ← e2, ih k (i + 1) _ (by omega) (by omega) (by omega) (by omega) (by omega)]
theorem Concat_at (l : List (List Int)) (hl : l.length ≤ 100) (hs : ∀ r ∈ l, r.length ≤ 10000) (k : Nat) (hk : 300 ≤ k) : slices_Concat_byte_byte.f k l = some l.flatten := by
  unfold slices_Concat_byte_byte.f
  have e := Concat_l0 l hl hs _ k 0 0 rfl (by omega) (by omega) (by omega) (by omega)
  exact e
theorem impl_shorts_at (l : List Int) (hl : l.length ≤ 10) (k : Nat) (hk : 50 ≤ k) : impl_shorts.f k l = some (l.flatMap (pk 2)) := by
  unfold impl_shorts.f
  have key := loop_up (fun k (x : List Int) i => impl_shorts.l0 k x l (l.length : Int) i) l.length 10 (fun x i => x ++ (l.drop i).flatMap (pk 2)) (fun x i => x.length ≤ 2 * i) ?_ ?_ k [] 0 0 rfl (Nat.zero_le _) (by simp) (by omega)
  · simpa using key
  · intro k x hx _
    rw [impl_shorts.l0, if_neg (by omega), List.drop_length]
    simp
  · intro k x i hi hx hm ih
    have ei : wrap64 ((i : Int) + 1) = (i : Int) + 1 := w64 (by omega) (by omega)
    have hy : rd l (i : Int) = l[i] := by simp only [rd, Int.toNat_natCast, getD_at _ _ _ hi]
    have ew := impl_word_at 2 (by omega) l[i] k (by omega)
    have e2 : ((2 : Nat) : Int) = 2 := rfl
    rw [e2] at ew
    rw [impl_shorts.l0, if_pos (by omega), if_pos (by omega), if_pos (by omega), hy, ew, Option.bind_some, pk_len, if_pos (by omega), ei, ih _ (by rw [List.length_append, pk_len]; omega), drop_cons l i hi, List.flatMap_cons, List.append_assoc]
theorem pk2_0 : pk 2 0 = [0, 0] := by
  show [(Int.tmod (wrap64 (Int.tdiv 0 256)) 256) % 256, (Int.tmod 0 256) % 256] = _
  rw [show Int.tdiv 0 256 = 0 from rfl, w64 (by omega) (by omega)]
  rfl
theorem pk2_1 : pk 2 1 = [0, 1] := by
  show [(Int.tmod (wrap64 (Int.tdiv 1 256)) 256) % 256, (Int.tmod 1 256) % 256] = _
  rw [show Int.tdiv 1 256 = 0 from rfl, w64 (by omega) (by omega)]
  rfl
def qv (a : Int) (l : List ByteArray) (b : Int) : List Int := pk 2 a ++ ([1, 0, 0, 1, 0, 0, 0, 0, 0, 0] ++ (encv l ++ [0] ++ (pk 2 b ++ [0, 1])))
theorem qv_len (a : Int) (l : List ByteArray) (b : Int) : (qv a l b).length = 17 + (encv l).length := by
  simp only [qv, List.length_append, List.length_cons, List.length_nil, pk_len]
  omega
theorem spec_l10Query_at (a : Int) (l : List ByteArray) (b : Int) (hl : l.length ≤ 6) (ha : l.all labv = true) (k : Nat) (hk : 50 ≤ k) : spec_l10Query.f k a l b = some (qv a l b) := by
  have e2 : ∀ x, spec_l10Pair.f k x = some (pk 2 x) := fun x => by
    unfold spec_l10Pair.f
    have := spec_l1Pack_at 2 (by omega) x k (by omega)
    have e2 : ((2 : Nat) : Int) = 2 := rfl
    rw [e2] at this
    rw [this]
    rfl
  have hn := encv_len l ha
  have p2 : ∀ x, (pk 2 x).length = 2 := pk_len 2
  unfold spec_l10Query.f qv
  rw [spec_l10Name_at l hl ha k (by omega)]
  simp only [e2, Option.bind_some, List.length_append, List.length_cons, List.length_nil, p2]
  rw [if_pos (by omega), if_pos (by omega), if_pos (by omega), if_pos (by omega)]
  simp only [List.append_assoc]
def pqr (a : Int) (l : List ByteArray) (b : Int) : Int × List Int := if (0 ≤ a ∧ a ≤ 65535) ∧ 0 ≤ b ∧ b ≤ 65535 then (if l.length > 6 then (2, []) else if l.all labv = true then (0, qv a l b) else (5, [])) else (3, [])
theorem pqr_len (a : Int) (l : List ByteArray) (b : Int) : (pqr a l b).2.length ≤ 200 := by
  unfold pqr
  split
  · split
    · simp
    · split
      · rename_i h1 h2
        have := encv_len l h2
        have := qv_len a l b
        show (qv a l b).length ≤ 200
        omega
      · simp
  · simp
theorem impl_PackQuery_at (a : Int) (l : List ByteArray) (b : Int) (hs : ∀ s ∈ l, s.size ≤ 1048576) (k : Nat) (hk : 1048700 ≤ k) : impl_PackQuery.f k a l b = some (pqr a l b) := by
  obtain ⟨k, rfl⟩ : ∃ z, k = z + 1 := ⟨k - 1, by omega⟩
  unfold impl_PackQuery.f pqr
  simp only [impl_in_at, Option.bind_some, decide_eq_true_eq]
  by_cases h1 : 0 ≤ a ∧ a ≤ 65535
  · rw [if_pos h1]
    by_cases h2 : 0 ≤ b ∧ b ≤ 65535
    · rw [if_pos (show (0 ≤ a ∧ a ≤ 65535) ∧ 0 ≤ b ∧ b ≤ 65535 from ⟨h1, h2⟩), impl_PackQuery.j0, if_neg (by simp [h2]), impl_EncodeName_at l hs k (by omega)]
      simp only [Option.bind_some]
      unfold env
      by_cases h6 : l.length > 6
      · rw [if_pos h6, if_pos h6]
        rfl
      · rw [if_neg h6, if_neg h6]
        by_cases ha : l.all labv = true
        · have hn := encv_len l ha
          rw [if_pos ha, if_pos ha, if_pos rfl, impl_shorts_at _ (by simp) _ (by omega), impl_shorts_at _ (by simp) _ (by omega), impl_shorts_at _ (by simp) _ (by omega)]
          simp only [Option.bind_some]
          rw [Concat_at _ (by simp) (by simp [pk_len, pk2_0, pk2_1]; omega) k (by omega)]
          simp [qv, pk2_0, pk2_1]
        · rw [if_neg ha, if_neg ha]
          rfl
    · rw [if_neg (fun h : (0 ≤ a ∧ a ≤ 65535) ∧ 0 ≤ b ∧ b ≤ 65535 => h2 h.2), impl_PackQuery.j0, if_pos (by simp [h2])]
      rfl
  · rw [if_neg h1, if_neg (fun h : (0 ≤ a ∧ a ≤ 65535) ∧ 0 ≤ b ∧ b ≤ 65535 => h1 h.1), impl_PackQuery.j0, if_pos rfl]
    rfl
theorem eqQuery_self (a : Int) (l : List ByteArray) (b : Int) (hl : l.length ≤ 1000000000) (k : Nat) (hk : l.length < k) : laws_eqQuery.f k a l b a l b = some true := by
  unfold laws_eqQuery.f
  rw [eqStringS_self l hl k hk]
  simp
theorem markQuery_at (a : Int) (l : List ByteArray) (b : Int) (hl : l.length ≤ 1000000000) (k : Nat) (hk : l.length + 200 < k) : laws_markQuery.f k a l b 1 = some (1 + 1 * (l.length : Int), marks mkT 1 1 l.length) := by
  unfold laws_markQuery.f
  rw [markStringS_at l 1 (by omega) (by omega) hl k hk]
  rfl
theorem rd_range (x : List Int) (hx : ∀ y ∈ x, 0 ≤ y ∧ y ≤ 255) (q : Int) (h0 : 0 ≤ q) (h1 : q < x.length) : 0 ≤ rd x q ∧ rd x q ≤ 255 := by
  have e : rd x q = x[q.toNat]'(by omega) := by
    simp only [rd, List.getD_eq_getElem?_getD]
    rw [List.getElem?_eq_getElem (by omega)]
    rfl
  rw [e]
  exact hx _ (List.getElem_mem _)
theorem read_lab (x : List Int) (hx : ∀ y ∈ x, 0 ≤ y ∧ y ≤ 255) (hl : x.length ≤ 1048576) (m : Nat) : ∀ (k : Nat) (p j : Int) (ls : List ByteArray) (nx : Int), (6 - ls.length) + (5 - j.toNat) + 1 = m → ls.length ≤ 6 → 0 ≤ j → j ≤ 5 → 0 ≤ p → p ≤ 1048600 → 10 * m + 100 ≤ k → ls.all labv = true → -1 ≤ nx → nx ≤ 2000000 →
    ∃ c ls' n', spec_l10Read.l0 k x p (x.length : Int) j ls nx = some (ls', n', c) ∧ ls'.all labv = true ∧ -1 ≤ n' ∧ n' ≤ 2000000 := by
  induction m with
  | zero =>
    intro k p j ls nx hm
    omega
  | succ m ih =>
    intro k p j ls nx hm hls hj0 hj5 hp0 hp1 hk ha hn0 hn1
    obtain ⟨k, rfl⟩ : ∃ z, k = z + 2 := ⟨k - 2, by omega⟩
    rw [spec_l10Read.l0]
    by_cases h1 : p < (x.length : Int)
    rotate_left
    · rw [if_neg h1]
      exact ⟨5, ls, nx, rfl, ha, hn0, hn1⟩
    rw [if_pos h1, if_pos hp0, if_pos h1]
    have b0 := rd_range x hx p hp0 h1
    have e1 : wrap64 (p + 1) = p + 1 := w64 (by omega) (by omega)
    have e2 : wrap64 (p + 2) = p + 2 := w64 (by omega) (by omega)
    have eb : wrap64 (rd x p) = rd x p := w64 (by omega) (by omega)
    rw [eb, e1]
    have hb1 : p + 1 < (x.length : Int) → 0 ≤ rd x (p + 1) ∧ rd x (p + 1) ≤ 255 := fun h => rd_range x hx (p + 1) (by omega) h
    generalize rd x p = b at *
    by_cases hz : b = 0
    · rw [if_pos hz]
      by_cases hj : j = 0
      · rw [if_pos hj]
        exact ⟨0, ls, p + 1, rfl, ha, by omega, by omega⟩
      · rw [if_neg hj]
        exact ⟨0, ls, nx, rfl, ha, hn0, hn1⟩
    rw [if_neg hz]
    by_cases hs : b ≤ 20
    · rw [if_neg (by omega), if_pos hs]
      have e3 : wrap64 (p + 1 + b) = p + 1 + b := w64 (by omega) (by omega)
      rw [e3]
      by_cases hn : p + 1 + b ≤ (x.length : Int)
      · rw [if_pos hn, if_pos (by omega), if_pos (by omega), if_pos hn]
        have hsz : (strOfNums ((x.take (p + 1 + b).toNat).drop (p + 1).toNat)).size ≤ 20 := by
          rw [size_strOfNums, List.length_drop, List.length_take]
          omega
        rw [spec_l10Label_at _ (by omega) _ (by omega)]
        simp only [Option.bind_some, spec_l10Read.j2, e1, e3]
        cases hv : labv (strOfNums ((x.take (p + 1 + b).toNat).drop (p + 1).toNat)) with
        | false =>
          exact ⟨5, ls, nx, rfl, ha, hn0, hn1⟩
        | true =>
          simp only [↓reduceIte]
          by_cases h6 : (ls.length : Int) ≥ 6
          · rw [if_pos h6]
            exact ⟨2, ls, nx, rfl, ha, hn0, hn1⟩
          · rw [if_neg h6, if_pos (by omega), if_pos (by omega), if_pos hn, if_pos (by omega)]
            exact ih k (p + 1 + b) j _ nx (by simp; omega) (by simp; omega) hj0 hj5 (by omega) (by omega) (by omega) (by rw [List.all_append, ha, List.all_cons, hv]; rfl) hn0 hn1
      · rw [if_neg hn]
        exact ⟨5, ls, nx, rfl, ha, hn0, hn1⟩
    · by_cases hg : b ≥ 192
      · rw [if_pos hg]
        by_cases hq : p + 1 ≥ (x.length : Int)
        · rw [if_pos hq]
          exact ⟨5, ls, nx, rfl, ha, hn0, hn1⟩
        · have t1 : 0 ≤ p + 1 := by omega
          have t2 : p + 1 < (x.length : Int) := by omega
          have b1 := hb1 t2
          have e4 : wrap64 (rd x (p + 1)) = rd x (p + 1) := w64 (by omega) (by omega)
          have e5 : wrap64 (b - 192) = b - 192 := w64 (by omega) (by omega)
          have e6 : wrap64 ((b - 192) * 256) = (b - 192) * 256 := w64 (by omega) (by omega)
          have e7 : wrap64 (j + 1) = j + 1 := w64 (by omega) (by omega)
          have e8 : wrap64 ((b - 192) * 256 + rd x (p + 1)) = (b - 192) * 256 + rd x (p + 1) := w64 (by omega) (by omega)
          rw [if_neg hq, if_pos t1, if_pos t2]
          have g0 : 0 ≤ (b - 192) * 256 + rd x (p + 1) := by omega
          have g1 : (b - 192) * 256 + rd x (p + 1) ≤ 1048600 := by omega
          simp only [spec_l10Read.j1, e1, e2, e4, e5, e6, e7, e8]
          clear e1 e2 e4 e5 e6 e7 e8 hb1
          generalize (b - 192) * 256 + rd x (p + 1) = t at *
          by_cases h2 : t ≥ p
          · simp only [h2, ↓reduceIte]
            exact ⟨5, ls, nx, rfl, ha, hn0, hn1⟩
          · simp only [h2, ↓reduceIte]
            by_cases h3 : j + 1 > 5
            · simp only [h3, decide_true, ↓reduceIte]
              exact ⟨5, ls, nx, rfl, ha, hn0, hn1⟩
            · simp only [h3, decide_false, Bool.false_eq_true, ↓reduceIte]
              by_cases hj : j = 0
              · have hj1 : j + 1 = 1 := by omega
                rw [if_pos hj1]
                exact ih k t (j + 1) ls (p + 2) (by omega) hls (by omega) (by omega) (by omega) (by omega) (by omega) ha (by omega) (by omega)
              · have hj1 : ¬ j + 1 = 1 := by omega
                rw [if_neg hj1]
                exact ih k t (j + 1) ls nx (by omega) hls (by omega) (by omega) (by omega) (by omega) (by omega) ha hn0 hn1
      · rw [if_neg hg, if_neg hs]
        exact ⟨5, ls, nx, rfl, ha, hn0, hn1⟩
theorem strOf_bytesOf (s : ByteArray) : strOfNums (bytesOf s) = s := by
  apply ByteArray.ext
  apply Array.ext'
  show ((s.data.toList.map fun b => (b.toNat : Int)).map fun n => UInt8.ofNat n.toNat) = s.data.toList
  rw [List.map_map]
  conv => rhs; rw [← List.map_id s.data.toList]
  refine List.map_congr_left fun b _ => ?_
  simp
theorem read_plain (x : List Int) (hl : x.length ≤ 1048576) (rest : List Int) (ts : List ByteArray) : ∀ (k p : Nat) (ls : List ByteArray), ts.all labv = true → x.drop p = encv ts ++ 0 :: rest → ls.length + ts.length ≤ 6 → ts.length + 200 ≤ k → spec_l10Read.l0 (k + ts.length) x (p : Int) (x.length : Int) 0 ls (-1) = some (ls ++ ts, (p : Int) + (encv ts).length + 1, 0) := by
  induction ts with
  | nil =>
    intro k p ls ha hd h6 hk
    have hd' : x.drop p = 0 :: rest := by simpa [encv] using hd
    have hp : p < x.length := by
      have := congrArg List.length hd'
      simp at this
      omega
    have hy : rd x (p : Int) = 0 := by
      simp only [rd, Int.toNat_natCast, getD_at _ _ _ hp]
      rw [drop_cons x p hp] at hd'
      exact (List.cons.inj hd').1
    obtain ⟨k, rfl⟩ : ∃ z, k = z + 1 := ⟨k - 1, by omega⟩
    show spec_l10Read.l0 (k + 1) x (p : Int) (x.length : Int) 0 ls (-1) = _
    rw [spec_l10Read.l0, if_pos (by omega), if_pos (by omega), if_pos (by omega), hy, if_pos (w64 (by omega) (by omega)), if_pos rfl, w64 (by omega) (by omega)]
    simp [encv]
  | cons s ts ih =>
    intro k p ls ha hd h6 hk
    rw [List.all_cons, Bool.and_eq_true] at ha
    obtain ⟨hs, ha⟩ := ha
    have hz := labv_size hs
    rw [encv_cons] at hd
    have hp : p < x.length := by
      have := congrArg List.length hd
      simp at this
      omega
    have hd2 := hd
    rw [drop_cons x p hp] at hd2
    have hd3 : x[p] = (s.size : Int) % 256 ∧ x.drop (p + 1) = bytesOf s ++ (encv ts ++ 0 :: rest) := by
      have := List.cons.inj hd2
      exact ⟨this.1, this.2.trans (List.append_assoc _ _ _)⟩
    have hy : rd x (p : Int) = s.size := by
      simp only [rd, Int.toNat_natCast, getD_at _ _ _ hp]
      rw [hd3.1]
      omega
    have hlen : p + 1 + s.size + (encv ts).length + 1 ≤ x.length := by
      have := congrArg List.length hd3.2
      simp [bytesOf_length] at this
      omega
    clear hd hd2
    obtain ⟨hd3a, hd3⟩ := hd3
    clear hd3a
    obtain ⟨z, hze⟩ : ∃ z : Nat, z = s.size := ⟨_, rfl⟩
    obtain ⟨w, hwe⟩ : ∃ w : Nat, w = (encv ts).length := ⟨_, rfl⟩
    obtain ⟨L, hLe⟩ : ∃ L : Nat, L = x.length := ⟨_, rfl⟩
    rw [← hze] at hz hy hlen
    rw [← hwe, ← hLe] at hlen
    rw [← hLe] at hp hl
    have t1 : ((p : Int) + 1).toNat = p + 1 := by omega
    have t2 : ((p : Int) + 1 + z).toNat = p + 1 + z := by omega
    have ecut : strOfNums ((x.take (p + 1 + z)).drop (p + 1)) = s := by
      rw [List.drop_take, hd3, show p + 1 + z - (p + 1) = (bytesOf s).length by rw [bytesOf_length, ← hze]; omega, List.take_left, strOf_bytesOf]
    have hnext : x.drop (p + 1 + z) = encv ts ++ 0 :: rest := by
      rw [← List.drop_drop, hd3, show z = (bytesOf s).length by rw [bytesOf_length, hze], List.drop_left]
    obtain ⟨k, rfl⟩ : ∃ z, k = z + 1 := ⟨k - 1, by omega⟩
    have ek : k + 1 + (s :: ts).length = (k + ts.length) + 1 + 1 := by simp; omega
    have q1 : (p : Int) < L := by omega
    have q2 : (0 : Int) ≤ p := by omega
    have q3 : ¬ (z : Int) = 0 := by omega
    have q4 : ¬ (z : Int) ≥ 192 := by omega
    have q5 : (z : Int) ≤ 20 := by omega
    have q6 : (p : Int) + 1 + z ≤ L := by omega
    have q7 : (0 : Int) ≤ p + 1 := by omega
    have q8 : (p : Int) + 1 ≤ p + 1 + z := by omega
    have q9 : ls.length < 8796093022208 := by rw [List.length_cons] at h6; omega
    have q0 : ¬ (ls.length : Int) ≥ 6 := by rw [List.length_cons] at h6; omega
    have qa : s.size ≤ 1000000000 := by omega
    have qb : s.size + 1 < k + ts.length + 1 := by rw [List.length_cons] at hk; omega
    have ep : ((p + 1 + z : Nat) : Int) = (p : Int) + 1 + z := by omega
    rw [List.length_cons] at h6 hk
    have e := ih k (p + 1 + z) (ls ++ [s]) ha hnext (by rw [List.length_append, List.length_singleton]; omega) (by omega)
    rw [ep] at e
    obtain ⟨hw, e1, e3⟩ : wrap64 (z : Int) = z ∧ wrap64 ((p : Int) + 1) = (p : Int) + 1 ∧ wrap64 ((p : Int) + 1 + (z : Int)) = (p : Int) + 1 + z := ⟨w64 (by omega) (by omega), w64 (by omega) (by omega), w64 (by omega) (by omega)⟩
    rw [← hLe] at e ⊢
    rw [ek, spec_l10Read.l0, ← hLe, if_pos q1, if_pos q2, if_pos q1, hy, hw, if_neg q3, if_neg q4, if_pos q5, e1, e3, if_pos q6, if_pos q7, if_pos q8, if_pos q6, t1, t2, ecut, spec_l10Label_at s qa _ qb, hs]
    simp only [Option.bind_some, spec_l10Read.j2, ← hLe, e1, e3, ↓reduceIte, t1, t2, ecut]
    rw [if_neg q0, if_pos q7, if_pos q8, if_pos q6, if_pos q9]
    rw [e, encv_cons]
    simp only [Option.some.injEq, Prod.mk.injEq, List.append_assoc, List.length_append, List.length_cons, bytesOf_length, ← hze, ← hwe]
    clear hw e1 e3 e
    refine ⟨by simp, by omega, trivial⟩
theorem bits_or0 (b : Int) (h0 : 0 ≤ b) (h1 : b ≤ 255) : Go.bits .or .u64 0 b = b := by
  obtain ⟨n, rfl⟩ := Int.eq_ofNat_of_zero_le h0
  have h2 : (BitVec.ofInt 64 (n : Int)).toNat = n := by
    rw [BitVec.ofInt_natCast, BitVec.toNat_ofNat]
    exact Nat.mod_eq_of_lt (by omega)
  show IntKind.u64.wrap ((BitVec.ofInt 64 (0 : Int) ||| BitVec.ofInt 64 (n : Int)).toNat : Int) = _
  rw [BitVec.toNat_or, h2, show (BitVec.ofInt 64 (0 : Int)).toNat = 0 from rfl, Nat.zero_or, IntKind.wrap_u64]
  omega
theorem bits_or8 (a b : Int) (ha0 : 0 ≤ a) (ha1 : a ≤ 255) (h0 : 0 ≤ b) (h1 : b ≤ 255) : Go.bits .or .u64 (a * 256) b = a * 256 + b := by
  obtain ⟨n, rfl⟩ := Int.eq_ofNat_of_zero_le h0
  obtain ⟨m, rfl⟩ := Int.eq_ofNat_of_zero_le ha0
  have h2 : (BitVec.ofInt 64 (n : Int)).toNat = n := by
    rw [BitVec.ofInt_natCast, BitVec.toNat_ofNat]
    exact Nat.mod_eq_of_lt (by omega)
  have h3 : (BitVec.ofInt 64 ((m : Int) * 256)).toNat = m * 256 := by
    rw [show ((m : Int) * 256) = ((m * 256 : Nat) : Int) by omega, BitVec.ofInt_natCast, BitVec.toNat_ofNat]
    exact Nat.mod_eq_of_lt (by omega)
  have h4 : m * 256 ||| n = m * 256 + n := by
    have := Nat.shiftLeft_add_eq_or_of_lt (i := 8) (b := n) (by omega) m
    rw [Nat.shiftLeft_eq] at this
    exact this.symm
  show IntKind.u64.wrap ((BitVec.ofInt 64 ((m : Int) * 256) ||| BitVec.ofInt 64 (n : Int)).toNat : Int) = _
  rw [BitVec.toNat_or, h2, h3, h4, IntKind.wrap_u64]
  omega
def rw2 (x : List Int) (a : Int) : Int := rd x a * 256 + rd x (a + 1)
theorem spec_l1Read_at (x : List Int) (hx : ∀ y ∈ x, 0 ≤ y ∧ y ≤ 255) (hl : x.length ≤ 1048576) (a : Int) (h0 : 0 ≤ a) (h1 : a + 2 ≤ x.length) (k : Nat) (hk : 10 ≤ k) : spec_l1Read.f k x a 2 = some (rw2 x a) := by
  obtain ⟨k, rfl⟩ : ∃ z, k = z + 3 := ⟨k - 3, by omega⟩
  have b0 := rd_range x hx a h0 (by omega)
  have b1 := rd_range x hx (a + 1) (by omega) (by omega)
  have e0 : wrap64 (a + 0) = a := by rw [Int.add_zero]; exact w64 (by omega) (by omega)
  have e1 : wrap64 (a + 1) = a + 1 := w64 (by omega) (by omega)
  have e2 : wrap64 (0 + 1) = 1 := w64 (by omega) (by omega)
  have e3 : wrap64 (1 + 1) = 2 := w64 (by omega) (by omega)
  have e4 : wrap64 (rd x a) = rd x a := w64 (by omega) (by omega)
  have e5 : wrap64 (rd x (a + 1)) = rd x (a + 1) := w64 (by omega) (by omega)
  have e6 : wrap64 (0 * 256) = 0 := w64 (by omega) (by omega)
  have e7 : wrap64 (0 + rd x a) = rd x a := by rw [Int.zero_add]; exact e4
  have e8 : wrap64 (rd x a * 256) = rd x a * 256 := w64 (by omega) (by omega)
  have e9 : wrap64 (rd x a * 256 + rd x (a + 1)) = rd x a * 256 + rd x (a + 1) := w64 (by omega) (by omega)
  unfold spec_l1Read.f
  rw [spec_l1Read.l0, if_pos (by omega), e0, if_pos (by omega), if_pos (by omega), e6, e4, e7, e2, spec_l1Read.l0, if_pos (by omega), e1, if_pos (by omega), if_pos (by omega), e8, e5, e9, e3, spec_l1Read.l0, if_neg (by omega)]
  rfl
theorem rd_cut (x : List Int) (a n : Nat) (j : Nat) (h : a + j < n) (hn : n ≤ x.length) : rd ((x.take n).drop a) (j : Int) = rd x ((a : Int) + j) := by
  have e : ((a : Int) + j).toNat = a + j := by omega
  simp only [rd, Int.toNat_natCast, List.getD_eq_getElem?_getD, e]
  rw [List.getElem?_drop, List.getElem?_take_of_lt h]
theorem impl_ReadWord_at (x : List Int) (hx : ∀ y ∈ x, 0 ≤ y ∧ y ≤ 255) (hl : x.length ≤ 1048576) (a : Int) (k : Nat) (hk : 10 ≤ k) : impl_ReadWord.f k x a 2 = some (if 0 ≤ a ∧ a + 2 ≤ x.length then (0, rw2 x a) else (3, 0)) := by
  obtain ⟨k, rfl⟩ : ∃ z, k = z + 4 := ⟨k - 4, by omega⟩
  unfold impl_ReadWord.f
  rw [impl_in_at, decide_eq_true (by omega), Option.bind_some, if_pos rfl]
  by_cases h0 : a < 0
  · rw [if_pos h0, if_neg (by omega), impl_ReadWord.j0, if_pos rfl]
    rfl
  rw [if_neg h0]
  by_cases h1 : a > (x.length : Int)
  · rw [if_pos h1, if_neg (by omega), impl_ReadWord.j0, if_pos rfl]
    rfl
  rw [if_neg h1, w64 (by omega) (by omega)]
  by_cases h2 : a + 2 ≤ x.length
  rotate_left
  · rw [if_neg (fun h => h2 h.2), decide_eq_true (by omega), impl_ReadWord.j0, if_pos rfl]
    rfl
  rw [if_pos (show 0 ≤ a ∧ a + 2 ≤ (x.length : Int) from ⟨by omega, h2⟩), decide_eq_false (by omega), impl_ReadWord.j0, if_neg (by decide), w64 (by omega) (by omega), if_pos (by omega), if_pos (by omega), if_pos (by omega)]
  have b0 := rd_range x hx a (by omega) (by omega)
  have b1 := rd_range x hx (a + 1) (by omega) (by omega)
  have hlen : ((x.take (a + 2).toNat).drop a.toNat).length = 2 := by
    rw [List.length_drop, List.length_take]
    omega
  have r0 : rd ((x.take (a + 2).toNat).drop a.toNat) 0 = rd x a := by
    have := rd_cut x a.toNat (a + 2).toNat 0 (by omega) (by omega)
    rw [show ((0 : Nat) : Int) = 0 from rfl] at this
    rw [this]
    congr 1
    omega
  have r1 : rd ((x.take (a + 2).toNat).drop a.toNat) 1 = rd x (a + 1) := by
    have := rd_cut x a.toNat (a + 2).toNat 1 (by omega) (by omega)
    rw [show ((1 : Nat) : Int) = 1 from rfl] at this
    rw [this]
    congr 1
    omega
  have uw : ∀ v : Int, 0 ≤ v → v < 18446744073709551616 → IntKind.u64.wrap v = v := fun v h0 h1 => by
    rw [IntKind.wrap_u64]
    omega
  have e2 : wrap64 (0 + 1) = 1 := w64 (by omega) (by omega)
  have e3 : wrap64 (1 + 1) = 2 := w64 (by omega) (by omega)
  generalize (x.take (a + 2).toNat).drop a.toNat = y at *
  rw [hlen]
  rw [show ((2 : Nat) : Int) = 2 from rfl, impl_ReadWord.l0, if_pos (by omega), if_pos (by omega), if_pos (by omega), r0, uw (rd x a) (by omega) (by omega), uw (0 * 256) (by omega) (by omega), show (0 * 256 : Int) = 0 from rfl, bits_or0 _ b0.1 b0.2, e2, impl_ReadWord.l0, if_pos (by omega), if_pos (by omega), if_pos (by omega), r1, uw (rd x (a + 1)) (by omega) (by omega), uw (rd x a * 256) (by omega) (by omega), bits_or8 _ _ b0.1 b0.2 b1.1 b1.2, e3, impl_ReadWord.l0, if_neg (by omega), if_neg (by omega), w64 (by omega) (by omega)]
  rfl
theorem pkl_range : ∀ (j : Nat) (x : Int) (s : List Int), (∀ y ∈ s, 0 ≤ y ∧ y ≤ 255) → ∀ y ∈ pkl j x s, 0 ≤ y ∧ y ≤ 255
  | 0, _, _, h => h
  | j + 1, x, s, h => by
    refine pkl_range j _ _ fun y hy => ?_
    rcases List.mem_or_eq_of_mem_set hy with hy | rfl
    · exact h y hy
    · omega
theorem pk_range (n : Nat) (x : Int) : ∀ y ∈ pk n x, 0 ≤ y ∧ y ≤ 255 := pkl_range n x _ (fun y hy => by
  have := List.eq_of_mem_replicate hy
  omega)
theorem encv_range (l : List ByteArray) : ∀ y ∈ encv l, 0 ≤ y ∧ y ≤ 255 := by
  intro y hy
  obtain ⟨s, _, hy⟩ := List.mem_flatMap.1 hy
  rcases List.mem_cons.1 hy with rfl | hy
  · omega
  · obtain ⟨b, _, rfl⟩ := List.mem_map.1 hy
    have := b.toNat_lt
    omega
theorem qv_range (a : Int) (l : List ByteArray) (b : Int) : ∀ y ∈ qv a l b, 0 ≤ y ∧ y ≤ 255 := by
  intro y hy
  simp only [qv, List.mem_append, List.mem_cons, List.not_mem_nil, or_false] at hy
  have h1 := pk_range 2 a y
  have h2 := pk_range 2 b y
  have h3 := encv_range l y
  rcases hy with h | h | (h | h) | h | h
  all_goals first | exact h1 h | exact h2 h | exact h3 h | omega
theorem str_inj : ∀ (q x : List Int), (∀ y ∈ q, 0 ≤ y ∧ y ≤ 255) → (∀ y ∈ x, 0 ≤ y ∧ y ≤ 255) → (q.map fun n => UInt8.ofNat n.toNat) = (x.map fun n => UInt8.ofNat n.toNat) → q = x
  | [], [], _, _, _ => rfl
  | [], _ :: _, _, _, h => by simp at h
  | _ :: _, [], _, _, h => by simp at h
  | a :: q, b :: x, hq, hx, h => by
    rw [List.map_cons, List.map_cons] at h
    obtain ⟨h1, h2⟩ := List.cons.inj h
    have e := str_inj q x (fun y hy => hq y (by simp [hy])) (fun y hy => hx y (by simp [hy])) h2
    have ha := hq a (by simp)
    have hb := hx b (by simp)
    have h3 := congrArg UInt8.toNat h1
    simp only [UInt8.toNat_ofNat'] at h3
    have : a = b := by omega
    rw [this, e]
theorem str_eq (q x : List Int) (hq : ∀ y ∈ q, 0 ≤ y ∧ y ≤ 255) (hx : ∀ y ∈ x, 0 ≤ y ∧ y ≤ 255) (h : ((strOfNums q).toList == (strOfNums x).toList) = true) : q = x := by
  rw [beq_iff_eq] at h
  have e : ∀ z : List Int, (strOfNums z).toList = z.map fun n => UInt8.ofNat n.toNat := fun z => by rw [ByteArray.toList_eq]; rfl
  rw [e, e] at h
  exact str_inj q x hq hx h
theorem readQuery_both (x : List Int) (hx : ∀ y ∈ x, 0 ≤ y ∧ y ≤ 255) (hl : x.length ≤ 1048576) (k : Nat) (hk : 1100000 ≤ k) : ∃ c id ls n, spec_ReadQuery.f k x = some (c, id, ls, n) ∧ impl_ReadQuery.f k x = some (c, id, ls, n) ∧ ls.length ≤ 6 := by
  obtain ⟨k, rfl⟩ : ∃ z, k = z + 2 := ⟨k - 2, by omega⟩
  unfold spec_ReadQuery.f impl_ReadQuery.f
  rw [impl_in_at, Option.bind_some]
  simp only [spec_ReadQuery.j0]
  by_cases hr : 12 ≤ x.length ∧ x.length ≤ 300
  rotate_left
  · refine ⟨2, 0, [], 0, ?_, ?_, by simp⟩
    · by_cases h1 : (x.length : Int) < 12
      · rw [if_pos h1, if_pos trivial]
      · rw [if_neg h1, decide_eq_true (by omega), if_pos rfl]
    · rw [decide_eq_false (by omega), if_neg (by decide)]
  obtain ⟨hr1, hr2⟩ := hr
  rw [if_neg (by omega), decide_eq_false (show ¬ ((x.length : Int) > 300) by omega), if_neg (by decide), decide_eq_true (show (12 : Int) ≤ (x.length : Int) ∧ (x.length : Int) ≤ 300 by omega), if_pos rfl]
  unfold spec_l10Ask.f spec_l10Read.f
  obtain ⟨c0, ls0, n0, e1, e2, e3⟩ := read_both x hx hl _ (k + 2) 12 0 [] (-1) 0 rfl (by simp) (by omega) (by omega) (by omega) (by omega) (by omega) (by simp; omega)
  obtain ⟨c1, ls1, n1, d1, d2, d3, d4⟩ := read_lab x hx hl _ (k + 2) 12 0 [] (-1) rfl (by simp) (by omega) (by omega) (by omega) (by omega) (by simp; omega) (by simp) (by omega) (by omega)
  rw [e1] at d1
  have hs := Option.some.inj d1
  injection hs with q1 q2
  injection q2 with q2 q3
  subst q1 q2 q3
  have e1k : spec_l10Read.l0 (k + 1) x 12 (x.length : Int) 0 [] (-1) = some (ls0, n0, c0) := by
    obtain ⟨c', ls', n', f1, _, _⟩ := read_both x hx hl _ (k + 1) 12 0 [] (-1) 0 rfl (by simp) (by omega) (by omega) (by omega) (by omega) (by omega) (by simp; omega)
    have := at_rounds (g := fun k => spec_l10Read.f k x 12) (fun k => spec_l10Read.mono x 12 k) (show k + 1 ≤ k + 2 by omega) f1
    have h : spec_l10Read.l0 (k + 2) x 12 (x.length : Int) 0 [] (-1) = some (ls', n', c') := this
    rw [e1] at h
    rw [f1, ← h]
  have eN : impl_ReadName.f (k + 2) x 12 = some (if (12 : Int) ≤ (x.length : Int) - 1 then (if c0 = 0 then (0, ls0, n0) else (c0, [], 0)) else (3, [], 0)) := by
    unfold impl_ReadName.f
    rw [impl_in_at, w64 (by omega) (by omega), Option.bind_some]
    by_cases h : (12 : Int) ≤ (x.length : Int) - 1
    · rw [if_pos h, decide_eq_true (show (0 : Int) ≤ 12 ∧ (12 : Int) ≤ (x.length : Int) - 1 from ⟨by omega, h⟩), if_pos rfl, e2]
    · rw [if_neg h, decide_eq_false (fun h2 => h h2.2), if_neg (by decide)]
  have enum : ∀ a : Int, impl_number.f (k + 2) x a 2 = some (if 0 ≤ a ∧ a + 2 ≤ x.length then (rw2 x a, true) else (0, false)) := by
    intro a
    unfold impl_number.f
    rw [impl_ReadWord_at x hx hl a _ (by omega), Option.bind_some]
    by_cases h : 0 ≤ a ∧ a + 2 ≤ (x.length : Int)
    · rw [if_pos h, if_pos h]
      rfl
    · rw [if_neg h, if_neg h]
      rfl
  have hw : ∀ a : Int, 0 ≤ a → a + 2 ≤ x.length → 0 ≤ rw2 x a ∧ rw2 x a ≤ 65535 := by
    intro a h0 h1
    have b0 := rd_range x hx a h0 (by omega)
    have b1 := rd_range x hx (a + 1) (by omega) (by omega)
    unfold rw2
    omega
  rw [e1k, eN]
  simp only [Option.bind_some, enum]
  have h12 : c0 = 0 → (12 : Int) ≤ (x.length : Int) - 1 := by
    intro hc
    by_cases h : (12 : Int) ≤ (x.length : Int) - 1
    · exact h
    · have hx12 : x.length = 12 := by omega
      rw [hx12, spec_l10Read.l0, if_neg (by omega)] at e1
      have := Option.some.inj e1
      simp at this
      omega
  by_cases hc : c0 = 0
  rotate_left
  · rw [if_neg hc, if_neg hc]
    refine ⟨1, 0, [], 0, ?_, ?_, by simp⟩
    · rw [spec_l10Ask.j0, if_pos rfl]
      simp
    · split <;> simp [hc]
  have h12' := h12 hc
  rw [if_pos hc, if_pos h12', if_pos hc, w64 (by omega) (by omega)]
  simp only
  have hsz : ∀ s ∈ ls0, s.size ≤ 1048576 := fun s hs => by
    have := labv_size (List.all_eq_true.1 d2 s hs)
    omega
  have hid := hw 0 (by omega) (by omega)
  rw [if_pos (show (0 : Int) ≤ 0 ∧ (0 : Int) + 2 ≤ (x.length : Int) by omega), if_pos trivial]
  simp only
  have eP : ∀ n : Int, 0 ≤ n → n ≤ 65535 → impl_PackQuery.f (k + 2) (rw2 x 0) ls0 n = some (0, qv (rw2 x 0) ls0 n) := by
    intro n h0 h1
    rw [impl_PackQuery_at _ _ _ hsz _ (by omega)]
    unfold pqr
    rw [if_pos (show (0 ≤ rw2 x 0 ∧ rw2 x 0 ≤ 65535) ∧ 0 ≤ n ∧ n ≤ 65535 from ⟨hid, h0, h1⟩), if_neg (by omega), if_pos d2]
  by_cases h4 : n0 + 4 = (x.length : Int)
  · have hn := hw n0 (by omega) (by omega)
    have e5 : (n0 + 4 != (x.length : Int)) = false := by simp [h4]
    rw [e5, spec_l10Ask.j0, if_neg (by decide), spec_l1Read_at x hx hl 0 (by omega) (by omega) _ (by omega), spec_l1Read_at x hx hl n0 (by omega) (by omega) _ (by omega)]
    simp only [Option.bind_some]
    rw [spec_l10Query_at _ _ _ e3 d2 _ (by omega), if_pos (show 0 ≤ n0 ∧ n0 + 2 ≤ (x.length : Int) by omega)]
    simp only [Option.bind_some]
    rw [eP _ hn.1 hn.2]
    simp only [Option.bind_some]
    unfold bytes_Equal.f
    simp only [Option.bind_some]
    by_cases hq : ((strOfNums (qv (rw2 x 0) ls0 (rw2 x n0))).toList == (strOfNums x).toList) = true
    · rw [if_pos hq]
      exact ⟨_, _, _, _, rfl, rfl, e3⟩
    · rw [if_neg hq]
      exact ⟨_, _, _, _, rfl, rfl, by simp⟩
  · have e5 : (n0 + 4 != (x.length : Int)) = true := by simp [h4]
    have hno : ∀ n : Int, ¬ ((strOfNums (qv (rw2 x 0) ls0 n)).toList == (strOfNums x).toList) = true := by
      intro n h
      have hq := str_eq _ _ (qv_range _ _ _) hx h
      have hlen := qv_len (rw2 x 0) ls0 n
      have hd : x.drop 12 = encv ls0 ++ 0 :: (pk 2 n ++ [0, 1]) := by
        rw [← hq]
        unfold qv
        rw [← List.append_assoc, List.drop_left' (by simp [pk_len]), List.append_assoc]
        rfl
      have hp := read_plain x hl _ ls0 (k + 2 - ls0.length) 12 [] d2 hd (by simpa using e3) (by omega)
      rw [show k + 2 - ls0.length + ls0.length = k + 2 by omega] at hp
      rw [show ((12 : Nat) : Int) = 12 from rfl, e1] at hp
      have h6 := Option.some.inj hp
      injection h6 with h7 h8
      injection h8 with h8 h9
      rw [hq] at hlen
      omega
    rw [e5, spec_l10Ask.j0, if_pos rfl]
    refine ⟨1, 0, [], 0, by simp, ?_, by simp⟩
    by_cases h2 : 0 ≤ n0 ∧ n0 + 2 ≤ (x.length : Int)
    · have hn := hw n0 h2.1 h2.2
      rw [if_pos h2]
      simp only
      rw [eP _ hn.1 hn.2]
      unfold bytes_Equal.f
      simp only [Option.bind_some]
      rw [if_neg (hno _)]
    · rw [if_neg h2]
      simp only
      rw [eP 0 (by omega) (by omega)]
      unfold bytes_Equal.f
      simp only [Option.bind_some]
      rw [if_neg (hno _)]
theorem eqQueryResult_self (c a : Int) (l : List ByteArray) (b : Int) (hl : l.length ≤ 1000000000) (k : Nat) (hk : l.length < k) : laws_eqQueryResult.f k c a l b c a l b = some true := by
  unfold laws_eqQueryResult.f
  rw [eqQuery_self a l b hl k hk]
  simp
theorem markQueryResult_at (c a : Int) (l : List ByteArray) (b : Int) (hl : l.length ≤ 1000000000) (k : Nat) (hk : l.length + 200 < k) : laws_markQueryResult.f k c a l b 1 = some (1 + 1 * (l.length : Int), marks mkT 1 1 l.length) := by
  unfold laws_markQueryResult.f
  rw [markQuery_at a l b hl k hk]
  rfl
theorem heldQueryResult_at (c a : Int) (m : Nat) (b : Int) (hl : m ≤ 1000000000) (k : Nat) (hk : m + 200 < k) : laws_heldQueryResult.f k c a (marks mkT 1 1 m) b 1 = some (1 + 1 * (m : Int)) := by
  unfold laws_heldQueryResult.f laws_heldQuery.f
  rw [heldStringS_at m 1 (by omega) (by omega) hl k hk]
  simp only [Option.bind_some]
  rw [if_neg (by omega)]
  simp only [Option.bind_some]
  rw [if_neg (by omega)]
end Go.Proofs.Ytllkeaghjacalaa.Pure
