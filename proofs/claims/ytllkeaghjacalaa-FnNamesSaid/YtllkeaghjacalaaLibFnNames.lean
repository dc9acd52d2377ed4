/- What the printed functions of the law FnNames answer, as plain Lean. -/
import Derived.Test.YtllkeaghjacalaaStFnNames
import Derived.Test.YtllkeaghjacalaaBaFnNames
namespace Go.Proofs.Ytllkeaghjacalaa.Pure
open Go.RowKit Go.Proofs.Ytllkeaghjacalaa.Open Go.Proofs.Ytllkeaghjacalaa.Base Go.Proofs.Ytllkeaghjacalaa.MFnNames Go.Proofs.YtllkeaghjacalaaW.PrintWords Go.Proofs.YtllkeaghjacalaaW.PrintLast
set_option linter.unusedVariables false
set_option linter.unusedSimpArgs false
theorem impl_in_at (a b c : Int) : impl_in.f a b c = some (decide (b ≤ a ∧ a ≤ c)) := by
  unfold impl_in.f
  by_cases h : a ≥ b
  · rw [if_pos h]
    have h' : b ≤ a := h
    simp [h']
  · rw [if_neg h]
    have h' : ¬ b ≤ a := h
    simp [h']
theorem spec_in_at (a b c : Int) : spec_l1In.f a b c = some (decide (b ≤ a ∧ a ≤ c)) := by
  unfold spec_l1In.f
  by_cases h : a ≥ b
  · rw [if_pos h]
    have h' : b ≤ a := h
    simp [h']
  · rw [if_neg h]
    have h' : ¬ b ≤ a := h
    simp [h']
theorem tmod_in (a n : Int) (ha : 0 ≤ a) (hn : 0 < n) : 0 ≤ Int.tmod a n ∧ Int.tmod a n < n := ⟨Int.tmod_nonneg n ha, Int.tmod_lt_of_pos a hn⟩
def Bytes (code : List Int) : Prop := code.length ≤ 1048576 ∧ ∀ x ∈ code, 0 ≤ x ∧ x ≤ 255
theorem bytes_of {code : List Int} (hl : code.length ≤ 1048576) (h : ∀ x ∈ code, (Lit.int .u8 x).wf = true) : Bytes code := by
  refine ⟨hl, fun x hx => ?_⟩
  have h2 : (decide ((IntKind.u8).min ≤ x) && decide (x ≤ (IntKind.u8).max)) = true := h x hx
  rw [Bool.and_eq_true, decide_eq_true_eq, decide_eq_true_eq] at h2
  have e1 : (IntKind.u8).min = 0 := by decide
  have e2 : (IntKind.u8).max = 255 := by decide
  rw [e1, e2] at h2
  exact h2
theorem byte_in {code : List Int} (h : Bytes code) (i : Int) (h0 : 0 ≤ i) (h1 : i < code.length) : 0 ≤ rd code i ∧ rd code i ≤ 255 := by
  have e : rd code i = code[i.toNat]'(by omega) := by
    simp only [rd, List.getD_eq_getElem?_getD]
    rw [List.getElem?_eq_getElem (by omega)]
    rfl
  rw [e]
  exact h.2 _ (List.getElem_mem _)
theorem next_at {code : List Int} (h : Bytes code) (p n : Int) (hp : 0 ≤ p ∧ p ≤ 1000000) (hn : n ≤ 1000000000) : ∃ v, spec_l1Next.f code p n = some (v, p + 1) ∧ 0 ≤ v ∧ (1 ≤ n → v < n) ∧ (n < 1 → v = 0) := by
  have hl := h.1
  unfold spec_l1Next.f
  have e0 : wrap64 (p + 1) = p + 1 := w64 (by omega) (by omega)
  have e1 : wrap64 (p + 1 - 1) = p := by rw [w64 (by omega) (by omega)]; omega
  have e2 : wrap64 (p + 2) = p + 2 := w64 (by omega) (by omega)
  simp only [e0, e1, e2]
  by_cases hn1 : n < 1
  · rw [if_pos hn1]
    exact ⟨0, rfl, by omega, by omega, fun _ => rfl⟩
  rw [if_neg hn1]
  by_cases hz : (code.length : Int) = 0
  · rw [if_pos hz, if_neg (by omega), w64 (x := p * 7) (by omega) (by omega)]
    exact ⟨_, rfl, (tmod_in _ _ (by omega) (by omega)).1, fun _ => (tmod_in _ _ (by omega) (by omega)).2, by omega⟩
  rw [if_neg hz]
  have hL : 0 < (code.length : Int) := by omega
  have j0 := tmod_in p _ hp.1 hL
  have j1 := tmod_in (p + 1) _ (by omega) hL
  have j2 := tmod_in (p + 2) _ (by omega) hL
  have b0 := byte_in h _ j0.1 j0.2
  have b1 := byte_in h _ j1.1 j1.2
  have b2 := byte_in h _ j2.1 j2.2
  have q0 : 0 ≤ Int.tdiv p (code.length : Int) := Int.tdiv_nonneg hp.1 (by omega)
  have q1 : Int.tdiv p (code.length : Int) ≤ p := Int.tdiv_le_self _ hp.1
  generalize Int.tdiv p (code.length : Int) = q at *
  generalize rd code (Int.tmod p (code.length : Int)) = c0 at *
  generalize rd code (Int.tmod (p + 1) (code.length : Int)) = c1 at *
  generalize rd code (Int.tmod (p + 2) (code.length : Int)) = c2 at *
  rw [if_pos j0.1, if_pos j0.2]
  by_cases h2 : n > 200
  · rw [if_pos h2, if_pos j1.1, if_pos j1.2]
    by_cases h6 : n > 60000
    · rw [if_pos h6, if_pos j2.1, if_pos j2.2, if_neg (by omega)]
      simp (disch := omega) only [w64]
      exact ⟨_, rfl, (tmod_in _ _ (by omega) (by omega)).1, fun _ => (tmod_in _ _ (by omega) (by omega)).2, by omega⟩
    · rw [if_neg h6, if_neg (by omega)]
      simp (disch := omega) only [w64]
      exact ⟨_, rfl, (tmod_in _ _ (by omega) (by omega)).1, fun _ => (tmod_in _ _ (by omega) (by omega)).2, by omega⟩
  · rw [if_neg h2, if_neg (by omega), if_neg (by omega)]
    simp (disch := omega) only [w64]
    exact ⟨_, rfl, (tmod_in _ _ (by omega) (by omega)).1, fun _ => (tmod_in _ _ (by omega) (by omega)).2, by omega⟩
theorem lwBig_at (l : List Int) : laws_lwBig.f l = some (decide ((l.length : Int) > 1048576)) := rfl
theorem pick_at {code : List Int} (h : Bytes code) (p : Int) (hp : 0 ≤ p ∧ p ≤ 1000000) (l : List Int) (hl : 0 < l.length) (hm : l.length ≤ 1000000) : ∃ v, spec_l1Pick.f code p l = some (v, p + 1) ∧ v ∈ l := by
  obtain ⟨i, e, h0, h1, _⟩ := next_at h p (l.length : Int) hp (by omega)
  have h2 := h1 (by omega)
  unfold spec_l1Pick.f
  rw [e]
  simp only [Option.bind_some]
  rw [if_pos h0, if_pos h2]
  refine ⟨_, rfl, ?_⟩
  have e : rd l i = l[i.toNat]'(by omega) := by
    simp only [rd, List.getD_eq_getElem?_getD]
    rw [List.getElem?_eq_getElem (by omega)]
    rfl
  rw [e]
  exact List.getElem_mem _
def okb (x : Int) : Bool := decide ((97 ≤ x ∧ x ≤ 122) ∨ (48 ≤ x ∧ x ≤ 57) ∨ x = 45)
def okbs (s : ByteArray) (i : Nat) : Bool := ((List.range s.size).drop i).all fun j => okb (bt s (j : Int))
def labv (s : ByteArray) : Bool := decide (1 ≤ s.size ∧ s.size ≤ 20) && okbs s 0
theorem okbs_end (s : ByteArray) : okbs s s.size = true := by
  unfold okbs
  rw [List.drop_of_length_le (by simp)]
  rfl
theorem okbs_step (s : ByteArray) (i : Nat) (h : i < s.size) : okbs s i = (okb (bt s (i : Int)) && okbs s (i + 1)) := by
  unfold okbs
  rw [drop_cons (List.range s.size) i (by simpa using h), List.getElem_range]
  rfl
theorem spec_l10Label_l0 (s : ByteArray) (hs : s.size ≤ 1000000000) (k : Nat) (hk : s.size < k) : spec_l10Label.l0 k s 0 = some (okbs s 0) := by
  refine loop_up (fun k (_ : Unit) i => spec_l10Label.l0 k s i) s.size 0 (fun _ i => okbs s i) (fun _ _ => True) ?_ ?_ k () 0 0 rfl (Nat.zero_le _) trivial (by omega)
  · intro k _ _ _
    rw [spec_l10Label.l0, if_neg (by omega), okbs_end]
  · intro k _ i hi _ _ ih
    have ih' := ih () trivial
    have ei : wrap64 ((i : Int) + 1) = (i : Int) + 1 := w64 (by omega) (by omega)
    have e : ∀ b, okb (bt s (i : Int)) = b → okbs s i = (b && okbs s (i + 1)) := fun b hb => by rw [okbs_step s i hi, hb]
    rw [spec_l10Label.l0, if_pos (by omega), if_pos (by omega), ei, ih']
    unfold okb at e
    generalize bt s (i : Int) = x at *
    by_cases h : (97 ≤ x ∧ x ≤ 122) ∨ (48 ≤ x ∧ x ≤ 57) ∨ x = 45
    · rw [e true (decide_eq_true h), Bool.true_and]
      repeat' split
      all_goals first | rfl | (exfalso; omega)
    · rw [e false (decide_eq_false h), Bool.false_and]
      repeat' split
      all_goals first | rfl | (exfalso; omega)
theorem spec_l10Label_at (s : ByteArray) (hs : s.size ≤ 1000000000) (k : Nat) (hk : s.size + 1 < k) : spec_l10Label.f k s = some (labv s) := by
  obtain ⟨k, rfl⟩ : ∃ m, k = m + 1 := ⟨k - 1, by omega⟩
  unfold spec_l10Label.f labv
  by_cases h1 : (s.size : Int) < 1
  · rw [if_pos h1, spec_l10Label.j0, if_pos rfl, decide_eq_false (by omega), Bool.false_and]
  · rw [if_neg h1, spec_l10Label.j0]
    by_cases h2 : (s.size : Int) > 20
    · rw [if_pos (decide_eq_true h2), decide_eq_false (by omega), Bool.false_and]
    · rw [if_neg (by simpa using h2), spec_l10Label_l0 s hs k (by omega), decide_eq_true (by omega), Bool.true_and]
theorem impl_isLabel_at (s : ByteArray) (hs : s.size ≤ 1000000000) (k : Nat) (hk : s.size < k) : impl_isLabel.f k s = some (labv s) := by
  unfold impl_isLabel.f labv
  rw [Bool.and_comm]
  refine loop_up (fun k (_ : Unit) i => impl_isLabel.l0 k s (s.size : Int) i) s.size 0 (fun _ i => okbs s i && decide (1 ≤ s.size ∧ s.size ≤ 20)) (fun _ _ => True) ?_ ?_ k () 0 0 rfl (Nat.zero_le _) trivial (by omega)
  · intro k _ _ _
    rw [impl_isLabel.l0, if_neg (by omega), impl_in_at, okbs_end, Bool.true_and]
    simp only [Option.bind_some]
    exact congrArg some (decide_eq_decide.mpr (by omega))
  · intro k _ i hi _ _ ih
    have ih' := ih () trivial
    have ei : wrap64 ((i : Int) + 1) = (i : Int) + 1 := w64 (by omega) (by omega)
    have e : ∀ b, okb (bt s (i : Int)) = b → okbs s i = (b && okbs s (i + 1)) := fun b hb => by rw [okbs_step s i hi, hb]
    rw [impl_isLabel.l0, if_pos (by omega), if_pos (by omega), if_pos (by omega), ei, ih']
    unfold okb at e
    generalize bt s (i : Int) = x at *
    by_cases h : (97 ≤ x ∧ x ≤ 122) ∨ (48 ≤ x ∧ x ≤ 57) ∨ x = 45
    · rw [e true (decide_eq_true h), Bool.true_and]
      repeat' split
      all_goals first | rfl | (exfalso; omega)
    · rw [e false (decide_eq_false h), Bool.false_and, Bool.false_and]
      repeat' split
      all_goals first | rfl | (exfalso; omega)
theorem size_strOfNums (l : List Int) : (strOfNums l).size = l.length := by
  simp [strOfNums, ByteArray.size]
theorem read_both (x : List Int) (hx : ∀ y ∈ x, 0 ≤ y ∧ y ≤ 255) (hl : x.length ≤ 1048576) (m : Nat) : ∀ (k : Nat) (p j : Int) (ls : List ByteArray) (nx nx' : Int), (6 - ls.length) + (5 - j.toNat) + 1 = m → ls.length ≤ 6 → 0 ≤ j → j ≤ 5 → 0 ≤ p → p ≤ 1048600 → (1 ≤ j → nx = nx') → 10 * m + 100 ≤ k →
    ∃ c ls' n', spec_l10Read.l0 k x p (x.length : Int) j ls nx = some (ls', n', c) ∧ impl_ReadName.l0 k x p j 0 ls nx' = some (if c = 0 then (0, ls', n') else (c, [], 0)) ∧ ls'.length ≤ 6 := by
  induction m with
  | zero =>
    intro k p j ls nx nx' hm
    omega
  | succ m ih =>
    intro k p j ls nx nx' hm hls hj0 hj5 hp0 hp1 hnx hk
    obtain ⟨k, rfl⟩ : ∃ z, k = z + 2 := ⟨k - 2, by omega⟩
    rw [spec_l10Read.l0, impl_ReadName.l0]
    by_cases h1 : p < (x.length : Int)
    rotate_left
    · rw [if_neg h1, if_neg h1]
      exact ⟨5, ls, nx, rfl, rfl, hls⟩
    rw [if_pos h1, if_pos h1, if_pos hp0, if_pos h1, if_pos hp0]
    have hb : ∀ q : Int, 0 ≤ q → q < x.length → 0 ≤ rd x q ∧ rd x q ≤ 255 := by
      intro q h0 h1
      have e : rd x q = x[q.toNat]'(by omega) := by
        simp only [rd, List.getD_eq_getElem?_getD]
        rw [List.getElem?_eq_getElem (by omega)]
        rfl
      rw [e]
      exact hx _ (List.getElem_mem _)
    have b0 := hb p hp0 h1
    have e1 : wrap64 (p + 1) = p + 1 := w64 (by omega) (by omega)
    have e2 : wrap64 (p + 2) = p + 2 := w64 (by omega) (by omega)
    have eb : wrap64 (rd x p) = rd x p := w64 (by omega) (by omega)
    rw [eb, e1]
    have hb1 : p + 1 < (x.length : Int) → 0 ≤ rd x (p + 1) ∧ rd x (p + 1) ≤ 255 := fun h => hb (p + 1) (by omega) h
    generalize rd x p = b at *
    by_cases hz : b = 0
    · rw [if_pos hz, if_pos hz]
      by_cases hj : j = 0
      · rw [if_pos hj, if_pos hj]
        exact ⟨0, ls, p + 1, rfl, rfl, hls⟩
      · rw [if_neg hj, if_neg hj]
        exact ⟨0, ls, nx, rfl, by rw [hnx (by omega)]; rfl, hls⟩
    rw [if_neg hz, if_neg hz]
    by_cases hs : b ≤ 20
    · rw [if_neg (by omega), if_pos hs, if_pos hs]
      have e3 : wrap64 (p + 1 + b) = p + 1 + b := w64 (by omega) (by omega)
      rw [e3]
      by_cases hn : p + 1 + b ≤ (x.length : Int)
      · rw [if_pos hn, if_pos (by omega), if_pos (by omega), if_pos hn, if_neg (by omega), if_pos (by omega), if_pos (by omega), if_pos hn]
        have hsz : (strOfNums ((x.take (p + 1 + b).toNat).drop (p + 1).toNat)).size ≤ 20 := by
          rw [size_strOfNums, List.length_drop, List.length_take]
          omega
        rw [spec_l10Label_at _ (by omega) _ (by omega), impl_isLabel_at _ (by omega) _ (by omega)]
        simp only [Option.bind_some, spec_l10Read.j2, impl_ReadName.j1, e1, e3]
        cases labv (strOfNums ((x.take (p + 1 + b).toNat).drop (p + 1).toNat)) with
        | false =>
          refine ⟨5, ls, nx, ?_, ?_, hls⟩
          · rfl
          · rfl
        | true =>
          simp only [Bool.not_true, Bool.false_eq_true, ↓reduceIte]
          by_cases h6 : (ls.length : Int) ≥ 6
          · rw [if_pos h6, if_pos (by omega)]
            exact ⟨2, ls, nx, rfl, rfl, hls⟩
          · rw [if_neg h6, if_pos (by omega), if_pos (by omega), if_pos hn, if_pos (by omega), if_neg (by omega), if_pos (by omega), if_pos (by omega), if_pos hn, if_pos (by omega)]
            exact ih k (p + 1 + b) j _ nx nx' (by simp; omega) (by simp; omega) hj0 hj5 (by omega) (by omega) hnx (by omega)
      · rw [if_neg hn, if_pos (by omega)]
        refine ⟨5, ls, nx, ?_, ?_, hls⟩
        · rfl
        · rfl
    · by_cases hg : b ≥ 192
      · rw [if_pos hg, if_neg hs, if_pos hg]
        by_cases hq : p + 1 ≥ (x.length : Int)
        · have t2 : ¬ p + 1 < (x.length : Int) := by omega
          rw [if_pos hq, decide_eq_false t2]
          refine ⟨5, ls, nx, rfl, ?_, hls⟩
          rfl
        · have t1 : 0 ≤ p + 1 := by omega
          have t2 : p + 1 < (x.length : Int) := by omega
          have b1 := hb1 t2
          have e4 : wrap64 (rd x (p + 1)) = rd x (p + 1) := w64 (by omega) (by omega)
          have e5 : wrap64 (b - 192) = b - 192 := w64 (by omega) (by omega)
          have e6 : wrap64 ((b - 192) * 256) = (b - 192) * 256 := w64 (by omega) (by omega)
          have e7 : wrap64 (j + 1) = j + 1 := w64 (by omega) (by omega)
          have e8 : wrap64 ((b - 192) * 256 + rd x (p + 1)) = (b - 192) * 256 + rd x (p + 1) := w64 (by omega) (by omega)
          rw [if_neg hq, if_pos t1, if_pos t2, decide_eq_true t2]
          have g0 : 0 ≤ (b - 192) * 256 + rd x (p + 1) := by omega
          have g1 : (b - 192) * 256 + rd x (p + 1) ≤ 1048600 := by omega
          simp only [impl_ReadName.j2, spec_l10Read.j1, e1, e2, e4, e5, e6, e7, e8, t1, t2, ↓reduceIte]
          clear e1 e2 e4 e5 e6 e7 e8 hb hb1
          generalize (b - 192) * 256 + rd x (p + 1) = t at *
          by_cases h2 : t ≥ p
          · simp only [h2, ↓reduceIte]
            refine ⟨5, ls, nx, rfl, ?_, hls⟩
            by_cases hj : j = 0 <;> simp [hj]
          · simp only [h2, ↓reduceIte]
            by_cases h3 : j + 1 > 5
            · simp only [h3, decide_true, ↓reduceIte]
              refine ⟨5, ls, nx, rfl, ?_, hls⟩
              by_cases hj : j = 0 <;> simp [hj]
            · simp only [h3, decide_false, Bool.false_eq_true, ↓reduceIte]
              by_cases hj : j = 0
              · have hj1 : j + 1 = 1 := by omega
                rw [if_pos hj1, if_pos hj]
                exact ih k t (j + 1) ls (p + 2) (p + 2) (by omega) hls (by omega) (by omega) (by omega) (by omega) (fun _ => rfl) (by omega)
              · have hj1 : ¬ j + 1 = 1 := by omega
                rw [if_neg hj1, if_neg hj]
                exact ih k t (j + 1) ls nx nx' (by omega) hls (by omega) (by omega) (by omega) (by omega) (fun _ => hnx (by omega)) (by omega)
      · rw [if_neg hg, if_neg hs, if_neg hs, if_neg hg]
        refine ⟨5, ls, nx, ?_, ?_, hls⟩
        · rfl
        · rfl
theorem readName_both (x : List Int) (hx : ∀ y ∈ x, 0 ≤ y ∧ y ≤ 255) (hl : x.length ≤ 1048576) (a : Int) (k : Nat) (hk : 1000 ≤ k) : ∃ c ls n, spec_ReadName.f k x a = some (c, ls, n) ∧ impl_ReadName.f k x a = some (c, ls, n) ∧ ls.length ≤ 6 := by
  unfold spec_ReadName.f impl_ReadName.f spec_l10Read.f
  rw [impl_in_at, spec_in_at, w64 (by omega) (by omega)]
  simp only [Option.bind_some]
  by_cases h : 0 ≤ a ∧ a ≤ (x.length : Int) - 1
  · rw [decide_eq_true h, if_pos rfl, if_pos rfl]
    obtain ⟨c, ls, n, e1, e2, e3⟩ := read_both x hx hl _ k a 0 [] (-1) 0 rfl (by simp) (by omega) (by omega) h.1 (by omega) (by omega) (by simp; omega)
    rw [e1, e2]
    simp only [Option.bind_some]
    by_cases hc : c = 0
    · rw [if_pos hc, if_pos hc]
      exact ⟨0, ls, n, rfl, rfl, e3⟩
    · rw [if_neg hc, if_neg hc]
      exact ⟨c, [], 0, rfl, rfl, by simp⟩
  · rw [decide_eq_false h, if_neg (by decide), if_neg (by decide)]
    exact ⟨3, [], 0, rfl, rfl, by simp⟩
theorem spec_l10Labels_at (l : List ByteArray) (hs : ∀ s ∈ l, s.size ≤ 1048576) (k : Nat) (hk : 1048600 ≤ k) : spec_l10Labels.f k l = some (if l.length > 6 then 2 else if l.all labv = true then 0 else 5) := by
  unfold spec_l10Labels.f
  by_cases h6 : l.length > 6
  · rw [if_pos (by omega), if_pos h6]
  rw [if_neg (by omega), if_neg h6]
  refine loop_up (fun k (_ : Unit) i => spec_l10Labels.l0 k l i) l.length 1048580 (fun _ i => if (l.drop i).all labv = true then 0 else 5) (fun _ _ => True) ?_ ?_ k () 0 0 rfl (Nat.zero_le _) trivial (by omega)
  · intro k _ _ _
    rw [spec_l10Labels.l0, if_neg (by omega), List.drop_length]
    rfl
  · intro k _ i hi _ hm ih
    have ih' := ih () trivial
    have ei : wrap64 ((i : Int) + 1) = (i : Int) + 1 := w64 (by omega) (by omega)
    have hy : rdOf ByteArray.empty l (i : Int) = l[i] := by simp only [rdOf, Int.toNat_natCast, getD_at _ _ _ hi]
    have hz := hs l[i] (List.getElem_mem _)
    rw [spec_l10Labels.l0, if_pos (by omega), if_pos (by omega), hy, spec_l10Label_at _ (by omega) _ (by omega), ei, ih', drop_cons l i hi]
    simp only [Option.bind_some, List.all_cons]
    by_cases hb : labv l[i] = true
    · simp [hb]
    · simp [hb]
def encv (l : List ByteArray) : List Int := l.flatMap fun s => ((s.size : Int) % 256) :: bytesOf s
theorem encv_cons (s : ByteArray) (l : List ByteArray) : encv (s :: l) = (((s.size : Int) % 256) :: bytesOf s) ++ encv l := rfl
theorem labv_size {s : ByteArray} (h : labv s = true) : 1 ≤ s.size ∧ s.size ≤ 20 := by
  unfold labv at h
  rw [Bool.and_eq_true, decide_eq_true_eq] at h
  exact h.1
theorem encv_len (l : List ByteArray) (h : l.all labv = true) : (encv l).length ≤ 21 * l.length := by
  induction l with
  | nil => simp [encv]
  | cons s t ih =>
    rw [List.all_cons, Bool.and_eq_true] at h
    have h1 := labv_size h.1
    have h2 := ih h.2
    rw [encv_cons, List.length_append, List.length_cons, bytesOf_length, List.length_cons]
    omega
theorem spec_l10Name_at (l : List ByteArray) (hl : l.length ≤ 6) (ha : l.all labv = true) (k : Nat) (hk : 20 ≤ k) : spec_l10Name.f k l = some (encv l ++ [0]) := by
  unfold spec_l10Name.f
  have key := loop_up (fun k (x : List Int) i => spec_l10Name.l0 k l x i) l.length 0 (fun x i => x ++ encv (l.drop i) ++ [0]) (fun x i => x.length ≤ 21 * i) ?_ ?_ k [] 0 0 rfl (Nat.zero_le _) (by simp) (by omega)
  · simpa using key
  · intro k x hx _
    rw [spec_l10Name.l0, if_neg (by omega), if_pos (by omega), List.drop_length]
    simp [encv]
  · intro k x i hi hx _ ih
    have ei : wrap64 ((i : Int) + 1) = (i : Int) + 1 := w64 (by omega) (by omega)
    have hy : rdOf ByteArray.empty l (i : Int) = l[i] := by simp only [rdOf, Int.toNat_natCast, getD_at _ _ _ hi]
    have hz := labv_size (List.all_eq_true.mp ha l[i] (List.getElem_mem _))
    rw [spec_l10Name.l0, if_pos (by omega), if_pos (by omega), hy, if_pos (by omega), ei, ih _ (by rw [List.length_append, List.length_append, bytesOf_length, List.length_singleton]; omega), drop_cons l i hi, encv_cons]
    simp
theorem impl_EncodeName_l0 (l : List ByteArray) (hl : l.length ≤ 6) (hs : ∀ s ∈ l, s.size ≤ 1048576) (k : Nat) (hk : 1048600 ≤ k) : impl_EncodeName.l0 k [] l (l.length : Int) 0 = some (if l.all labv = true then (0, encv l ++ [0]) else (5, [])) := by
  have key := loop_up (fun k (x : List Int) i => impl_EncodeName.l0 k x l (l.length : Int) i) l.length 1048580 (fun x i => if (l.drop i).all labv = true then (0, x ++ encv (l.drop i) ++ [0]) else (5, [])) (fun x i => x.length ≤ 21 * i) ?_ ?_ k [] 0 0 rfl (Nat.zero_le _) (by simp) (by omega)
  · simpa using key
  · intro k x hx _
    rw [impl_EncodeName.l0, if_neg (by omega), if_pos (by omega), List.drop_length]
    simp [encv]
  · intro k x i hi hx hm ih
    have ei : wrap64 ((i : Int) + 1) = (i : Int) + 1 := w64 (by omega) (by omega)
    have hy : rdOf ByteArray.empty l (i : Int) = l[i] := by simp only [rdOf, Int.toNat_natCast, getD_at _ _ _ hi]
    have hz := hs l[i] (List.getElem_mem _)
    rw [impl_EncodeName.l0, if_pos (by omega), if_pos (by omega), if_pos (by omega), hy, impl_isLabel_at _ (by omega) _ (by omega), ei, drop_cons l i hi]
    simp only [Option.bind_some, List.all_cons]
    by_cases hb : labv l[i] = true
    · have h1 := labv_size hb
      rw [if_pos hb, if_pos (by omega), if_pos (by rw [List.length_append, List.length_singleton]; omega), ih _ (by rw [List.length_append, List.length_append, bytesOf_length, List.length_singleton]; omega), encv_cons]
      simp [hb]
    · simp [hb, impl_noBytes.f]
def env (l : List ByteArray) : Int × List Int := if l.length > 6 then (2, []) else if l.all labv = true then (0, encv l ++ [0]) else (5, [])
theorem env_len (l : List ByteArray) : (env l).2.length ≤ 200 := by
  unfold env
  split
  · simp
  · split
    · rename_i h1 h2
      have := encv_len l h2
      simp only [List.length_append, List.length_singleton]
      omega
    · simp
theorem impl_EncodeName_at (l : List ByteArray) (hs : ∀ s ∈ l, s.size ≤ 1048576) (k : Nat) (hk : 1048600 ≤ k) : impl_EncodeName.f k l = some (env l) := by
  unfold impl_EncodeName.f env
  by_cases h6 : l.length > 6
  · rw [if_pos (by omega), if_pos h6]
    rfl
  · rw [if_neg (by omega), if_neg h6, impl_EncodeName_l0 l (by omega) hs k hk]
theorem spec_EncodeName_at (l : List ByteArray) (hs : ∀ s ∈ l, s.size ≤ 1048576) (k : Nat) (hk : 1048600 ≤ k) : spec_EncodeName.f k l = some (env l) := by
  unfold spec_EncodeName.f env
  rw [spec_l10Labels_at l hs k hk]
  simp only [Option.bind_some]
  by_cases h6 : l.length > 6
  · rw [if_pos h6, if_pos h6, if_neg (by omega)]
  · rw [if_neg h6, if_neg h6]
    by_cases ha : l.all labv = true
    · rw [if_pos ha, if_pos ha, if_pos rfl, spec_l10Name_at l (by omega) ha k (by omega)]
      rfl
    · rw [if_neg ha, if_neg ha, if_neg (by omega)]
theorem read_lab (x : List Int) (hx : ∀ y ∈ x, 0 ≤ y ∧ y ≤ 255) (hl : x.length ≤ 1048576) (m : Nat) : ∀ (k : Nat) (p j : Int) (ls : List ByteArray) (nx nx' : Int), (6 - ls.length) + (5 - j.toNat) + 1 = m → (ls.length ≤ 6 ∧ ls.all labv = true) → 0 ≤ j → j ≤ 5 → 0 ≤ p → p ≤ 1048600 → (1 ≤ j → nx = nx') → 10 * m + 100 ≤ k →
    ∃ c ls' n', spec_l10Read.l0 k x p (x.length : Int) j ls nx = some (ls', n', c) ∧ impl_ReadName.l0 k x p j 0 ls nx' = some (if c = 0 then (0, ls', n') else (c, [], 0)) ∧ (ls'.length ≤ 6 ∧ ls'.all labv = true) := by
  induction m with
  | zero =>
    intro k p j ls nx nx' hm
    omega
  | succ m ih =>
    intro k p j ls nx nx' hm hls hj0 hj5 hp0 hp1 hnx hk
    obtain ⟨k, rfl⟩ : ∃ z, k = z + 2 := ⟨k - 2, by omega⟩
    have hls1 := hls.1
    rw [spec_l10Read.l0, impl_ReadName.l0]
    by_cases h1 : p < (x.length : Int)
    rotate_left
    · rw [if_neg h1, if_neg h1]
      exact ⟨5, ls, nx, rfl, rfl, hls⟩
    rw [if_pos h1, if_pos h1, if_pos hp0, if_pos h1, if_pos hp0]
    have hb : ∀ q : Int, 0 ≤ q → q < x.length → 0 ≤ rd x q ∧ rd x q ≤ 255 := by
      intro q h0 h1
      have e : rd x q = x[q.toNat]'(by omega) := by
        simp only [rd, List.getD_eq_getElem?_getD]
        rw [List.getElem?_eq_getElem (by omega)]
        rfl
      rw [e]
      exact hx _ (List.getElem_mem _)
    have b0 := hb p hp0 h1
    have e1 : wrap64 (p + 1) = p + 1 := w64 (by omega) (by omega)
    have e2 : wrap64 (p + 2) = p + 2 := w64 (by omega) (by omega)
    have eb : wrap64 (rd x p) = rd x p := w64 (by omega) (by omega)
    rw [eb, e1]
    have hb1 : p + 1 < (x.length : Int) → 0 ≤ rd x (p + 1) ∧ rd x (p + 1) ≤ 255 := fun h => hb (p + 1) (by omega) h
    generalize rd x p = b at *
    by_cases hz : b = 0
    · rw [if_pos hz, if_pos hz]
      by_cases hj : j = 0
      · rw [if_pos hj, if_pos hj]
        exact ⟨0, ls, p + 1, rfl, rfl, hls⟩
      · rw [if_neg hj, if_neg hj]
        exact ⟨0, ls, nx, rfl, by rw [hnx (by omega)]; rfl, hls⟩
    rw [if_neg hz, if_neg hz]
    by_cases hs : b ≤ 20
    · rw [if_neg (by omega), if_pos hs, if_pos hs]
      have e3 : wrap64 (p + 1 + b) = p + 1 + b := w64 (by omega) (by omega)
      rw [e3]
      by_cases hn : p + 1 + b ≤ (x.length : Int)
      · rw [if_pos hn, if_pos (by omega), if_pos (by omega), if_pos hn, if_neg (by omega), if_pos (by omega), if_pos (by omega), if_pos hn]
        have hsz : (strOfNums ((x.take (p + 1 + b).toNat).drop (p + 1).toNat)).size ≤ 20 := by
          rw [size_strOfNums, List.length_drop, List.length_take]
          omega
        rw [spec_l10Label_at _ (by omega) _ (by omega), impl_isLabel_at _ (by omega) _ (by omega)]
        simp only [Option.bind_some, spec_l10Read.j2, impl_ReadName.j1, e1, e3]
        cases hlab : labv (strOfNums ((x.take (p + 1 + b).toNat).drop (p + 1).toNat)) with
        | false =>
          refine ⟨5, ls, nx, ?_, ?_, hls⟩
          · rfl
          · rfl
        | true =>
          simp only [Bool.not_true, Bool.false_eq_true, ↓reduceIte]
          by_cases h6 : (ls.length : Int) ≥ 6
          · rw [if_pos h6, if_pos (by omega)]
            exact ⟨2, ls, nx, rfl, rfl, hls⟩
          · rw [if_neg h6, if_pos (by omega), if_pos (by omega), if_pos hn, if_pos (by omega), if_neg (by omega), if_pos (by omega), if_pos (by omega), if_pos hn, if_pos (by omega)]
            exact ih k (p + 1 + b) j _ nx nx' (by simp; omega) ⟨by simp; omega, by rw [List.all_append, hls.2, List.all_cons, hlab]; rfl⟩ hj0 hj5 (by omega) (by omega) hnx (by omega)
      · rw [if_neg hn, if_pos (by omega)]
        refine ⟨5, ls, nx, ?_, ?_, hls⟩
        · rfl
        · rfl
    · by_cases hg : b ≥ 192
      · rw [if_pos hg, if_neg hs, if_pos hg]
        by_cases hq : p + 1 ≥ (x.length : Int)
        · have t2 : ¬ p + 1 < (x.length : Int) := by omega
          rw [if_pos hq, decide_eq_false t2]
          refine ⟨5, ls, nx, rfl, ?_, hls⟩
          rfl
        · have t1 : 0 ≤ p + 1 := by omega
          have t2 : p + 1 < (x.length : Int) := by omega
          have b1 := hb1 t2
          have e4 : wrap64 (rd x (p + 1)) = rd x (p + 1) := w64 (by omega) (by omega)
          have e5 : wrap64 (b - 192) = b - 192 := w64 (by omega) (by omega)
          have e6 : wrap64 ((b - 192) * 256) = (b - 192) * 256 := w64 (by omega) (by omega)
          have e7 : wrap64 (j + 1) = j + 1 := w64 (by omega) (by omega)
          have e8 : wrap64 ((b - 192) * 256 + rd x (p + 1)) = (b - 192) * 256 + rd x (p + 1) := w64 (by omega) (by omega)
          rw [if_neg hq, if_pos t1, if_pos t2, decide_eq_true t2]
          have g0 : 0 ≤ (b - 192) * 256 + rd x (p + 1) := by omega
          have g1 : (b - 192) * 256 + rd x (p + 1) ≤ 1048600 := by omega
          simp only [impl_ReadName.j2, spec_l10Read.j1, e1, e2, e4, e5, e6, e7, e8, t1, t2, ↓reduceIte]
          clear e1 e2 e4 e5 e6 e7 e8 hb hb1
          generalize (b - 192) * 256 + rd x (p + 1) = t at *
          by_cases h2 : t ≥ p
          · simp only [h2, ↓reduceIte]
            refine ⟨5, ls, nx, rfl, ?_, hls⟩
            by_cases hj : j = 0 <;> simp [hj]
          · simp only [h2, ↓reduceIte]
            by_cases h3 : j + 1 > 5
            · simp only [h3, decide_true, ↓reduceIte]
              refine ⟨5, ls, nx, rfl, ?_, hls⟩
              by_cases hj : j = 0 <;> simp [hj]
            · simp only [h3, decide_false, Bool.false_eq_true, ↓reduceIte]
              by_cases hj : j = 0
              · have hj1 : j + 1 = 1 := by omega
                rw [if_pos hj1, if_pos hj]
                exact ih k t (j + 1) ls (p + 2) (p + 2) (by omega) hls (by omega) (by omega) (by omega) (by omega) (fun _ => rfl) (by omega)
              · have hj1 : ¬ j + 1 = 1 := by omega
                rw [if_neg hj1, if_neg hj]
                exact ih k t (j + 1) ls nx nx' (by omega) hls (by omega) (by omega) (by omega) (by omega) (fun _ => hnx (by omega)) (by omega)
      · rw [if_neg hg, if_neg hs, if_neg hs, if_neg hg]
        refine ⟨5, ls, nx, ?_, ?_, hls⟩
        · rfl
        · rfl
theorem readName_lab (x : List Int) (hx : ∀ y ∈ x, 0 ≤ y ∧ y ≤ 255) (hl : x.length ≤ 1048576) (a : Int) (k : Nat) (hk : 1000 ≤ k) : ∃ c ls n, spec_ReadName.f k x a = some (c, ls, n) ∧ impl_ReadName.f k x a = some (c, ls, n) ∧ (ls.length ≤ 6 ∧ ls.all labv = true) := by
  unfold spec_ReadName.f impl_ReadName.f spec_l10Read.f
  rw [impl_in_at, spec_in_at, w64 (by omega) (by omega)]
  simp only [Option.bind_some]
  by_cases h : 0 ≤ a ∧ a ≤ (x.length : Int) - 1
  · rw [decide_eq_true h, if_pos rfl, if_pos rfl]
    obtain ⟨c, ls, n, e1, e2, e3⟩ := read_lab x hx hl _ k a 0 [] (-1) 0 rfl (by simp) (by omega) (by omega) h.1 (by omega) (by omega) (by simp; omega)
    rw [e1, e2]
    simp only [Option.bind_some]
    by_cases hc : c = 0
    · rw [if_pos hc, if_pos hc]
      exact ⟨0, ls, n, rfl, rfl, e3⟩
    · rw [if_neg hc, if_neg hc]
      exact ⟨c, [], 0, rfl, rfl, by simp⟩
  · rw [decide_eq_false h, if_neg (by decide), if_neg (by decide)]
    exact ⟨3, [], 0, rfl, rfl, by simp⟩
theorem l10Some_at {code : List Int} (h : Bytes code) (p : Int) (hp : 0 ≤ p ∧ p ≤ 1000000) : ∃ l, spec_l10Some.f code p = some (l, p + 1) ∧ l.length ≤ 3 ∧ l.all labv = true := by
  obtain ⟨v, e, v0, v1, _⟩ := next_at h p 10 hp (by omega)
  have v2 := v1 (by omega)
  unfold spec_l10Some.f
  rw [Option.bind_some]
  show ∃ l, ((spec_l1Next.f code p 10).bind fun bt => if 0 ≤ bt.1 then (if bt.1 < 10 then some (rd_L3 _ bt.1, bt.2) else none) else none) = some (l, p + 1) ∧ l.length ≤ 3 ∧ l.all labv = true
  rw [e, Option.bind_some]
  simp only []
  rw [if_pos v0, if_pos v2]
  rcases (show v = 0 ∨ v = 1 ∨ v = 2 ∨ v = 3 ∨ v = 4 ∨ v = 5 ∨ v = 6 ∨ v = 7 ∨ v = 8 ∨ v = 9 by omega) with r | r | r | r | r | r | r | r | r | r <;> subst r
  all_goals exact ⟨_, rfl, by decide, by decide⟩
theorem l1Some_l0 {code : List Int} (h : Bytes code) (d : Nat) : ∀ (k : Nat) (x : List Int) (p : Int), d < k → d ≤ 1000 → x.length + d ≤ 1000 → 0 ≤ p → p + d ≤ 900000 → (∀ y ∈ x, 0 ≤ y ∧ y ≤ 255) → ∃ l, spec_l1Some.l0 k (d : Int) x code p = some (l, p + d) ∧ l.length = x.length + d ∧ ∀ y ∈ l, 0 ≤ y ∧ y ≤ 255 := by
  induction d with
  | zero =>
    intro k x p hk _ _ _ _ hx
    obtain ⟨k, rfl⟩ : ∃ m, k = m + 1 := ⟨k - 1, by omega⟩
    rw [spec_l1Some.l0, if_neg (by omega)]
    exact ⟨x, by simp, by omega, hx⟩
  | succ d ih =>
    intro k x p hk hd hl hp hp2 hx
    obtain ⟨k, rfl⟩ : ∃ m, k = m + 1 := ⟨k - 1, by omega⟩
    obtain ⟨v, e, v0, v1, _⟩ := next_at h p 256 (by omega) (by omega)
    have v2 := v1 (by omega)
    rw [spec_l1Some.l0, if_pos (by omega), e]
    simp only [Option.bind_some]
    have e2 : wrap64 (((d + 1 : Nat) : Int) - 1) = (d : Int) := by rw [w64 (by omega) (by omega)]; omega
    by_cases hl2 : x.length ≤ 999
    · obtain ⟨l, f1, f2, f3⟩ := ih k (x ++ [v % 256]) (p + 1) (by omega) (by omega) (by rw [List.length_append, List.length_singleton]; omega) (by omega) (by omega) (by
        intro y hy
        rw [List.mem_append, List.mem_singleton] at hy
        rcases hy with hy | hy
        · exact hx y hy
        · omega)
      rw [if_pos (by omega), e2, f1]
      refine ⟨l, ?_, ?_, f3⟩
      · rw [show p + 1 + (d : Int) = p + ((d + 1 : Nat) : Int) by omega]
      · rw [f2, List.length_append, List.length_singleton]
        omega
    · exfalso
      omega
theorem str_bytes (s : ByteArray) : strOfNums (bytesOf s) = s := by
  unfold strOfNums bytesOf
  rw [List.map_map]
  have e : ((fun n : Int => UInt8.ofNat n.toNat) ∘ fun b : UInt8 => (b.toNat : Int)) = id := by
    funext b
    simp
  rw [e, List.map_id]
theorem rd_drop {x : List Int} {p : Nat} {a : Int} {r : List Int} (h : x.drop p = a :: r) : p < x.length ∧ rd x (p : Int) = a ∧ x.drop (p + 1) = r := by
  have h1 : p < x.length := by
    rcases Nat.lt_or_ge p x.length with h1 | h1
    · exact h1
    · rw [List.drop_of_length_le h1] at h
      cases h
  have h2 := drop_cons x p h1
  rw [h] at h2
  injection h2 with h3 h4
  refine ⟨h1, ?_, h4.symm⟩
  simp only [rd, Int.toNat_natCast, getD_at _ _ _ h1]
  exact h3.symm
theorem read_enc (x : List Int) (hl : x.length ≤ 1048576) (rest : List Int) (t : List ByteArray) : ∀ (k p : Nat) (j : Int) (ls : List ByteArray) (nx : Int), t.all labv = true → ls.length + t.length ≤ 6 → x.drop p = encv t ++ 0 :: rest → 40 + 2 * t.length ≤ k → impl_ReadName.l0 k x (p : Int) j 0 ls nx = some (0, ls ++ t, if j = 0 then (p : Int) + (encv t).length + 1 else nx) := by
  induction t with
  | nil =>
    intro k p j ls nx _ _ hd hk
    obtain ⟨k, rfl⟩ : ∃ m, k = m + 1 := ⟨k - 1, by omega⟩
    obtain ⟨h1, h2, h3⟩ := rd_drop (show x.drop p = 0 :: rest from hd)
    have e0 : wrap64 0 = 0 := w64 (by omega) (by omega)
    have e1 : wrap64 ((p : Int) + 1) = (p : Int) + 1 := w64 (by omega) (by omega)
    rw [impl_ReadName.l0, if_pos (by omega), if_pos (by omega), h2, e0, if_pos rfl, e1]
    have e3 : (encv []).length = 0 := rfl
    rw [e3, List.append_nil]
    by_cases hj : j = 0
    · rw [if_pos hj, if_pos hj]
      simp
    · rw [if_neg hj, if_neg hj]
  | cons s t ih =>
    intro k p j ls nx ha hle hd hk
    rw [List.all_cons, Bool.and_eq_true] at ha
    have hz := labv_size ha.1
    rw [List.length_cons] at hle hk
    obtain ⟨k, rfl⟩ : ∃ m, k = m + 2 := ⟨k - 2, by omega⟩
    rw [encv_cons] at hd
    obtain ⟨h1, h2, h3⟩ := rd_drop (show x.drop p = ((s.size : Int) % 256) :: (bytesOf s ++ (encv t ++ 0 :: rest)) by rw [hd]; simp)
    have hm : ((s.size : Int) % 256) = (s.size : Int) := by omega
    rw [hm] at h2
    have hlen : p + 1 + s.size ≤ x.length := by
      have := congrArg List.length h3
      rw [List.length_drop, List.length_append, bytesOf_length] at this
      omega
    have hcut : (x.take (p + 1 + s.size)).drop (p + 1) = bytesOf s := by
      rw [List.drop_take, h3, show p + 1 + s.size - (p + 1) = (bytesOf s).length by rw [bytesOf_length]; omega, List.take_left]
    have hnext : x.drop (p + 1 + s.size) = encv t ++ 0 :: rest := by
      have := congrArg (List.drop s.size) h3
      rw [List.drop_drop] at this
      rw [this, show s.size = (bytesOf s).length by rw [bytesOf_length], List.drop_left]
    have t1 : ((p : Int) + 1 + (s.size : Int)).toNat = p + 1 + s.size := by omega
    have t2 : ((p : Int) + 1).toNat = p + 1 := by omega
    have e4 : ((p : Int) + 1 + (s.size : Int)) = ((p + 1 + s.size : Nat) : Int) := by omega
    have a1 : (p : Int) < (x.length : Int) := by omega
    have a2 : 0 ≤ (p : Int) := by omega
    have a3 : ¬ (s.size : Int) = 0 := by omega
    have a4 : (s.size : Int) ≤ 20 := by omega
    have a5 : ¬ ((p : Int) + 1 + (s.size : Int) > (x.length : Int)) := by omega
    have a6 : 0 ≤ (p : Int) + 1 := by omega
    have a7 : (p : Int) + 1 ≤ (p : Int) + 1 + (s.size : Int) := by omega
    have a8 : (p : Int) + 1 + (s.size : Int) ≤ (x.length : Int) := by omega
    have b1 : s.size ≤ 1000000000 := by omega
    have b2 : s.size < k + 1 := by omega
    have b3 : ¬ (ls.length : Int) = 6 := by omega
    have b4 : ls.length < 8796093022208 := by omega
    have b5 : (ls ++ [s]).length + t.length ≤ 6 := by rw [List.length_append, List.length_singleton]; omega
    have b6 : 40 + 2 * t.length ≤ k := by omega
    obtain ⟨e1, e2, e3⟩ : wrap64 ((p : Int) + 1) = (p : Int) + 1 ∧ wrap64 (s.size : Int) = (s.size : Int) ∧ wrap64 ((p : Int) + 1 + (s.size : Int)) = (p : Int) + 1 + (s.size : Int) := ⟨w64 (by omega) (by omega), w64 (by omega) (by omega), w64 (by omega) (by omega)⟩
    rw [impl_ReadName.l0, if_pos a1, if_pos a2, h2, e2, e1, e3, if_neg a3, if_pos a4, if_neg a5, if_pos a6, if_pos a7, if_pos a8, t1, t2, hcut, str_bytes, impl_isLabel_at _ b1 _ b2, ha.1]
    simp only [Option.bind_some, Bool.not_true]
    rw [impl_ReadName.j1, if_neg (by decide), if_neg b3, e1, if_pos a6, if_pos a7, if_pos a8, if_pos b4, t1, t2, hcut, str_bytes]
    rw [e4, ih k (p + 1 + s.size) j (ls ++ [s]) nx ha.2 b5 hnext b6]
    clear e1 e2 e3
    have e5 : (encv (s :: t)).length = 1 + s.size + (encv t).length := by
      rw [encv_cons, List.length_append, List.length_cons, bytesOf_length]
      omega
    rw [e5, List.append_assoc]
    by_cases hj : j = 0
    · rw [if_pos hj, if_pos hj]
      have e6 : ((p + 1 + s.size : Nat) : Int) + ((encv t).length : Int) + 1 = (p : Int) + ((1 + s.size + (encv t).length : Nat) : Int) + 1 := by omega
      rw [e6]
      rfl
    · rw [if_neg hj, if_neg hj]
      rfl
theorem readBack (l : List ByteArray) (h6 : l.length ≤ 6) (ha : l.all labv = true) (k : Nat) (hk : 1000 ≤ k) : impl_ReadName.f k (encv l ++ [0]) 0 = some (0, l, ((encv l ++ [0]).length : Int)) := by
  have hlen := encv_len l ha
  have e : (encv l ++ [0]).length = (encv l).length + 1 := by rw [List.length_append, List.length_singleton]
  unfold impl_ReadName.f
  rw [impl_in_at, w64 (by omega) (by omega)]
  simp only [Option.bind_some]
  rw [decide_eq_true (by omega), if_pos rfl]
  have := read_enc (encv l ++ [0]) (by omega) [] l k 0 0 [] 0 ha (by simp; omega) rfl (by omega)
  rw [if_pos rfl] at this
  rw [show (0 : Int) = ((0 : Nat) : Int) from rfl] at *
  rw [this, e]
  simp
theorem readJump (l : List ByteArray) (h6 : l.length ≤ 6) (ha : l.all labv = true) (k : Nat) (hk : 1000 ≤ k) : impl_ReadName.f k ((encv l ++ [0]) ++ [192, 0]) ((encv l ++ [0]).length : Int) = some (0, l, ((encv l ++ [0]).length : Int) + 2) := by
  have hlen := encv_len l ha
  have e : (encv l ++ [0]).length = (encv l).length + 1 := by rw [List.length_append, List.length_singleton]
  have e' : ((encv l ++ [0]) ++ [192, 0]).length = (encv l).length + 3 := by rw [List.length_append, e]; rfl
  have hd : ((encv l ++ [0]) ++ [192, 0]).drop (encv l ++ [0]).length = [192, 0] := List.drop_left
  obtain ⟨h1, h2, h3⟩ := rd_drop hd
  obtain ⟨g1, g2, g3⟩ := rd_drop h3
  obtain ⟨k, rfl⟩ : ∃ m, k = m + 2 := ⟨k - 2, by omega⟩
  have key := read_enc ((encv l ++ [0]) ++ [192, 0]) (by omega) [192, 0] l k 0 1 [] (((encv l ++ [0]).length : Int) + 2) ha (by simp; omega) (by rw [List.drop_zero, List.append_assoc]; rfl) (by omega)
  rw [if_neg (by decide)] at key
  generalize hx : (encv l ++ [0]) ++ [192, 0] = x at *
  generalize hp : (encv l ++ [0]).length = p at *
  have e6 : wrap64 0 = 0 := w64 (by decide) (by decide)
  have e3 : wrap64 192 = 192 := w64 (by decide) (by decide)
  have e4 : wrap64 (192 - 192) = 0 := e6
  have e5 : wrap64 (0 * 256) = 0 := e6
  have e7 : wrap64 (0 + 0) = 0 := e6
  have e8 : wrap64 (0 + 1) = 1 := w64 (x := 1) (by decide) (by decide)
  have g2' : rd x ((p : Int) + 1) = 0 := g2
  have c1 : 0 ≤ (p : Int) ∧ (p : Int) ≤ (x.length : Int) - 1 := by clear e3 e4 e5 e6 e7 e8; omega
  have c2 : (p : Int) < (x.length : Int) := by clear e3 e4 e5 e6 e7 e8; omega
  have c3 : 0 ≤ (p : Int) := by clear e3 e4 e5 e6 e7 e8; omega
  have c4 : (p : Int) + 1 < (x.length : Int) := by clear e3 e4 e5 e6 e7 e8; omega
  have c5 : 0 ≤ (p : Int) + 1 := by clear e3 e4 e5 e6 e7 e8; omega
  have c6 : ¬ ((0 : Int) ≥ (p : Int)) := by clear e3 e4 e5 e6 e7 e8; omega
  have e0 : wrap64 ((x.length : Int) - 1) = (x.length : Int) - 1 := by clear e3 e4 e5 e6 e7 e8; exact w64 (by omega) (by omega)
  have e1 : wrap64 ((p : Int) + 1) = (p : Int) + 1 := by clear e0 e3 e4 e5 e6 e7 e8; exact w64 (by omega) (by omega)
  have e2 : wrap64 ((p : Int) + 2) = (p : Int) + 2 := by clear e0 e1 e3 e4 e5 e6 e7 e8; exact w64 (by omega) (by omega)
  unfold impl_ReadName.f
  rw [impl_in_at, e0]
  simp only [Option.bind_some]
  rw [decide_eq_true c1, if_pos rfl, impl_ReadName.l0, if_pos c2, if_pos c3, h2, e3, if_neg (by decide), if_neg (by decide), if_pos (by decide), e1, decide_eq_true c4, impl_ReadName.j2, if_pos rfl, e1, if_pos c5, if_pos c4, if_pos rfl, g2', e4, e5, e6, e7, e8, if_neg c6, if_neg (by decide), e2]
  exact key
theorem drawEnc_l0 (d : Nat) : ∀ (k : Nat) (l : List ByteArray) (n : Int), d < k → (n - l.length : Int) ≤ d → n ≤ 7 → l.length ≤ 7 → (∀ s ∈ l, s.size ≤ 100) → ∃ l', spec_DrawEncodeName.l0 k l n = some l' ∧ l'.length ≤ 7 ∧ ∀ s ∈ l', s.size ≤ 100 := by
  induction d with
  | zero =>
    intro k l n hk hd hn hl hs
    obtain ⟨k, rfl⟩ : ∃ m, k = m + 1 := ⟨k - 1, by omega⟩
    rw [spec_DrawEncodeName.l0, if_neg (by omega)]
    exact ⟨l, rfl, hl, hs⟩
  | succ d ih =>
    intro k l n hk hd hn hl hs
    obtain ⟨k, rfl⟩ : ∃ m, k = m + 1 := ⟨k - 1, by omega⟩
    rw [spec_DrawEncodeName.l0]
    by_cases h : (l.length : Int) < n
    · rw [if_pos h, if_pos (by omega)]
      refine ih k _ n (by omega) ?_ hn ?_ ?_
      · rw [List.length_append, List.length_singleton]
        omega
      · rw [List.length_append, List.length_singleton]
        omega
      · intro s hy
        rw [List.mem_append, List.mem_singleton] at hy
        rcases hy with hy | hy
        · exact hs s hy
        · subst hy
          decide
    · rw [if_neg h]
      exact ⟨l, rfl, hl, hs⟩
theorem labv_all_size {l : List ByteArray} (h : l.all labv = true) : ∀ s ∈ l, s.size ≤ 100 := by
  intro s hs
  have := labv_size (List.all_eq_true.mp h s hs)
  omega
theorem drawEncodeName_at {code : List Int} (h : Bytes code) (k : Nat) (hk : 20 ≤ k) : ∃ l, spec_DrawEncodeName.f k code = some l ∧ l.length ≤ 7 ∧ ∀ s ∈ l, s.size ≤ 100 := by
  obtain ⟨l, e1, hl, ha⟩ := l10Some_at h 0 (by omega)
  have hs := labv_all_size ha
  obtain ⟨v, e2, v0, v1, _⟩ := next_at h (0 + 1) 8 (by omega) (by omega)
  obtain ⟨q, e3, q0, q1, _⟩ := next_at h (0 + 1 + 1) 5 (by omega) (by omega)
  obtain ⟨r, e4, hr⟩ := pick_at h (0 + 1 + 1) (by omega) [6, 7] (by decide) (by decide)
  have q2 := q1 (by omega)
  have hr2 : r ≤ 7 := by
    simp only [List.mem_cons, List.not_mem_nil, or_false] at hr
    omega
  unfold spec_DrawEncodeName.f spec_l1Source.f
  simp only [Option.bind_some, e1, List.length_nil, List.nil_append]
  rw [if_pos (by omega), e2]
  simp only [Option.bind_some]
  by_cases h0 : v = 0
  · rw [if_pos h0, e3]
    simp only [Option.bind_some, List.length_cons, List.length_nil]
    rw [if_pos q0, if_pos (by omega), if_pos (by omega)]
    refine ⟨_, rfl, ?_, ?_⟩
    · rw [List.length_append, List.length_singleton]
      omega
    · intro s hy
      rw [List.mem_append, List.mem_singleton] at hy
      rcases hy with hy | hy
      · exact hs s hy
      · subst hy
        rcases (show q = 0 ∨ q = 1 ∨ q = 2 ∨ q = 3 ∨ q = 4 by omega) with z | z | z | z | z <;> subst z
        all_goals decide
  · rw [if_neg h0]
    by_cases h1 : v = 1
    · rw [if_pos h1, e4]
      simp only [Option.bind_some]
      exact drawEnc_l0 10 k l r (by omega) (by omega) hr2 (by omega) hs
    · rw [if_neg h1]
      exact ⟨l, rfl, by omega, hs⟩
theorem encv_bytes (l : List ByteArray) : ∀ y ∈ encv l, 0 ≤ y ∧ y ≤ 255 := by
  intro y hy
  unfold encv at hy
  rw [List.mem_flatMap] at hy
  obtain ⟨s, _, hy⟩ := hy
  rw [List.mem_cons] at hy
  rcases hy with hy | hy
  · omega
  · unfold bytesOf at hy
    rw [List.mem_map] at hy
    obtain ⟨b, _, hb⟩ := hy
    have := b.toNat_lt
    omega
def BL (x : List Int) (n : Nat) : Prop := (∀ y ∈ x, 0 ≤ y ∧ y ≤ 255) ∧ x.length ≤ n
theorem BL.app {x y : List Int} {m n : Nat} (hx : BL x m) (hy : BL y n) : BL (x ++ y) (m + n) := by
  refine ⟨fun z hz => ?_, by rw [List.length_append]; have := hx.2; have := hy.2; omega⟩
  rw [List.mem_append] at hz
  rcases hz with hz | hz
  · exact hx.1 z hz
  · exact hy.1 z hz
theorem BL.four (a b c d : Int) (ha : 0 ≤ a ∧ a ≤ 255) (hb : 0 ≤ b ∧ b ≤ 255) (hc : 0 ≤ c ∧ c ≤ 255) (hd : 0 ≤ d ∧ d ≤ 255) : BL [a, b, c, d] 4 := by
  refine ⟨fun y hy => ?_, by simp⟩
  simp only [List.mem_cons, List.not_mem_nil, or_false] at hy
  omega
theorem drawReadName_at {code : List Int} (h : Bytes code) (k : Nat) (hk : 40 ≤ k) : ∃ x a, spec_DrawReadName.f k code = some (x, a) ∧ BL x 1000 := by
  obtain ⟨n, e1, n0, n1, _⟩ := next_at h 0 3 (by omega) (by omega)
  have n2 := n1 (by omega)
  obtain ⟨n, rfl⟩ : ∃ m : Nat, n = (m : Int) := ⟨n.toNat, by omega⟩
  obtain ⟨x, e2, x1, x2⟩ := l1Some_l0 h n k [] (0 + 1) (by omega) (by omega) (by simp; omega) (by omega) (by omega) (by simp)
  have hx : BL x 2 := ⟨x2, by rw [x1]; simp; omega⟩
  obtain ⟨l, e3, l1, l2⟩ := l10Some_at h (0 + 1 + (n : Int)) (by omega)
  have e4 := spec_l10Name_at l (by omega) l2 k (by omega)
  have hl := encv_len l l2
  have hn : BL (encv l ++ [0]) 100 := by
    refine ⟨fun y hy => ?_, by rw [List.length_append, List.length_singleton]; omega⟩
    rw [List.mem_append, List.mem_singleton] at hy
    rcases hy with hy | hy
    · exact encv_bytes l y hy
    · omega
  have hx2 := hx.app hn
  have hx3 := hx2.app (BL.four 1 113 192 ((x.length : Int) % 256) (by omega) (by omega) (by omega) (by omega))
  obtain ⟨m, e5, m0, m1, _⟩ := next_at h (0 + 1 + (n : Int) + 1) 2 (by omega) (by omega)
  have m2 := m1 (by omega)
  obtain ⟨m, rfl⟩ : ∃ z : Nat, m = (z : Int) := ⟨m.toNat, by omega⟩
  obtain ⟨y, e6, y1, y2⟩ := l1Some_l0 h m k [] (0 + 1 + (n : Int) + 1 + 1) (by omega) (by omega) (by simp; omega) (by omega) (by omega) (by simp)
  have hy : BL y 1 := ⟨y2, by rw [y1]; simp; omega⟩
  have hx4 := hx3.app hy
  obtain ⟨q, hq⟩ : ∃ q : Int, q = 0 + 1 + (n : Int) + 1 + 1 + (m : Int) := ⟨_, rfl⟩
  obtain ⟨v, e7, v0, v1, _⟩ := next_at h q 8 (by omega) (by omega)
  unfold spec_DrawReadName.f spec_l1Source.f spec_l1Some.f
  simp only [Option.bind_some, e1, e2, e3, e4]
  have g1 := hx.2
  have g2 := hn.2
  have g3 := hx2.2
  have g4 := hx3.2
  have g5 := hx4.2
  rw [if_pos (by omega)]
  try simp only [Option.bind_some]
  rw [if_pos (by rw [List.length_cons, List.length_cons, List.length_cons, List.length_singleton]; omega)]
  simp only [Option.bind_some, e5, e6]
  rw [if_pos (by have := hy.2; omega), ← hq]
  simp only [Option.bind_some, e7]
  generalize hD : x ++ (encv l ++ [0]) ++ [1, 113, 192, (x.length : Int) % 256] ++ y = D at *
  generalize hE : (x ++ (encv l ++ [0])).length = E at *
  by_cases h0 : v = 0
  · rw [if_pos h0]
    obtain ⟨i, f1, i0, i1, i2⟩ := next_at h (q + 1) (D.length : Int) (by omega) (by omega)
    obtain ⟨j, f2, j0, j1, _⟩ := next_at h (q + 1 + 1) 256 (by omega) (by omega)
    obtain ⟨z, f3, _⟩ := pick_at h (q + 1 + 1 + 1) (by omega) [0, 192, 193, 21, 64, 2, j] (by simp) (by simp)
    obtain ⟨w, f4, _⟩ := pick_at h (q + 1 + 1 + 1 + 1) (by omega) [(x.length : Int), (E : Int), (E : Int), (x.length : Int), -1, 100, 0] (by simp) (by simp)
    have hpos : 1 ≤ D.length := by
      rw [← hD]
      simp
      omega
    have i3 := i1 (by omega)
    simp only [Option.bind_some, f1, f2, f3]
    rw [if_pos i0, if_pos i3, f4]
    simp only [Option.bind_some]
    refine ⟨_, _, rfl, fun u hu => ?_, by rw [List.length_set]; omega⟩
    rcases List.mem_or_eq_of_mem_set hu with hu | hu
    · exact hx4.1 u hu
    · omega
  rw [if_neg h0]
  by_cases h1 : v = 1
  · rw [if_pos h1]
    obtain ⟨i, f1, i0, i1, i2⟩ := next_at h (q + 1) (D.length : Int) (by omega) (by omega)
    obtain ⟨w, f4, _⟩ := pick_at h (q + 1 + 1) (by omega) [(x.length : Int), (E : Int), (E : Int), (x.length : Int), -1, 100, 0] (by simp) (by simp)
    have i3 : i ≤ (D.length : Int) := by
      by_cases hp : 1 ≤ (D.length : Int)
      · have := i1 hp
        omega
      · have := i2 (by omega)
        omega
    simp only [Option.bind_some, f1]
    rw [if_pos i0, if_pos i3, f4]
    simp only [Option.bind_some]
    refine ⟨_, _, rfl, fun u hu => hx4.1 u (List.mem_of_mem_take hu), by rw [List.length_take]; omega⟩
  rw [if_neg h1]
  by_cases h2 : v = 2
  · rw [if_pos h2, if_pos (by rw [List.length_cons, List.length_cons, List.length_cons, List.length_singleton]; omega)]
    have hx5 := hx4.app (BL.four 192 ((E : Int) % 256) 192 ((D.length : Int) % 256) (by omega) (by omega) (by omega) (by omega))
    exact ⟨_, _, rfl, hx5.1, by have := hx5.2; omega⟩
  · rw [if_neg h2]
    obtain ⟨w, f4, _⟩ := pick_at h (q + 1) (by omega) [(x.length : Int), (E : Int), (E : Int), (x.length : Int), -1, 100, 0] (by simp) (by simp)
    simp only [Option.bind_some, f4]
    exact ⟨_, _, rfl, hx4.1, by omega⟩
theorem names_l1 (l : List ByteArray) (hl : l.length ≤ 6) (a b c d : Int) (k : Nat) (hk : 10 ≤ k) : laws_FnNames.l1 k l 0 a l b c l d = some true := by
  refine loop_up (fun k (_ : Unit) i => laws_FnNames.l1 k l i a l b c l d) l.length 0 (fun _ _ => true) (fun _ _ => True) ?_ ?_ k () 0 0 rfl (Nat.zero_le _) trivial (by omega)
  · intro k _ _ _
    rw [laws_FnNames.l1, if_neg (by omega)]
  · intro k _ i hi _ _ ih
    have ei : wrap64 ((i : Int) + 1) = (i : Int) + 1 := w64 (by omega) (by omega)
    rw [laws_FnNames.l1, if_pos (by omega), if_pos (by omega), if_pos (by omega), if_pos rfl, if_pos (by omega), if_pos rfl, ei, ih () trivial]
theorem names_l0 (l : List ByteArray) (hl : l.length ≤ 6) (ha : l.all labv = true) (t : List ByteArray) (e : Int × List Int) (he : e = env t) (c n : Int) (hc : c = 0 ∨ ¬ c = 0) (k : Nat) (hk : 2000000 ≤ k) : laws_FnNames.l0 k t 0 e.1 e.2 c l n c l n = some true := by
  have hs := labv_all_size ha
  have hlen := env_len t
  have hj : ∀ k, 1500000 ≤ k → laws_FnNames.j2 k t false e.1 e.2 = some true := by
    intro k hk
    obtain ⟨k, rfl⟩ : ∃ m, k = m + 2 := ⟨k - 2, by omega⟩
    rw [laws_FnNames.j2, if_neg (by decide)]
    by_cases h0 : e.1 = 0
    rotate_left
    · rw [if_neg h0]
    rw [if_pos h0]
    rw [he] at h0 ⊢
    unfold env at h0 ⊢
    by_cases h6 : t.length > 6
    · rw [if_pos h6] at h0
      exact absurd h0 (by decide)
    rw [if_neg h6] at h0 ⊢
    by_cases hb : t.all labv = true
    rotate_left
    · rw [if_neg hb] at h0
      exact absurd h0 (by decide)
    rw [if_pos hb]
    have hl2 := encv_len t hb
    have e1 : (encv t ++ [0]).length = (encv t).length + 1 := by rw [List.length_append, List.length_singleton]
    dsimp only
    rw [readBack t (by omega) hb (k + 1) (by omega), Option.bind_some, Option.bind_some]
    rw [if_pos (by rw [List.length_nil]; omega), Option.bind_some, Option.bind_some, List.nil_append]
    rw [if_pos (by rw [List.length_cons, List.length_singleton]; omega), readJump t (by omega) hb (k + 1) (by omega), Option.bind_some]
    dsimp only
    rw [if_pos rfl, if_pos rfl, if_pos rfl, if_pos rfl, w64 (by omega) (by omega), if_pos rfl]
    have e2 : ((t.length : Int) != (t.length : Int)) = false := by simp
    rw [e2, laws_FnNames.j3, if_neg (by decide)]
    exact names_l1 t (by omega) _ _ _ _ k (by omega)
  refine loop_up (fun k (_ : Unit) i => laws_FnNames.l0 k t i e.1 e.2 c l n c l n) l.length 1600000 (fun _ _ => true) (fun _ _ => True) ?_ ?_ k () 0 0 rfl (Nat.zero_le _) trivial (by omega)
  · intro k _ _ hm
    rw [laws_FnNames.l0, if_neg (by omega)]
    by_cases h0 : c = 0
    · rw [if_pos h0, impl_EncodeName_at l (fun s hy => by have := hs s hy; omega) _ (by omega), Option.bind_some]
      have : (env l).1 = 0 := by
        unfold env
        rw [if_neg (by omega), if_pos ha]
      rw [this]
      exact hj k (by omega)
    · rw [if_neg h0]
      exact hj k (by omega)
  · intro k _ i hi _ _ ih
    have ei : wrap64 ((i : Int) + 1) = (i : Int) + 1 := w64 (by omega) (by omega)
    rw [laws_FnNames.l0, if_pos (by omega), if_pos (by omega), if_pos (by omega), if_pos rfl, ei, ih () trivial]
end Go.Proofs.Ytllkeaghjacalaa.Pure
