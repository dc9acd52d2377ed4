/- What the printed functions of the law FnLetters answer, as plain Lean. -/
import Derived.Test.YtiioiohdifkbgaaStFnLetters
import Derived.Test.YtiioiohdifkbgaaBaFnLetters
namespace Go.Proofs.Ytiioiohdifkbgaa.Pure
open Go.RowKit Go.Proofs.Ytiioiohdifkbgaa.Open Go.Proofs.Ytiioiohdifkbgaa.Base Go.Proofs.Ytiioiohdifkbgaa.MFnLetters Go.Proofs.YtiioiohdifkbgaaW.PrintWords Go.Proofs.YtiioiohdifkbgaaW.PrintLast Go.Proofs.YtiioiohdifkbgaaW.PrintMore
set_option linter.unusedVariables false
set_option linter.unusedSimpArgs false
theorem impl_in_at (a b c : Int) : impl_in.f a b c = some (decide (b ≤ a ∧ a ≤ c)) := by
  unfold impl_in.f
  by_cases h : a ≥ b
  · rw [if_pos h]
    have h' : b ≤ a := h
    simp [h']
  · rw [if_neg h]
    have h' : ¬ b ≤ a := h
    simp [h']
theorem spec_in_at (a b c : Int) : spec_l1In.f a b c = some (decide (b ≤ a ∧ a ≤ c)) := by
  unfold spec_l1In.f
  by_cases h : a ≥ b
  · rw [if_pos h]
    have h' : b ≤ a := h
    simp [h']
  · rw [if_neg h]
    have h' : ¬ b ≤ a := h
    simp [h']
theorem tmod_in (a n : Int) (ha : 0 ≤ a) (hn : 0 < n) : 0 ≤ Int.tmod a n ∧ Int.tmod a n < n := ⟨Int.tmod_nonneg n ha, Int.tmod_lt_of_pos a hn⟩
def Bytes (code : List Int) : Prop := code.length ≤ 1048576 ∧ ∀ x ∈ code, 0 ≤ x ∧ x ≤ 255
theorem bytes_of {code : List Int} (hl : code.length ≤ 1048576) (h : ∀ x ∈ code, (Lit.int .u8 x).wf = true) : Bytes code := by
  refine ⟨hl, fun x hx => ?_⟩
  have h2 : (decide ((IntKind.u8).min ≤ x) && decide (x ≤ (IntKind.u8).max)) = true := h x hx
  rw [Bool.and_eq_true, decide_eq_true_eq, decide_eq_true_eq] at h2
  have e1 : (IntKind.u8).min = 0 := by decide
  have e2 : (IntKind.u8).max = 255 := by decide
  rw [e1, e2] at h2
  exact h2
theorem byte_in {code : List Int} (h : Bytes code) (i : Int) (h0 : 0 ≤ i) (h1 : i < code.length) : 0 ≤ rd code i ∧ rd code i ≤ 255 := by
  have e : rd code i = code[i.toNat]'(by omega) := by
    simp only [rd, List.getD_eq_getElem?_getD]
    rw [List.getElem?_eq_getElem (by omega)]
    rfl
  rw [e]
  exact h.2 _ (List.getElem_mem _)
theorem next_at {code : List Int} (h : Bytes code) (p n : Int) (hp : 0 ≤ p ∧ p ≤ 1000000) (hn : n ≤ 1000000000) : ∃ v, spec_l1Next.f code p n = some (v, p + 1) ∧ 0 ≤ v ∧ (1 ≤ n → v < n) ∧ (n < 1 → v = 0) := by
  have hl := h.1
  unfold spec_l1Next.f
  have e0 : wrap64 (p + 1) = p + 1 := w64 (by omega) (by omega)
  have e1 : wrap64 (p + 1 - 1) = p := by rw [w64 (by omega) (by omega)]; omega
  have e2 : wrap64 (p + 2) = p + 2 := w64 (by omega) (by omega)
  simp only [e0, e1, e2]
  by_cases hn1 : n < 1
  · rw [if_pos hn1]
    exact ⟨0, rfl, by omega, by omega, fun _ => rfl⟩
  rw [if_neg hn1]
  by_cases hz : (code.length : Int) = 0
  · rw [if_pos hz, if_neg (by omega), w64 (x := p * 7) (by omega) (by omega)]
    exact ⟨_, rfl, (tmod_in _ _ (by omega) (by omega)).1, fun _ => (tmod_in _ _ (by omega) (by omega)).2, by omega⟩
  rw [if_neg hz]
  have hL : 0 < (code.length : Int) := by omega
  have j0 := tmod_in p _ hp.1 hL
  have j1 := tmod_in (p + 1) _ (by omega) hL
  have j2 := tmod_in (p + 2) _ (by omega) hL
  have b0 := byte_in h _ j0.1 j0.2
  have b1 := byte_in h _ j1.1 j1.2
  have b2 := byte_in h _ j2.1 j2.2
  have q0 : 0 ≤ Int.tdiv p (code.length : Int) := Int.tdiv_nonneg hp.1 (by omega)
  have q1 : Int.tdiv p (code.length : Int) ≤ p := Int.tdiv_le_self _ hp.1
  generalize Int.tdiv p (code.length : Int) = q at *
  generalize rd code (Int.tmod p (code.length : Int)) = c0 at *
  generalize rd code (Int.tmod (p + 1) (code.length : Int)) = c1 at *
  generalize rd code (Int.tmod (p + 2) (code.length : Int)) = c2 at *
  rw [if_pos j0.1, if_pos j0.2]
  by_cases h2 : n > 200
  · rw [if_pos h2, if_pos j1.1, if_pos j1.2]
    by_cases h6 : n > 60000
    · rw [if_pos h6, if_pos j2.1, if_pos j2.2, if_neg (by omega)]
      simp (disch := omega) only [w64]
      exact ⟨_, rfl, (tmod_in _ _ (by omega) (by omega)).1, fun _ => (tmod_in _ _ (by omega) (by omega)).2, by omega⟩
    · rw [if_neg h6, if_neg (by omega)]
      simp (disch := omega) only [w64]
      exact ⟨_, rfl, (tmod_in _ _ (by omega) (by omega)).1, fun _ => (tmod_in _ _ (by omega) (by omega)).2, by omega⟩
  · rw [if_neg h2, if_neg (by omega), if_neg (by omega)]
    simp (disch := omega) only [w64]
    exact ⟨_, rfl, (tmod_in _ _ (by omega) (by omega)).1, fun _ => (tmod_in _ _ (by omega) (by omega)).2, by omega⟩
theorem lwBig_at (l : List Int) : laws_lwBig.f l = some (decide ((l.length : Int) > 1048576)) := rfl
theorem pick_at {code : List Int} (h : Bytes code) (p : Int) (hp : 0 ≤ p ∧ p ≤ 1000000) (l : List Int) (hl : 0 < l.length) (hm : l.length ≤ 1000000) : ∃ v, spec_l1Pick.f code p l = some (v, p + 1) ∧ v ∈ l := by
  obtain ⟨i, e, h0, h1, _⟩ := next_at h p (l.length : Int) hp (by omega)
  have h2 := h1 (by omega)
  unfold spec_l1Pick.f
  rw [e]
  simp only [Option.bind_some]
  rw [if_pos h0, if_pos h2]
  refine ⟨_, rfl, ?_⟩
  have e : rd l i = l[i.toNat]'(by omega) := by
    simp only [rd, List.getD_eq_getElem?_getD]
    rw [List.getElem?_eq_getElem (by omega)]
    rfl
  rw [e]
  exact List.getElem_mem _
theorem chance_at {code : List Int} (h : Bytes code) (p n : Int) (hp : 0 ≤ p ∧ p ≤ 1000000) (hn : n ≤ 1000000000) : ∃ b, spec_l1Chance.f code p n = some (b, p + 1) := by
  obtain ⟨v, e, _⟩ := next_at h p n hp hn
  unfold spec_l1Chance.f
  rw [e]
  exact ⟨_, rfl⟩
def pkl : Nat → Int → List Int → List Int
  | 0, _, s => s
  | j + 1, x, s => pkl j (wrap64 (Int.tdiv x 256)) (s.set j ((Int.tmod x 256) % 256))
theorem pkl_len : ∀ (j : Nat) (x : Int) (s : List Int), (pkl j x s).length = s.length
  | 0, _, _ => rfl
  | j + 1, x, s => by rw [pkl, pkl_len j, List.length_set]
def pk (n : Nat) (x : Int) : List Int := pkl n x (List.replicate n 0)
theorem pk_len (n : Nat) (x : Int) : (pk n x).length = n := by rw [pk, pkl_len, List.length_replicate]
theorem spec_l1Pack_l0 : ∀ (j k : Nat) (x : Int) (s : List Int), j ≤ s.length → s.length ≤ 1000 → j < k → spec_l1Pack.l0 k x s ((j : Int) - 1) = some (pkl j x s)
  | 0, k, x, s, _, _, hk => by
    obtain ⟨k, rfl⟩ : ∃ z, k = z + 1 := ⟨k - 1, by omega⟩
    rw [spec_l1Pack.l0, if_neg (by omega)]
    rfl
  | j + 1, k, x, s, hj, hs, hk => by
    obtain ⟨k, rfl⟩ : ∃ z, k = z + 1 := ⟨k - 1, by omega⟩
    have e : ((j + 1 : Nat) : Int) - 1 = (j : Int) := by omega
    rw [e, spec_l1Pack.l0, if_pos (by omega), if_pos (by omega), if_pos (by omega), w64 (x := (j : Int) - 1) (by omega) (by omega), Int.toNat_natCast, spec_l1Pack_l0 j k _ _ (by rw [List.length_set]; omega) (by rw [List.length_set]; omega) (by omega)]
    rfl
theorem spec_l1Pack_at (n : Nat) (hn : n ≤ 100) (x : Int) (k : Nat) (hk : n < k) : spec_l1Pack.f k x (n : Int) = some (pk n x) := by
  unfold spec_l1Pack.f
  rw [if_pos (by omega), if_pos (by omega), w64 (by omega) (by omega), Int.toNat_natCast, spec_l1Pack_l0 n k x _ (by simp) (by simp; omega) hk]
  rfl
theorem impl_word_l0 : ∀ (j k : Nat) (x : Int) (s : List Int), j ≤ s.length → s.length ≤ 1000 → j < k → impl_word.l0 k x s ((j : Int) - 1) = some (pkl j x s)
  | 0, k, x, s, _, _, hk => by
    obtain ⟨k, rfl⟩ : ∃ z, k = z + 1 := ⟨k - 1, by omega⟩
    rw [impl_word.l0, if_neg (by omega)]
    rfl
  | j + 1, k, x, s, hj, hs, hk => by
    obtain ⟨k, rfl⟩ : ∃ z, k = z + 1 := ⟨k - 1, by omega⟩
    have e : ((j + 1 : Nat) : Int) - 1 = (j : Int) := by omega
    rw [e, impl_word.l0, if_pos (by omega), if_pos (by omega), if_pos (by omega), w64 (x := (j : Int) - 1) (by omega) (by omega), Int.toNat_natCast, impl_word_l0 j k _ _ (by rw [List.length_set]; omega) (by rw [List.length_set]; omega) (by omega)]
    rfl
theorem impl_word_at (n : Nat) (hn : n ≤ 100) (x : Int) (k : Nat) (hk : n < k) : impl_word.f k x (n : Int) = some (pk n x) := by
  unfold impl_word.f
  rw [if_pos (by omega), if_pos (by omega), w64 (by omega) (by omega), Int.toNat_natCast, impl_word_l0 n k x _ (by simp) (by simp; omega) hk]
  rfl
theorem Concat_l1 (l : List (List Int)) (hl : l.length ≤ 100) (hs : ∀ r ∈ l, r.length ≤ 10000) (m : Nat) : ∀ (k i : Nat) (s : List Int), l.length - i = m → i ≤ l.length → m < k → s.length ≤ 10000 * i → slices_Concat_byte_byte.l1 k s l (l.length : Int) (i : Int) = some (s ++ (l.drop i).flatten) := by
  induction m with
  | zero =>
    intro k i s hm hi hk hb
    obtain ⟨k, rfl⟩ : ∃ z, k = z + 1 := ⟨k - 1, by omega⟩
    obtain rfl : i = l.length := by omega
    rw [slices_Concat_byte_byte.l1, if_neg (by omega), List.drop_length, List.flatten_nil, List.append_nil]
  | succ m ih =>
    intro k i s hm hi hk hb
    obtain ⟨k, rfl⟩ : ∃ z, k = z + 1 := ⟨k - 1, by omega⟩
    have hlt : i < l.length := by omega
    have hy : rd_L2 l (i : Int) = l[i] := by simp only [rd_L2, Int.toNat_natCast, getD_at _ _ _ hlt]
    have hr := hs _ (List.getElem_mem hlt)
    have e2 : ((i + 1 : Nat) : Int) = (i : Int) + 1 := by omega
    rw [slices_Concat_byte_byte.l1, if_pos (by omega), if_pos (by omega), if_pos (by omega), hy, if_pos (by omega), w64 (by omega) (by omega), ← e2, ih k (i + 1) _ (by omega) (by omega) (by omega) (by rw [List.length_append]; omega), drop_cons l i hlt, List.flatten_cons, List.append_assoc]
theorem Concat_l0 (l : List (List Int)) (hl : l.length ≤ 100) (hs : ∀ r ∈ l, r.length ≤ 10000) (m : Nat) : ∀ (k i : Nat) (a : Int), l.length - i = m → i ≤ l.length → m + l.length + 2 < k → 0 ≤ a → a ≤ 10000 * i → slices_Concat_byte_byte.l0 k l a l (l.length : Int) (i : Int) = some l.flatten := by
  induction m with
  | zero =>
    intro k i a hm hi hk h0 hb
    obtain ⟨k, rfl⟩ : ∃ z, k = z + 1 := ⟨k - 1, by omega⟩
    obtain rfl : i = l.length := by omega
    unfold slices_Concat_byte_byte.l0 slices_Grow_byte_byte.f
    rw [if_neg (by omega), if_pos (by rfl), if_pos (by omega), if_pos (by omega), Option.bind_some]
    have e := Concat_l1 l hl hs _ k 0 [] rfl (by omega) (by omega) (by simp)
    rw [show ((0 : Nat) : Int) = 0 from rfl] at e
    rw [e, List.drop_zero, List.nil_append]
  | succ m ih =>
    intro k i a hm hi hk h0 hb
    obtain ⟨k, rfl⟩ : ∃ z, k = z + 1 := ⟨k - 1, by omega⟩
    have hlt : i < l.length := by omega
    have hy : rd_L2 l (i : Int) = l[i] := by simp only [rd_L2, Int.toNat_natCast, getD_at _ _ _ hlt]
    have hr := hs _ (List.getElem_mem hlt)
    have e2 : ((i + 1 : Nat) : Int) = (i : Int) + 1 := by omega
    rw [slices_Concat_byte_byte.l0, if_pos (by omega), if_pos (by omega), if_pos (by omega), hy, w64 (x := a + (l[i].length : Int)) (by omega) (by omega), if_neg (by omega), w64 (by omega) (by omega), ← e2, ih k (i + 1) _ (by omega) (by omega) (by omega) (by omega) (by omega)]
theorem Concat_at (l : List (List Int)) (hl : l.length ≤ 100) (hs : ∀ r ∈ l, r.length ≤ 10000) (k : Nat) (hk : 300 ≤ k) : slices_Concat_byte_byte.f k l = some l.flatten := by
  unfold slices_Concat_byte_byte.f
  have e := Concat_l0 l hl hs _ k 0 0 rfl (by omega) (by omega) (by omega) (by omega)
  exact e
theorem l1Some_l0 {code : List Int} (h : Bytes code) (d : Nat) : ∀ (k : Nat) (x : List Int) (p : Int), d < k → d ≤ 1000 → x.length + d ≤ 1000 → 0 ≤ p → p + d ≤ 900000 → (∀ y ∈ x, 0 ≤ y ∧ y ≤ 255) → ∃ l, spec_l1Some.l0 k (d : Int) x code p = some (l, p + d) ∧ l.length = x.length + d ∧ ∀ y ∈ l, 0 ≤ y ∧ y ≤ 255 := by
  induction d with
  | zero =>
    intro k x p hk _ _ _ _ hx
    obtain ⟨k, rfl⟩ : ∃ m, k = m + 1 := ⟨k - 1, by omega⟩
    rw [spec_l1Some.l0, if_neg (by omega)]
    exact ⟨x, by simp, by omega, hx⟩
  | succ d ih =>
    intro k x p hk hd hl hp hp2 hx
    obtain ⟨k, rfl⟩ : ∃ m, k = m + 1 := ⟨k - 1, by omega⟩
    obtain ⟨v, e, v0, v1, _⟩ := next_at h p 256 (by omega) (by omega)
    have v2 := v1 (by omega)
    rw [spec_l1Some.l0, if_pos (by omega), e]
    simp only [Option.bind_some]
    have e2 : wrap64 (((d + 1 : Nat) : Int) - 1) = (d : Int) := by rw [w64 (by omega) (by omega)]; omega
    by_cases hl2 : x.length ≤ 999
    · obtain ⟨l, f1, f2, f3⟩ := ih k (x ++ [v % 256]) (p + 1) (by omega) (by omega) (by rw [List.length_append, List.length_singleton]; omega) (by omega) (by omega) (by
        intro y hy
        rw [List.mem_append, List.mem_singleton] at hy
        rcases hy with hy | hy
        · exact hx y hy
        · omega)
      rw [if_pos (by omega), e2, f1]
      refine ⟨l, ?_, ?_, f3⟩
      · rw [show p + 1 + (d : Int) = p + ((d + 1 : Nat) : Int) by omega]
      · rw [f2, List.length_append, List.length_singleton]
        omega
    · exfalso
      omega
theorem rd_range (x : List Int) (hx : ∀ y ∈ x, 0 ≤ y ∧ y ≤ 255) (q : Int) (h0 : 0 ≤ q) (h1 : q < x.length) : 0 ≤ rd x q ∧ rd x q ≤ 255 := by
  have e : rd x q = x[q.toNat]'(by omega) := by
    simp only [rd, List.getD_eq_getElem?_getD]
    rw [List.getElem?_eq_getElem (by omega)]
    rfl
  rw [e]
  exact hx _ (List.getElem_mem _)
theorem rd_cut (x : List Int) (a n : Nat) (j : Nat) (h : a + j < n) (hn : n ≤ x.length) : rd ((x.take n).drop a) (j : Int) = rd x ((a : Int) + j) := by
  have e : ((a : Int) + j).toNat = a + j := by omega
  simp only [rd, Int.toNat_natCast, List.getD_eq_getElem?_getD, e]
  rw [List.getElem?_drop, List.getElem?_take_of_lt h]
def rwn : Nat → List Int → Int → Int
  | 0, _, _ => 0
  | n + 1, x, a => rwn n x a * 256 + rd x (a + n)
theorem rwn_range (x : List Int) (hx : ∀ y ∈ x, 0 ≤ y ∧ y ≤ 255) (a : Int) (h0 : 0 ≤ a) : ∀ n : Nat, a + n ≤ x.length → 0 ≤ rwn n x a ∧ rwn n x a < 256 ^ n
  | 0, _ => by simp [rwn]
  | n + 1, h => by
    obtain ⟨h1, h2⟩ := rwn_range x hx a h0 n (by omega)
    have b := rd_range x hx (a + n) (by omega) (by omega)
    have e : (256 : Int) ^ (n + 1) = 256 ^ n * 256 := by rw [Int.pow_succ]
    simp only [rwn]
    omega
theorem rwn_le (x : List Int) (hx : ∀ y ∈ x, 0 ≤ y ∧ y ≤ 255) (a : Int) (h0 : 0 ≤ a) (n : Nat) (d : Nat) : a + (n + d : Nat) ≤ x.length → rwn n x a ≤ rwn (n + d) x a := by
  induction d with
  | zero => intro _; exact Int.le_refl _
  | succ d ih =>
    intro h
    have h1 := ih (by omega)
    have h2 := (rwn_range x hx a h0 (n + d) (by omega)).1
    have b := rd_range x hx (a + (n + d : Nat)) (by omega) (by omega)
    show rwn n x a ≤ rwn (n + d) x a * 256 + rd x (a + (n + d : Nat))
    omega
theorem spec_l1Read_gen (x : List Int) (hx : ∀ y ∈ x, 0 ≤ y ∧ y ≤ 255) (hl : x.length ≤ 1048576) (a : Int) (h0 : 0 ≤ a) (s : Nat) (h1 : a + s ≤ x.length) (hs : s ≤ 8) (hb : rwn s x a ≤ 9223372036854775807) (k : Nat) (hk : 10 ≤ k) : spec_l1Read.f k x a s = some (rwn s x a) := by
  unfold spec_l1Read.f
  refine loop_up (fun k n i => spec_l1Read.l0 k x a s n i) s 0 (fun _ _ => rwn s x a) (fun n i => n = rwn i x a) ?_ ?_ k 0 0 0 rfl (by omega) rfl (by omega)
  · intro k n hn _
    rw [spec_l1Read.l0, if_neg (by omega), hn]
  · intro k n i hi hn _ ih
    have e1 : wrap64 (a + (i : Int)) = a + i := w64 (by omega) (by omega)
    have b := rd_range x hx (a + i) (by omega) (by omega)
    have r := rwn_range x hx a h0 i (by omega)
    have hm : rwn (i + 1) x a ≤ rwn s x a := by
      have := rwn_le x hx a h0 (i + 1) (s - (i + 1)) (by omega)
      rwa [show i + 1 + (s - (i + 1)) = s by omega] at this
    have hm2 : rwn i x a * 256 + rd x (a + i) ≤ 9223372036854775807 := Int.le_trans hm hb
    subst hn
    rw [spec_l1Read.l0, if_pos (by omega), e1, if_pos (by omega), if_pos (by omega), w64 (show -9223372036854775808 ≤ rwn i x a * 256 by omega) (by omega), w64 (show -9223372036854775808 ≤ rd x (a + i) by omega) (by omega), w64 (show -9223372036854775808 ≤ rwn i x a * 256 + rd x (a + i) by omega) (by omega), w64 (show -9223372036854775808 ≤ (i : Int) + 1 by omega) (by omega)]
    exact ih _ rfl
theorem bits_orN (a b : Int) (ha0 : 0 ≤ a) (ha1 : a * 256 < 18446744073709551616) (h0 : 0 ≤ b) (h1 : b ≤ 255) : Go.bits .or .u64 (a * 256) b = a * 256 + b := by
  obtain ⟨n, rfl⟩ := Int.eq_ofNat_of_zero_le h0
  obtain ⟨m, rfl⟩ := Int.eq_ofNat_of_zero_le ha0
  have h2 : (BitVec.ofInt 64 (n : Int)).toNat = n := by
    rw [BitVec.ofInt_natCast, BitVec.toNat_ofNat]
    exact Nat.mod_eq_of_lt (by omega)
  have h3 : (BitVec.ofInt 64 ((m : Int) * 256)).toNat = m * 256 := by
    rw [show ((m : Int) * 256) = ((m * 256 : Nat) : Int) by omega, BitVec.ofInt_natCast, BitVec.toNat_ofNat]
    exact Nat.mod_eq_of_lt (by omega)
  have h4 : m * 256 ||| n = m * 256 + n := by
    have := Nat.shiftLeft_add_eq_or_of_lt (i := 8) (b := n) (by omega) m
    rw [Nat.shiftLeft_eq] at this
    exact this.symm
  show IntKind.u64.wrap ((BitVec.ofInt 64 ((m : Int) * 256) ||| BitVec.ofInt 64 (n : Int)).toNat : Int) = _
  rw [BitVec.toNat_or, h2, h3, h4, IntKind.wrap_u64]
  omega
def rwr (s : Nat) (x : List Int) (a : Int) : Int × Int := if 0 ≤ a ∧ a + s ≤ x.length then (if rwn s x a > 9223372036854775807 then (1, 0) else (0, rwn s x a)) else (3, 0)
theorem impl_ReadWord_gen (x : List Int) (hx : ∀ y ∈ x, 0 ≤ y ∧ y ≤ 255) (hl : x.length ≤ 1048576) (a : Int) (s : Nat) (hs1 : 1 ≤ s) (hs : s ≤ 8) (k : Nat) (hk : 12 ≤ k) : impl_ReadWord.f k x a s = some (rwr s x a) := by
  obtain ⟨k, rfl⟩ : ∃ z, k = z + 1 := ⟨k - 1, by omega⟩
  unfold impl_ReadWord.f rwr
  rw [impl_in_at, decide_eq_true (by omega), Option.bind_some, if_pos rfl]
  by_cases h0 : a < 0
  · rw [if_pos h0, if_neg (by omega), impl_ReadWord.j0, if_pos rfl]
    rfl
  rw [if_neg h0]
  by_cases h1 : a > (x.length : Int)
  · rw [if_pos h1, if_neg (by omega), impl_ReadWord.j0, if_pos rfl]
    rfl
  rw [if_neg h1, w64 (show -9223372036854775808 ≤ (x.length : Int) - a by omega) (by omega)]
  by_cases h2 : a + s ≤ x.length
  rotate_left
  · rw [if_neg (fun h => h2 h.2), decide_eq_true (by omega), impl_ReadWord.j0, if_pos rfl]
    rfl
  rw [if_pos (show 0 ≤ a ∧ a + s ≤ (x.length : Int) from ⟨by omega, h2⟩), decide_eq_false (by omega), impl_ReadWord.j0, if_neg (by decide), w64 (show -9223372036854775808 ≤ a + (s : Int) by omega) (by omega), if_pos (by omega), if_pos (by omega), if_pos (by omega)]
  have hlen : ((x.take (a + s).toNat).drop a.toNat).length = s := by
    rw [List.length_drop, List.length_take]
    omega
  have hrd : ∀ i : Nat, i < s → rd ((x.take (a + s).toNat).drop a.toNat) (i : Int) = rd x (a + i) := by
    intro i hi
    rw [rd_cut x a.toNat (a + s).toNat i (by omega) (by omega)]
    congr 1
    omega
  generalize (x.take (a + s).toNat).drop a.toNat = y at *
  rw [hlen]
  have uw : ∀ v : Int, 0 ≤ v → v < 18446744073709551616 → IntKind.u64.wrap v = v := fun v h0 h1 => by
    rw [IntKind.wrap_u64]
    omega
  refine loop_up (fun k n i => impl_ReadWord.l0 k n y (s : Int) i) s 0 (fun _ _ => if rwn s x a > 9223372036854775807 then (1, 0) else (0, rwn s x a)) (fun n i => n = rwn i x a) ?_ ?_ k 0 0 0 rfl (by omega) rfl (by omega)
  · intro k n hn _
    have r := rwn_range x hx a (by omega) s (by omega)
    subst hn
    rw [impl_ReadWord.l0, if_neg (by omega)]
    by_cases hb : rwn s x a > 9223372036854775807
    · rw [if_pos hb, if_pos hb]
      rfl
    · rw [if_neg hb, if_neg hb, w64 (show -9223372036854775808 ≤ rwn s x a by omega) (by omega)]
  · intro k n i hi hn _ ih
    have b := rd_range x hx (a + i) (by omega) (by omega)
    have r := rwn_range x hx a (by omega) i (by omega)
    have hp : (256 : Int) ^ i ≤ 72057594037927936 := by
      have : i = 0 ∨ i = 1 ∨ i = 2 ∨ i = 3 ∨ i = 4 ∨ i = 5 ∨ i = 6 ∨ i = 7 := by omega
      rcases this with h | h | h | h | h | h | h | h <;> subst h <;> decide
    subst hn
    rw [impl_ReadWord.l0, if_pos (by omega), if_pos (by omega), if_pos (by omega), hrd i hi, uw (rwn i x a * 256) (by omega) (by omega), uw (rd x (a + i)) (by omega) (by omega), bits_orN _ _ (by omega) (by omega) (by omega) (by omega), w64 (show -9223372036854775808 ≤ (i : Int) + 1 by omega) (by omega)]
    exact ih _ rfl
theorem pkl_rwn (x : List Int) (hx : ∀ y ∈ x, 0 ≤ y ∧ y ≤ 255) (a : Int) (h0 : 0 ≤ a) : ∀ (n : Nat) (s : List Int), a + n ≤ x.length → n ≤ s.length → rwn n x a ≤ 9223372036854775807 → pkl n (rwn n x a) s = ((List.range n).map fun (i : Nat) => rd x (a + i)) ++ s.drop n
  | 0, s, _, _, _ => by simp [pkl, rwn]
  | n + 1, s, h, hs, hb => by
    have b := rd_range x hx (a + n) (by omega) (by omega)
    have r := rwn_range x hx a h0 n (by omega)
    have hb' : rwn n x a * 256 + rd x (a + n) ≤ 9223372036854775807 := hb
    have e1 : wrap64 (Int.tdiv (rwn (n + 1) x a) 256) = rwn n x a := by
      have e : Int.tdiv (rwn (n + 1) x a) 256 = rwn n x a := by
        show Int.tdiv (rwn n x a * 256 + rd x (a + n)) 256 = _
        rw [Int.tdiv_eq_ediv_of_nonneg (by omega)]
        omega
      rw [e]
      exact w64 (by omega) (by omega)
    have e2 : Int.tmod (rwn (n + 1) x a) 256 % 256 = rd x (a + n) := by
      show Int.tmod (rwn n x a * 256 + rd x (a + n)) 256 % 256 = _
      rw [Int.tmod_eq_emod_of_nonneg (by omega)]
      omega
    simp only [pkl]
    rw [e1, e2, pkl_rwn x hx a h0 n _ (by omega) (by rw [List.length_set]; omega) (by omega), List.range_succ, List.map_append]
    simp only [List.map_cons, List.map_nil, List.append_assoc, List.singleton_append]
    congr 1
    rw [List.drop_eq_getElem_cons (by rw [List.length_set]; omega), List.getElem_set_self, List.drop_set_of_lt (by omega)]
theorem rd_nat (x : List Int) (i : Nat) (h : i < x.length) : rd x (i : Int) = x[i] := by
  simp only [rd, Int.toNat_natCast, getD_at _ _ _ h]
def gS (n : Nat) : Nat := n / 2 ^^^ (if n % 2 = 1 then 299076299051606071403356588563077529600 else 0)
def gM : List Bool → Nat → Nat
  | [], _ => 0
  | b :: t, v => (if b then v else 0) ^^^ gM t (gS v)
def gB : Nat → Nat → List Bool
  | 0, _ => []
  | n + 1, a => a.testBit n :: gB n a
theorem xor_swap4 (a b c d : Nat) : (a ^^^ b) ^^^ (c ^^^ d) = (a ^^^ c) ^^^ (b ^^^ d) := by
  rw [Nat.xor_assoc, Nat.xor_assoc, ← Nat.xor_assoc b c d, Nat.xor_comm b c, Nat.xor_assoc]
theorem gS_xor (a b : Nat) : gS (a ^^^ b) = gS a ^^^ gS b := by
  unfold gS
  have h1 : (a ^^^ b) / 2 = a / 2 ^^^ b / 2 := Nat.xor_div_two
  have h2 : (a ^^^ b) % 2 = 1 ↔ ¬ (a % 2 = 1 ↔ b % 2 = 1) := Nat.xor_mod_two_eq_one
  rw [h1, xor_swap4]
  congr 1
  by_cases ha : a % 2 = 1 <;> by_cases hb : b % 2 = 1 <;> simp [h2, ha, hb]
theorem gS_zero : gS 0 = 0 := by decide
theorem gM_zero : ∀ t, gM t 0 = 0
  | [] => rfl
  | b :: t => by rw [gM, gS_zero, gM_zero t]; cases b <;> rfl
theorem gM_xor : ∀ t u v, gM t (u ^^^ v) = gM t u ^^^ gM t v
  | [], _, _ => by simp [gM]
  | b :: t, u, v => by
    rw [gM, gM, gM, gS_xor, gM_xor t, xor_swap4]
    cases b <;> simp
theorem gM_S : ∀ t v, gM t (gS v) = gS (gM t v)
  | [], _ => gS_zero.symm
  | b :: t, v => by
    rw [gM, gM, gS_xor, gM_S t]
    cases b
    · simp [gS_zero]
    · rfl
theorem gM_comm (s : List Bool) : ∀ t v, gM s (gM t v) = gM t (gM s v)
  | [], _ => gM_zero s
  | b :: t, v => by
    rw [gM, gM, gM_xor, gM_comm s t, gM_S s]
    cases b
    · simp [gM_zero]
    · rfl
theorem gM_append : ∀ s t v, gM (s ++ t) v = gM s v ^^^ gM t (Nat.repeat gS s.length v)
  | [], t, v => by simp [gM, Nat.repeat]
  | b :: s, t, v => by
    have e : ∀ n u, Nat.repeat gS n (gS u) = gS (Nat.repeat gS n u) := by
      intro n
      induction n with
      | zero => intro u; rfl
      | succ n ih => intro u; show gS (Nat.repeat gS n (gS u)) = _; rw [ih]; rfl
    show (if b then v else 0) ^^^ gM (s ++ t) (gS v) = ((if b then v else 0) ^^^ gM s (gS v)) ^^^ gM t (gS (Nat.repeat gS s.length v))
    rw [gM_append s t, e, Nat.xor_assoc]
theorem gS_two (n : Nat) : gS (2 ^ (n + 1)) = 2 ^ n := by
  unfold gS
  have h : 2 ^ (n + 1) % 2 = 0 := by rw [Nat.pow_succ]; omega
  rw [if_neg (by omega), Nat.pow_succ]
  simp
theorem gM_unit : ∀ n b, gM (gB (n + 1) b) (2 ^ n) = b % 2 ^ (n + 1)
  | 0, b => by
    show (if b.testBit 0 then 1 else 0) ^^^ 0 = _
    rw [Nat.xor_zero, Nat.testBit_zero]
    rcases Nat.mod_two_eq_zero_or_one b with h | h <;> simp [h]
  | n + 1, b => by
    have h := gM_unit n b
    rw [gB, gM, gS_two, h]
    have hl : b % 2 ^ (n + 1) < 2 ^ (n + 1) := Nat.mod_lt _ (Nat.two_pow_pos _)
    apply Nat.eq_of_testBit_eq
    intro i
    rw [Nat.testBit_xor, Nat.testBit_mod_two_pow, Nat.testBit_mod_two_pow]
    by_cases hi : i = n + 1
    · subst hi
      cases hb : b.testBit (n + 1) <;> simp [hb, Nat.testBit_two_pow_self]
    · have e : (i < n + 1 + 1) = (i < n + 1) := by simp only [eq_iff_iff]; omega
      simp only [e]
      cases hb : b.testBit (n + 1)
      · simp
      · simp only [↓reduceIte, Nat.testBit_two_pow, show ¬ n + 1 = i from fun h => hi h.symm, decide_false, Bool.false_xor]
/-- the product of the group commutes -/
theorem gM_swap (a b : Nat) (ha : a < 2 ^ 128) (hb : b < 2 ^ 128) : gM (gB 128 a) b = gM (gB 128 b) a := by
  have h1 : gM (gB 128 b) (2 ^ 127) = b := (gM_unit 127 b).trans (Nat.mod_eq_of_lt hb)
  have h2 : gM (gB 128 a) (2 ^ 127) = a := (gM_unit 127 a).trans (Nat.mod_eq_of_lt ha)
  calc gM (gB 128 a) b = gM (gB 128 a) (gM (gB 128 b) (2 ^ 127)) := by rw [h1]
    _ = gM (gB 128 b) (gM (gB 128 a) (2 ^ 127)) := gM_comm _ _ _
    _ = gM (gB 128 b) a := by rw [h2]
theorem rd_map (f : Nat → Int) (n j : Nat) (h : j < n) : rd ((List.range n).map f) (j : Int) = f j := by
  simp only [rd, List.getD_eq_getElem?_getD, Int.toNat_natCast, List.getElem?_map, List.getElem?_range h]
  rfl
def vN (a b : Nat) : Nat := a * 2 ^ 64 + b
theorem bit_vN (a b j : Nat) (hb : b < 2 ^ 64) : (vN a b).testBit j = if j < 64 then b.testBit j else a.testBit (j - 64) := by
  unfold vN
  rw [Nat.mul_comm]
  exact Nat.testBit_two_pow_mul_add a hb j
theorem vN_xor (a b c d : Nat) (hb : b < 2 ^ 64) (hd : d < 2 ^ 64) : vN a b ^^^ vN c d = vN (a ^^^ c) (b ^^^ d) := by
  apply Nat.eq_of_testBit_eq
  intro j
  rw [Nat.testBit_xor, bit_vN _ _ _ hb, bit_vN _ _ _ hd, bit_vN _ _ _ (Nat.xor_lt_two_pow hb hd)]
  by_cases h : j < 64
  · simp only [h, ↓reduceIte, Nat.testBit_xor]
  · simp only [h, ↓reduceIte, Nat.testBit_xor]
theorem vN_lt (a b : Nat) (ha : a < 2 ^ 64) (hb : b < 2 ^ 64) : vN a b < 2 ^ 128 := by unfold vN; omega
theorem gB_congr : ∀ n a b, (∀ i, i < n → a.testBit i = b.testBit i) → gB n a = gB n b
  | 0, _, _, _ => rfl
  | n + 1, a, b, h => by rw [gB, gB, h n (Nat.lt_succ_self n), gB_congr n a b (fun i hi => h i (by omega))]
theorem gB_len : ∀ n a, (gB n a).length = n
  | 0, _ => rfl
  | n + 1, a => by rw [gB, List.length_cons, gB_len n]
theorem gB_vN (c d : Nat) (hd : d < 2 ^ 64) : gB 128 (vN c d) = gB 64 c ++ gB 64 d := by
  have h : ∀ m, gB (m + 64) (vN c d) = gB m c ++ gB 64 d := by
    intro m
    induction m with
    | zero =>
      refine gB_congr _ _ _ fun i hi => ?_
      rw [bit_vN _ _ _ hd, if_pos (by omega)]
    | succ m ih =>
      rw [show m + 1 + 64 = (m + 64) + 1 by omega, gB, ih, gB, bit_vN _ _ _ hd, if_neg (by omega), show m + 64 - 64 = m by omega]
      rfl
  exact h 64
theorem wu64 (x : Int) (h0 : 0 ≤ x) (h1 : x < 18446744073709551616) : IntKind.u64.wrap x = x := by
  rw [IntKind.wrap_u64]
  omega
theorem bx64 (a b : Nat) (ha : a < 2 ^ 64) (hb : b < 2 ^ 64) : Go.bits .xor .u64 (a : Int) (b : Int) = ((a ^^^ b : Nat) : Int) := by
  show IntKind.u64.wrap ((BitVec.ofInt 64 (a : Int) ^^^ BitVec.ofInt 64 (b : Int)).toNat : Int) = _
  have h := Nat.xor_lt_two_pow ha hb
  rw [BitVec.toNat_xor, BitVec.ofInt_natCast, BitVec.ofInt_natCast, BitVec.toNat_ofNat, BitVec.toNat_ofNat, Nat.mod_eq_of_lt ha, Nat.mod_eq_of_lt hb]
  exact wu64 _ (Int.natCast_nonneg _) (by omega)
theorem bx8 (a b : Nat) (ha : a < 256) (hb : b < 256) : Go.bits .xor .u8 (a : Int) (b : Int) = ((a ^^^ b : Nat) : Int) := by
  show IntKind.u8.wrap ((BitVec.ofInt 8 (a : Int) ^^^ BitVec.ofInt 8 (b : Int)).toNat : Int) = _
  have h : a ^^^ b < 2 ^ 8 := Nat.xor_lt_two_pow ha hb
  rw [BitVec.toNat_xor, BitVec.ofInt_natCast, BitVec.ofInt_natCast, BitVec.toNat_ofNat, BitVec.toNat_ofNat, Nat.mod_eq_of_lt ha, Nat.mod_eq_of_lt hb, IntKind.wrap_u8]
  omega
/-- the halves of a shifted element -/
def sL (lo hi : Nat) : Nat := lo / 2 ^^^ (if hi % 2 = 1 then 16212958658533785600 else 0)
def sH (lo hi : Nat) : Nat := hi / 2 + lo % 2 * 9223372036854775808
theorem sL_lt (lo hi : Nat) (h : lo < 2 ^ 64) : sL lo hi < 2 ^ 64 := by
  unfold sL
  refine Nat.xor_lt_two_pow (by omega) ?_
  split <;> omega
theorem sH_lt (lo hi : Nat) (h : hi < 2 ^ 64) : sH lo hi < 2 ^ 64 := by
  unfold sH
  omega
theorem vN_shift (lo hi : Nat) (hh : hi < 2 ^ 64) : vN (sL lo hi) (sH lo hi) = gS (vN lo hi) := by
  have e1 : vN lo hi / 2 = vN (lo / 2) (sH lo hi) := by unfold vN sH; omega
  have e2 : vN lo hi % 2 = hi % 2 := by unfold vN; omega
  unfold gS
  rw [e1, e2]
  have h := sH_lt lo hi hh
  by_cases ho : hi % 2 = 1
  · rw [if_pos ho, show 299076299051606071403356588563077529600 = vN 16212958658533785600 0 from rfl, vN_xor _ _ _ _ h (by omega), sL, if_pos ho, Nat.xor_zero]
  · rw [if_neg ho, Nat.xor_zero, sL, if_neg ho, Nat.xor_zero]
theorem tmod2 (a : Nat) : Int.tmod (a : Int) 2 = 1 ↔ a % 2 = 1 := by
  rw [Int.tmod_eq_emod_of_nonneg (Int.natCast_nonneg _)]
  omega
theorem b_or63 (a b : Nat) (ha : a < 9223372036854775808) (hb : b < 2) : Go.bits .or .u64 (a : Int) ((b * 9223372036854775808 : Nat) : Int) = ((a + b * 9223372036854775808 : Nat) : Int) := by
  show IntKind.u64.wrap ((BitVec.ofInt 64 (a : Int) ||| BitVec.ofInt 64 ((b * 9223372036854775808 : Nat) : Int)).toNat : Int) = _
  rw [BitVec.toNat_or, BitVec.ofInt_natCast, BitVec.ofInt_natCast, BitVec.toNat_ofNat, BitVec.toNat_ofNat, Nat.mod_eq_of_lt (by omega), Nat.mod_eq_of_lt (by omega)]
  have h := Nat.shiftLeft_add_eq_or_of_lt (i := 63) (b := a) ha b
  rw [Nat.shiftLeft_eq] at h
  rw [Nat.or_comm, ← show 2 ^ 63 = 9223372036854775808 from rfl, ← h, Nat.add_comm]
  exact wu64 _ (Int.natCast_nonneg _) (by omega)
theorem shifted_at (lo hi : Nat) (hl : lo < 2 ^ 64) (hh : hi < 2 ^ 64) : impl_element_shifted.f (lo : Int) (hi : Int) = some (((sL lo hi : Nat) : Int), ((sH lo hi : Nat) : Int)) := by
  unfold impl_element_shifted.f
  have e1 : (lo : Int) / 2 = ((lo / 2 : Nat) : Int) := by omega
  have e2 : (hi : Int) / 2 = ((hi / 2 : Nat) : Int) := by omega
  have e3 : IntKind.u64.wrap ((lo : Int) * 9223372036854775808) = ((lo % 2 * 9223372036854775808 : Nat) : Int) := by
    rw [IntKind.wrap_u64]
    omega
  rw [e1, e2, e3, b_or63 _ _ (by omega) (by omega)]
  by_cases ho : hi % 2 = 1
  · rw [if_pos ((tmod2 hi).2 ho), show (16212958658533785600 : Int) = ((16212958658533785600 : Nat) : Int) from rfl, bx64 _ _ (by omega) (by omega), sL, if_pos ho, sH]
  · rw [if_neg (fun h => ho ((tmod2 hi).1 h)), sL, if_neg ho, sH, Nat.xor_zero]
theorem shr_bit (x n : Nat) (hn : n < 64) : Int.tmod (shr .u64 (x : Int) (n : Int)) 2 = 1 ↔ x.testBit n = true := by
  have e : shr .u64 (x : Int) (n : Int) = ((x / 2 ^ n : Nat) : Int) := by
    unfold shr
    rw [show min (n : Int).toNat (IntKind.bits .u64) = n from by show min n 64 = n; omega]
    rw [Int.natCast_ediv, Int.natCast_pow]
    rfl
  rw [e, tmod2, Nat.testBit_eq_decide_div_mod_eq, decide_eq_true_eq]
theorem gM_xrep (n : Nat) (v : Nat) : Nat.repeat gS n (gS v) = gS (Nat.repeat gS n v) := by
  induction n with
  | zero => rfl
  | succ n ih => show gS (Nat.repeat gS n (gS v)) = _; rw [ih]; rfl
theorem times_l1 (y : List Int) (c i : Int) (x : Nat) : ∀ n, n ≤ 64 → ∀ k e0 e1 o0 o1 : Nat, e0 < 2 ^ 64 → e1 < 2 ^ 64 → o0 < 2 ^ 64 → o1 < 2 ^ 64 →
    ∃ f0 f1 p0 p1 : Nat, f0 < 2 ^ 64 ∧ f1 < 2 ^ 64 ∧ p0 < 2 ^ 64 ∧ p1 < 2 ^ 64 ∧ vN f0 f1 = Nat.repeat gS n (vN e0 e1) ∧ vN p0 p1 = vN o0 o1 ^^^ gM (gB n x) (vN e0 e1) ∧
      impl_element_times.l1 (k + n + 1) (x : Int) ((n : Int) - 1) y c i e0 e1 o0 o1 = impl_element_times.l0 k y c (wrap64 (i + 1)) f0 f1 p0 p1
  | 0, _, k, e0, e1, o0, o1, h1, h2, h3, h4 => ⟨e0, e1, o0, o1, h1, h2, h3, h4, rfl, by simp [gB, gM], by
      show impl_element_times.l1 (k + 1) _ _ _ _ _ _ _ _ _ = _
      rw [impl_element_times.l1, if_neg (by omega)]⟩
  | n + 1, hn, k, e0, e1, o0, o1, h1, h2, h3, h4 => by
    have hx : Int.tmod (shr .u64 (x : Int) (((n + 1 : Nat) : Int) - 1)) 2 = 1 ↔ x.testBit n = true := by
      rw [show (((n + 1 : Nat) : Int) - 1) = (n : Int) by omega]
      exact shr_bit x n (by omega)
    have hw : wrap64 ((((n + 1 : Nat) : Int) - 1) - 1) = (n : Int) - 1 := by
      rw [w64 (by omega) (by omega)]
      omega
    have hs0 := sL_lt e0 e1 h1
    have hs1 := sH_lt e0 e1 h2
    by_cases hb : x.testBit n = true
    · have hp := vN_xor o0 o1 e0 e1 h4 h2
      obtain ⟨f0, f1, p0, p1, g1, g2, g3, g4, g5, g6, g7⟩ := times_l1 y c i x n (by omega) k (sL e0 e1) (sH e0 e1) (o0 ^^^ e0) (o1 ^^^ e1) hs0 hs1 (Nat.xor_lt_two_pow h3 h1) (Nat.xor_lt_two_pow h4 h2)
      refine ⟨f0, f1, p0, p1, g1, g2, g3, g4, ?_, ?_, ?_⟩
      · rw [g5, vN_shift _ _ h2, gM_xrep]; rfl
      · rw [g6, vN_shift _ _ h2, gB, gM, hb, if_pos rfl, ← hp, Nat.xor_assoc]
      · rw [show k + (n + 1) + 1 = (k + n + 1) + 1 by omega, impl_element_times.l1, if_pos (by omega), if_pos (by omega), if_pos (hx.2 hb), impl_element_plus.f, Option.bind_some]
        rw [bx64 _ _ h3 h1, bx64 _ _ h4 h2, shifted_at _ _ h1 h2, Option.bind_some, hw]
        exact g7
    · obtain ⟨f0, f1, p0, p1, g1, g2, g3, g4, g5, g6, g7⟩ := times_l1 y c i x n (by omega) k (sL e0 e1) (sH e0 e1) o0 o1 hs0 hs1 h3 h4
      refine ⟨f0, f1, p0, p1, g1, g2, g3, g4, ?_, ?_, ?_⟩
      · rw [g5, vN_shift _ _ h2, gM_xrep]; rfl
      · rw [g6, vN_shift _ _ h2, gB, gM, Bool.eq_false_iff.2 hb]
        simp
      · rw [show k + (n + 1) + 1 = (k + n + 1) + 1 by omega, impl_element_times.l1, if_pos (by omega), if_pos (by omega), if_neg (fun h => hb (hx.1 h)), shifted_at _ _ h1 h2, Option.bind_some, hw]
        exact g7
/-- impl's product -/
theorem times_at (a b c d : Nat) (ha : a < 2 ^ 64) (hb : b < 2 ^ 64) (hc : c < 2 ^ 64) (hd : d < 2 ^ 64) : ∃ r0 r1 : Nat, r0 < 2 ^ 64 ∧ r1 < 2 ^ 64 ∧ vN r0 r1 = gM (gB 128 (vN c d)) (vN a b) ∧ ∀ k, 133 ≤ k → impl_element_times.f k (a : Int) (b : Int) (c : Int) (d : Int) = some ((r0 : Int), (r1 : Int)) := by
  have h0 : (0 : Nat) < 2 ^ 64 := by decide
  have main : ∀ k, ∃ r0 r1 : Nat, r0 < 2 ^ 64 ∧ r1 < 2 ^ 64 ∧ vN r0 r1 = gM (gB 128 (vN c d)) (vN a b) ∧ impl_element_times.f (k + 133) (a : Int) (b : Int) (c : Int) (d : Int) = some ((r0 : Int), (r1 : Int)) := by
    intro k
    obtain ⟨f0, f1, p0, p1, g1, g2, g3, g4, g5, g6, g7⟩ := times_l1 [(c : Int), (d : Int)] 2 0 c 64 (by omega) (k + 67) a b 0 0 ha hb h0 h0
    obtain ⟨q0, q1, r0, r1, j1, j2, j3, j4, j5, j6, j7⟩ := times_l1 [(c : Int), (d : Int)] 2 1 d 64 (by omega) (k + 1) f0 f1 p0 p1 g1 g2 g3 g4
    refine ⟨r0, r1, j3, j4, ?_, ?_⟩
    · rw [j6, g6, g5, gB_vN _ _ hd, gM_append, gB_len, show vN 0 0 = 0 from rfl, Nat.zero_xor]
    · unfold impl_element_times.f
      rw [Option.bind_some]
      show impl_element_times.l0 (k + 132 + 1) _ 2 0 _ _ _ _ = _
      rw [impl_element_times.l0, if_pos (by omega), if_pos (by omega), if_pos (by show (0 : Int) < 2; omega)]
      refine Eq.trans g7 ?_
      rw [show wrap64 (0 + 1) = 1 from w64 (by omega) (by omega)]
      show impl_element_times.l0 (k + 66 + 1) _ 2 1 _ _ _ _ = _
      rw [impl_element_times.l0, if_pos (by omega), if_pos (by omega), if_pos (by show (1 : Int) < 2; omega)]
      refine Eq.trans j7 ?_
      rw [show wrap64 (1 + 1) = 2 from w64 (by omega) (by omega)]
      show impl_element_times.l0 (k + 1) _ 2 2 _ _ _ _ = _
      rw [impl_element_times.l0, if_neg (by omega)]
  obtain ⟨r0, r1, h1, h2, h3, h4⟩ := main 0
  refine ⟨r0, r1, h1, h2, h3, fun k hk => ?_⟩
  obtain ⟨q0, q1, i1, i2, i3, i4⟩ := main (k - 133)
  rw [show k - 133 + 133 = k by omega] at i4
  rw [i4]
  have e : vN q0 q1 = vN r0 r1 := i3.trans h3.symm
  unfold vN at e
  rw [show q0 = r0 by omega, show q1 = r1 by omega]
def hn (l : List Int) (a n : Nat) : Nat := (hvl l a n).toNat
theorem hn_cast (l : List Int) (hb : ∀ y ∈ l, 0 ≤ y ∧ y ≤ 255) (a n : Nat) (h : a + n ≤ l.length) : ((hn l a n : Nat) : Int) = hvl l a n := by
  have := (hv_range l hb a (Int.natCast_nonneg _) n (by omega)).1
  unfold hn
  omega
theorem hn_lt (l : List Int) (hb : ∀ y ∈ l, 0 ≤ y ∧ y ≤ 255) (a : Nat) (h : a + 8 ≤ l.length) : hn l a 8 < 2 ^ 64 := by
  have h1 := hv_range l hb a (Int.natCast_nonneg _) 8 (by omega)
  have h2 : (256 : Int) ^ 8 = 18446744073709551616 := by decide
  unfold hn
  omega
theorem hn_succ (l : List Int) (hb : ∀ y ∈ l, 0 ≤ y ∧ y ≤ 255) (a n : Nat) (h : a + n < l.length) : hn l a (n + 1) = 2 ^ 8 * hn l a n + (rd l ((a + n : Nat) : Int)).toNat := by
  have h1 := (hv_range l hb a (Int.natCast_nonneg _) n (by omega)).1
  have h2 := rd_byte hb ((a + n : Nat) : Int) (by omega) (by omega)
  unfold hn
  rw [hvl]
  push_cast at *
  omega
theorem hn_bit (l : List Int) (hb : ∀ y ∈ l, 0 ≤ y ∧ y ≤ 255) (a j b : Nat) (hbb : b < 8) : ∀ n, j < n → a + n ≤ l.length → (hn l a n).testBit (8 * (n - 1 - j) + b) = (rd l ((a + j : Nat) : Int)).toNat.testBit b
  | 0, h, _ => absurd h (by omega)
  | n + 1, h, hl => by
    have h2 := rd_byte hb ((a + n : Nat) : Int) (by omega) (by omega)
    rw [hn_succ l hb a n (by omega), Nat.testBit_two_pow_mul_add _ (by omega)]
    by_cases hj : j = n
    · subst hj
      rw [if_pos (by omega), show 8 * (j + 1 - 1 - j) + b = b by omega]
    · rw [if_neg (by omega), show 8 * (n + 1 - 1 - j) + b - 8 = 8 * (n - 1 - j) + b by omega]
      exact hn_bit l hb a j b hbb n (by omega) (by omega)
/-- sixteen bytes as one number -/
def bN (l : List Int) : Nat := vN (hn l 0 8) (hn l 8 8)
theorem bN_lt (l : List Int) (hb : ∀ y ∈ l, 0 ≤ y ∧ y ≤ 255) (hl : l.length = 16) : bN l < 2 ^ 128 := vN_lt _ _ (hn_lt l hb 0 (by omega)) (hn_lt l hb 8 (by omega))
theorem bN_bit (l : List Int) (hb : ∀ y ∈ l, 0 ≤ y ∧ y ≤ 255) (hl : l.length = 16) (q s : Nat) (hq : q < 16) (hs : s < 8) : (bN l).testBit (127 - (8 * q + s)) = (rd l (q : Int)).toNat.testBit (7 - s) := by
  have h8 := hn_lt l hb 8 (by omega)
  unfold bN
  rw [bit_vN _ _ _ h8]
  by_cases h : q < 8
  · rw [if_neg (by omega), show 127 - (8 * q + s) - 64 = 8 * (8 - 1 - q) + (7 - s) by omega, hn_bit l hb 0 q (7 - s) (by omega) 8 h (by omega), Nat.zero_add]
  · rw [if_pos (by omega), show 127 - (8 * q + s) = 8 * (8 - 1 - (q - 8)) + (7 - s) by omega, hn_bit l hb 8 (q - 8) (7 - s) (by omega) 8 (by omega) (by omega), show 8 + (q - 8) = q by omega]
theorem hv_drop (l : List Int) (a : Nat) : ∀ n, hvl (l.drop a) 0 n = hvl l a n
  | 0 => rfl
  | n + 1 => by
    rw [hvl, hvl, hv_drop l a n, Int.zero_add]
    congr 1
    show rd (l.drop a) (n : Int) = rd l ((a : Int) + n)
    simp only [rd, List.getD_eq_getElem?_getD, List.getElem?_drop]
    rw [show ((a : Int) + (n : Int)).toNat = a + (n : Int).toNat by omega]
theorem half_at (l : List Int) (hb : ∀ y ∈ l, 0 ≤ y ∧ y ≤ 255) (hl : 8 ≤ l.length) (k : Nat) (hk : 9 ≤ k) : spec_l3Half.f k l = some (hvl l 0 8) := by
  unfold spec_l3Half.f
  refine loop_up (fun k n i => spec_l3Half.l0 k l n i) 8 0 (fun _ _ => hvl l 0 8) (fun n i => n = hvl l 0 i) ?_ ?_ k 0 0 0 rfl (by omega) rfl (by omega)
  · intro k n hn _
    rw [spec_l3Half.l0, if_neg (by omega), hn]
  · intro k n i hi hn _ ih
    have b := rd_byte hb (i : Int) (by omega) (by omega)
    have r := hv_range l hb 0 (by omega) i (by omega)
    have hp : (256 : Int) ^ i ≤ 72057594037927936 := by
      have : i = 0 ∨ i = 1 ∨ i = 2 ∨ i = 3 ∨ i = 4 ∨ i = 5 ∨ i = 6 ∨ i = 7 := by omega
      rcases this with h | h | h | h | h | h | h | h <;> subst h <;> decide
    subst hn
    rw [spec_l3Half.l0, if_pos (by omega), if_pos (by omega), if_pos (by omega), wu64 (hvl l 0 i * 256) (by omega) (by omega), wu64 (rd l i) (by omega) (by omega), wu64 _ (by omega) (by omega), w64 (by omega) (by omega)]
    exact ih _ (by rw [hvl, Int.zero_add])
theorem bytes_l0 (hi lo : Int) (h0 : 0 ≤ hi) (h1 : 0 ≤ lo) (g0 : hi < 18446744073709551616) (g1 : lo < 18446744073709551616) : ∀ n : Nat, n ≤ 8 → ∀ k, spec_l3Bytes.l0 (k + n + 1) (hi / 256 ^ (8 - n)) (lo / 256 ^ (8 - n)) (bpt hi lo ((n : Int) - 1)) ((n : Int) - 1) = some (bytv hi lo)
  | 0, _, k => by
    rw [spec_l3Bytes.l0, if_neg (by omega), show ((0 : Nat) : Int) - 1 = -1 from rfl, bpt_all]
  | n + 1, hn, k => by
    have p := Int.pow_pos (n := 256) (m := 8 - (n + 1)) (by decide)
    have q0 := Int.ediv_nonneg h0 (Int.le_of_lt p)
    have q1 := Int.ediv_nonneg h1 (Int.le_of_lt p)
    have r0 := Int.ediv_le_self (b := 256 ^ (8 - (n + 1))) h0
    have r1 := Int.ediv_le_self (b := 256 ^ (8 - (n + 1))) h1
    have e : ((n + 1 : Nat) : Int) - 1 = (n : Int) := by omega
    have hs := bpt_step hi lo (n : Int) (by omega) (by omega)
    have d0 := div_step hi (n : Int) (by omega) (by omega)
    have d1 := div_step lo (n : Int) (by omega) (by omega)
    rw [show (7 - (n : Int)).toNat = 8 - (n + 1) by omega] at hs d0 d1
    rw [show (7 - ((n : Int) - 1)).toNat = 8 - n by omega] at d0 d1
    have hl : (bpt hi lo (n : Int)).length = 16 := fnl_len _
    rw [e]
    generalize hi / 256 ^ (8 - (n + 1)) = a at *
    generalize lo / 256 ^ (8 - (n + 1)) = b at *
    rw [show k + (n + 1) + 1 = (k + n + 1) + 1 by omega, spec_l3Bytes.l0, if_pos (by omega), if_pos (by omega), if_pos (by rw [hl]; omega), w64 (show -9223372036854775808 ≤ 8 + (n : Int) by omega) (by omega), if_pos (by omega), if_pos (by rw [hl]; omega), w64 (show -9223372036854775808 ≤ (n : Int) - 1 by omega) (by omega), Int.tdiv_eq_ediv_of_nonneg q0, Int.tdiv_eq_ediv_of_nonneg q1, Int.tmod_eq_emod_of_nonneg q0, Int.tmod_eq_emod_of_nonneg q1, Int.emod_emod_of_dvd _ (Int.dvd_refl _), Int.emod_emod_of_dvd _ (Int.dvd_refl _), wu64 (a / 256) (by omega) (by omega), wu64 (b / 256) (by omega) (by omega), Int.add_comm 8 (n : Int), hs, d0, d1]
    exact bytes_l0 hi lo h0 h1 g0 g1 n (by omega) k
theorem bytes_at (hi lo : Nat) (g0 : hi < 2 ^ 64) (g1 : lo < 2 ^ 64) (k : Nat) (hk : 9 ≤ k) : spec_l3Bytes.f k hi lo = some (bytv hi lo) := by
  unfold spec_l3Bytes.f
  have h := bytes_l0 hi lo (by omega) (by omega) (by omega) (by omega) 8 (by omega) (k - 9)
  rw [if_pos (by omega)]
  rw [show ((8 : Nat) : Int) - 1 = 7 from rfl, bpt_top, show k - 9 + 8 + 1 = k by omega, show 8 - 8 = 0 from rfl, Int.pow_zero, Int.ediv_one, Int.ediv_one] at h
  exact h
theorem shr8_bit (x n : Nat) (hn : n < 8) : Int.tmod (shr .u8 (x : Int) (n : Int)) 2 = 1 ↔ x.testBit n = true := by
  have e : shr .u8 (x : Int) (n : Int) = ((x / 2 ^ n : Nat) : Int) := by
    unfold shr
    rw [show min (n : Int).toNat (IntKind.bits .u8) = n from by show min n 8 = n; omega]
    rw [Int.natCast_ediv, Int.natCast_pow]
    rfl
  rw [e, tmod2, Nat.testBit_eq_decide_div_mod_eq, decide_eq_true_eq]
theorem half_shift (h l : Nat) (hh : h < 2 ^ 64) (hl : l < 2 ^ 64) : IntKind.u64.wrap ((IntKind.u64.wrap (Int.tdiv (l : Int) 2)) + (IntKind.u64.wrap ((Int.tmod (h : Int) 2) * 9223372036854775808))) = ((sH h l : Nat) : Int) := by
  rw [Int.tdiv_eq_ediv_of_nonneg (by omega), Int.tmod_eq_emod_of_nonneg (by omega), wu64 ((l : Int) / 2) (by omega) (by omega), wu64 ((h : Int) % 2 * 9223372036854775808) (by omega) (by omega), wu64 _ (by omega) (by omega)]
  unfold sH
  omega
theorem half_low (h : Nat) (hh : h < 2 ^ 64) : IntKind.u64.wrap (Int.tdiv (h : Int) 2) = ((h / 2 : Nat) : Int) := by
  rw [Int.tdiv_eq_ediv_of_nonneg (by omega), wu64 _ (by omega) (by omega)]
  omega
theorem idx_facts (n q s : Nat) (hn : n + 1 ≤ 128) (hq : q < 16) (hs : s < 8) (hi : 128 - (n + 1) = 8 * q + s) : wrap64 (Int.tdiv ((128 - (n + 1) : Nat) : Int) 8) = (q : Int) ∧ IntKind.u64.wrap (7 - (IntKind.u64.wrap (Int.tmod ((128 - (n + 1) : Nat) : Int) 8))) = ((7 - s : Nat) : Int) ∧ wrap64 (((128 - (n + 1) : Nat) : Int) + 1) = ((128 - n : Nat) : Int) := by
  have e : ((128 - (n + 1) : Nat) : Int) = 8 * (q : Int) + (s : Int) := by omega
  have e0 : (128 - n : Nat) = (128 - (n + 1) : Nat) + 1 := by omega
  have e7 : ((7 - s : Nat) : Int) = 7 - (s : Int) := by omega
  have hs' : (s : Int) < 8 := by omega
  have hq' : (q : Int) < 16 := by omega
  have hs0 : 0 ≤ (s : Int) := Int.natCast_nonneg _
  have hq0 : 0 ≤ (q : Int) := Int.natCast_nonneg _
  have e9 : ((128 - n : Nat) : Int) = 8 * (q : Int) + (s : Int) + 1 := by rw [e0, Int.natCast_add, e]; rfl
  rw [e9, e, e7, Int.tdiv_eq_ediv_of_nonneg (by omega), Int.tmod_eq_emod_of_nonneg (by omega)]
  clear e9 e e7 e0 hi
  generalize (q : Int) = x at *
  generalize (s : Int) = y at *
  have h1 : (8 * x + y) / 8 = x := by omega
  have h2 : (8 * x + y) % 8 = y := by omega
  refine ⟨?_, ?_, ?_⟩
  · rw [h1, w64 (by omega) (by omega)]
  · rw [h2, wu64 y (by omega) (by omega), wu64 (7 - y) (by omega) (by omega)]
  · rw [w64 (by omega) (by omega)]
set_option maxHeartbeats 4000000 in
theorem stimes_l0 (a : List Int) (ha : ∀ y ∈ a, 0 ≤ y ∧ y ≤ 255) (hal : a.length = 16) : ∀ n, n ≤ 128 → ∀ k x y h l : Nat, x < 2 ^ 64 → y < 2 ^ 64 → h < 2 ^ 64 → l < 2 ^ 64 →
    ∃ p0 p1 : Nat, p0 < 2 ^ 64 ∧ p1 < 2 ^ 64 ∧ vN p0 p1 = vN x y ^^^ gM (gB n (bN a)) (vN h l) ∧ spec_l3Times.l0 (k + 9 + n + 1) a x y h l ((128 - n : Nat) : Int) = some (bytv p0 p1)
  | 0, _, k, x, y, h, l, h1, h2, h3, h4 => ⟨x, y, h1, h2, by simp [gB, gM], by
      rw [spec_l3Times.l0, if_neg (by omega), bytes_at _ _ h1 h2 _ (by omega)]
      rfl⟩
  | n + 1, hn, k, x, y, h, l, h1, h2, h3, h4 => by
    obtain ⟨q, s, hq, hs, hi⟩ : ∃ q s, q < 16 ∧ s < 8 ∧ 128 - (n + 1) = 8 * q + s := ⟨(127 - n) / 8, (127 - n) % 8, by omega, by omega, by omega⟩
    have hb : (bN a).testBit n = (rd a (q : Int)).toNat.testBit (7 - s) := by
      rw [← bN_bit a ha hal q s hq hs]
      congr 1
      omega
    have hr := rd_byte ha (q : Int) (by omega) (by omega)
    have hx : Int.tmod (shr .u8 (rd a (q : Int)) ((7 - s : Nat) : Int)) 2 = 1 ↔ (bN a).testBit n = true := by
      rw [hb]
      have := shr8_bit (rd a (q : Int)).toNat (7 - s) (by omega)
      rwa [Int.toNat_of_nonneg hr.1] at this
    have hs0 := sL_lt h l h3
    have hs1 := sH_lt h l h4
    have eL : ∀ c : Int, c = (if l % 2 = 1 then Go.bits .xor .u64 (IntKind.u64.wrap (Int.tdiv (h : Int) 2)) 16212958658533785600 else IntKind.u64.wrap (Int.tdiv (h : Int) 2)) → c = ((sL h l : Nat) : Int) := by
      intro c hc
      subst hc
      unfold sL
      rw [half_low h h3]
      by_cases ho : l % 2 = 1
      · rw [if_pos ho, if_pos ho, show (16212958658533785600 : Int) = ((16212958658533785600 : Nat) : Int) from rfl, bx64 _ _ (by omega) (by omega)]
      · rw [if_neg ho, if_neg ho, Nat.xor_zero]
    have fin : ∀ x' y' : Nat, x' < 2 ^ 64 → y' < 2 ^ 64 → vN x' y' = vN x y ^^^ (if (bN a).testBit n = true then vN h l else 0) → ∃ p0 p1 : Nat, p0 < 2 ^ 64 ∧ p1 < 2 ^ 64 ∧ vN p0 p1 = vN x y ^^^ gM (gB (n + 1) (bN a)) (vN h l) ∧ spec_l3Times.l0 (k + 9 + n + 1) a x' y' (sL h l : Nat) (sH h l : Nat) ((128 - n : Nat) : Int) = some (bytv p0 p1) := by
      intro x' y' g1 g2 g3
      obtain ⟨p0, p1, j1, j2, j3, j4⟩ := stimes_l0 a ha hal n (by omega) k x' y' (sL h l) (sH h l) g1 g2 hs0 hs1
      refine ⟨p0, p1, j1, j2, ?_, j4⟩
      rw [j3, g3, vN_shift _ _ h4, gB, gM, Nat.xor_assoc]
    have cA : ((128 - (n + 1) : Nat) : Int) < 128 := by omega
    have cB : 0 ≤ (q : Int) := by omega
    have cC : (q : Int) < (a.length : Int) := by omega
    have cD : 0 ≤ ((7 - s : Nat) : Int) := by omega
    have cK : k + 9 + (n + 1) + 1 = (k + 9 + n + 1) + 1 := by omega
    obtain ⟨e1, e2, e3⟩ := idx_facts n q s (by omega) hq hs hi
    rw [cK, spec_l3Times.l0, if_pos cA, e1, if_pos cB, if_pos cC, e2, if_pos cD, e3, half_shift h l h3 h4]
    by_cases hbit : (bN a).testBit n = true
    · rw [if_pos (hx.2 hbit)]
      have f := fin (x ^^^ h) (y ^^^ l) (Nat.xor_lt_two_pow h1 h3) (Nat.xor_lt_two_pow h2 h4) (by rw [if_pos hbit, vN_xor _ _ _ _ h2 h4])
      rw [bx64 x h h1 h3, bx64 y l h2 h4]
      by_cases ho : l % 2 = 1
      · rw [if_pos ((tmod2 l).2 ho), eL (Go.bits .xor .u64 (IntKind.u64.wrap (Int.tdiv (h : Int) 2)) 16212958658533785600) (by rw [if_pos ho])]
        exact f
      · rw [if_neg (fun z => ho ((tmod2 l).1 z)), eL (IntKind.u64.wrap (Int.tdiv (h : Int) 2)) (by rw [if_neg ho])]
        exact f
    · rw [if_neg (fun z => hbit (hx.1 z))]
      have f := fin x y h1 h2 (by rw [if_neg hbit, Nat.xor_zero])
      by_cases ho : l % 2 = 1
      · rw [if_pos ((tmod2 l).2 ho), eL (Go.bits .xor .u64 (IntKind.u64.wrap (Int.tdiv (h : Int) 2)) 16212958658533785600) (by rw [if_pos ho])]
        exact f
      · rw [if_neg (fun z => ho ((tmod2 l).1 z)), eL (IntKind.u64.wrap (Int.tdiv (h : Int) 2)) (by rw [if_neg ho])]
        exact f
/-- spec's product -/
theorem stimes_at (a b : List Int) (ha : ∀ y ∈ a, 0 ≤ y ∧ y ≤ 255) (hal : a.length = 16) (hb : ∀ y ∈ b, 0 ≤ y ∧ y ≤ 255) (hbl : b.length = 16) : ∃ p0 p1 : Nat, p0 < 2 ^ 64 ∧ p1 < 2 ^ 64 ∧ vN p0 p1 = gM (gB 128 (bN a)) (bN b) ∧ ∀ k, 138 ≤ k → spec_l3Times.f k a b = some (bytv p0 p1) := by
  have main : ∀ k, 138 ≤ k → ∃ p0 p1 : Nat, p0 < 2 ^ 64 ∧ p1 < 2 ^ 64 ∧ vN p0 p1 = gM (gB 128 (bN a)) (bN b) ∧ spec_l3Times.f k a b = some (bytv p0 p1) := by
    intro k hk
    obtain ⟨p0, p1, h1, h2, h3, h4⟩ := stimes_l0 a ha hal 128 (by omega) (k - 138) 0 0 (hn b 0 8) (hn b 8 8) (by decide) (by decide) (hn_lt b hb 0 (by omega)) (hn_lt b hb 8 (by omega))
    refine ⟨p0, p1, h1, h2, by rw [h3, show vN 0 0 = 0 from rfl, Nat.zero_xor]; rfl, ?_⟩
    unfold spec_l3Times.f
    have c0 := hn_cast b hb 0 8 (by omega)
    have c8 := hn_cast b hb 8 8 (by omega)
    rw [half_at b hb (by omega) k (by omega), Option.bind_some, if_pos (by omega), half_at (b.drop 8) (fun y hy => hb y (List.mem_of_mem_drop hy)) (by rw [List.length_drop]; omega) k (by omega), Option.bind_some, hv_drop b 8 8]
    rw [c0, c8, show k - 138 + 9 + 128 + 1 = k by omega] at h4
    exact h4
  obtain ⟨p0, p1, h1, h2, h3, _⟩ := main 138 (by omega)
  refine ⟨p0, p1, h1, h2, h3, fun k hk => ?_⟩
  obtain ⟨q0, q1, g1, g2, g3, g4⟩ := main k hk
  have e : vN q0 q1 = vN p0 p1 := g3.trans h3.symm
  unfold vN at e
  rw [g4, show q0 = p0 by omega, show q1 = p1 by omega]
theorem hvl_bytv0 (p q : Nat) (hp : p < 2 ^ 64) : ∀ n, n ≤ 8 → hvl (bytv p q) 0 n = (p : Int) / 256 ^ (8 - n)
  | 0, _ => by
    have e : (256 : Int) ^ (8 - 0) = 18446744073709551616 := by decide
    rw [hvl, e]
    omega
  | n + 1, h => by
    have d := div_step (p : Int) (n : Int) (by omega) (by omega)
    rw [show (7 - (n : Int)).toNat = 8 - (n + 1) by omega, show (7 - ((n : Int) - 1)).toNat = 8 - n by omega] at d
    rw [hvl, hvl_bytv0 p q hp n (by omega), Int.zero_add, bytv, fnl, rd_map _ _ _ (by omega), byt, if_pos (by omega), ← d, show 7 - n = 8 - (n + 1) by omega]
    omega
theorem hvl_bytv8 (p q : Nat) (hq : q < 2 ^ 64) : ∀ n, n ≤ 8 → hvl (bytv p q) 8 n = (q : Int) / 256 ^ (8 - n)
  | 0, _ => by
    have e : (256 : Int) ^ (8 - 0) = 18446744073709551616 := by decide
    rw [hvl, e]
    omega
  | n + 1, h => by
    have d := div_step (q : Int) (n : Int) (by omega) (by omega)
    rw [show (7 - (n : Int)).toNat = 8 - (n + 1) by omega, show (7 - ((n : Int) - 1)).toNat = 8 - n by omega] at d
    rw [hvl, hvl_bytv8 p q hq n (by omega), show (8 : Int) + (n : Int) = ((8 + n : Nat) : Int) by omega, bytv, fnl, rd_map _ _ _ (by omega), byt, if_neg (by omega), ← d, show 15 - (8 + n) = 8 - (n + 1) by omega]
    omega
theorem bN_bytv (p q : Nat) (hp : p < 2 ^ 64) (hq : q < 2 ^ 64) : bN (bytv p q) = vN p q := by
  unfold bN hn
  have e0 := hvl_bytv0 p q hp 8 (by omega)
  have e8 := hvl_bytv8 p q hq 8 (by omega)
  rw [show 8 - 8 = 0 from rfl, Int.pow_zero, Int.ediv_one] at e0 e8
  rw [show ((0 : Nat) : Int) = 0 from rfl, show ((8 : Nat) : Int) = 8 from rfl, e0, e8]
  rfl
theorem xr_nat (a b : Int) (ha : 0 ≤ a ∧ a ≤ 255) (hb : 0 ≤ b ∧ b ≤ 255) : (xr a b).toNat = a.toNat ^^^ b.toNat := by
  obtain ⟨m, rfl⟩ := Int.eq_ofNat_of_zero_le ha.1
  obtain ⟨n, rfl⟩ := Int.eq_ofNat_of_zero_le hb.1
  unfold xr
  rw [bx8 m n (by omega) (by omega)]
  rfl
theorem xrl_byte (a b : List Int) : ∀ y ∈ xrl a b, 0 ≤ y ∧ y ≤ 255 := by
  intro y hy
  obtain ⟨j, _, rfl⟩ := List.mem_map.1 hy
  exact xr_byte _ _
theorem bN_xrl (a b : List Int) (ha : ∀ y ∈ a, 0 ≤ y ∧ y ≤ 255) (hal : a.length = 16) (hb : ∀ y ∈ b, 0 ≤ y ∧ y ≤ 255) (hbl : b.length = 16) : bN (xrl a b) = bN a ^^^ bN b := by
  apply Nat.eq_of_testBit_eq
  intro i
  rw [Nat.testBit_xor]
  by_cases hi : i < 128
  · obtain ⟨q, s, hq, hs, e⟩ : ∃ q s, q < 16 ∧ s < 8 ∧ i = 127 - (8 * q + s) := ⟨(127 - i) / 8, (127 - i) % 8, by omega, by omega, by omega⟩
    subst e
    rw [bN_bit _ (xrl_byte a b) (xrl_len a b) q s hq hs, bN_bit a ha hal q s hq hs, bN_bit b hb hbl q s hq hs, xrl, rd_map _ _ _ hq, xrf, xr_nat _ _ (rd_byte ha _ (by omega) (by omega)) (rd_byte hb _ (by omega) (by omega)), Nat.testBit_xor]
  · have f : ∀ x, x < 2 ^ 128 → x.testBit i = false := fun x hx => Nat.testBit_lt_two_pow (Nat.lt_of_lt_of_le hx (Nat.pow_le_pow_right (by omega) (by omega)))
    rw [f _ (bN_lt _ (xrl_byte a b) (xrl_len a b)), f _ (bN_lt a ha hal), f _ (bN_lt b hb hbl)]
    rfl
theorem xor_at (a b : List Int) (h : a.length ≤ b.length) (hl : a.length ≤ 1048576) (k : Nat) (hk : a.length < k) : spec_l1Xor.f k a b = some ((List.range a.length).map fun (j : Nat) => xr (rd a (j : Int)) (rd b (j : Int))) := by
  unfold spec_l1Xor.f
  refine loop_up (fun k s i => spec_l1Xor.l0 k a b s i) a.length 0 (fun _ _ => (List.range a.length).map fun (j : Nat) => xr (rd a (j : Int)) (rd b (j : Int))) (fun s i => s = (List.range i).map fun (j : Nat) => xr (rd a (j : Int)) (rd b (j : Int))) ?_ ?_ k [] 0 0 rfl (Nat.zero_le _) rfl (by omega)
  · intro k s hs _
    rw [spec_l1Xor.l0, if_neg (by omega), hs]
  · intro k s i hi hs _ ih
    have hsl : s.length = i := by rw [hs]; simp
    rw [spec_l1Xor.l0, if_pos (by omega), if_pos (by omega), if_pos (by omega), if_pos (by omega), w64 (by omega) (by omega)]
    refine ih _ ?_
    rw [hs, List.range_succ, List.map_append]
    rfl
theorem xor16 (a b : List Int) (ha : a.length = 16) (h : 16 ≤ b.length) (k : Nat) (hk : 17 ≤ k) : spec_l1Xor.f k a b = some (xrl a b) := by
  rw [xor_at a b (by omega) (by omega) k (by omega), ha]
  rfl
/-- the sum of whole blocks -/
def hN (H : Nat) : Nat → List Int → Nat → Nat
  | 0, _, s => s
  | n + 1, l, s => hN H n (l.drop 16) (gM (gB 128 H) (s ^^^ bN (l.take 16)))
theorem shash_l0 (h m : List Int) (hh : ∀ y ∈ h, 0 ≤ y ∧ y ≤ 255) (hhl : h.length = 16) (hm : ∀ y ∈ m, 0 ≤ y ∧ y ≤ 255) (hml : m.length ≤ 1048576) : ∀ n j : Nat, m.length = 16 * (j + n) → ∀ k s0 s1 : Nat, s0 < 2 ^ 64 → s1 < 2 ^ 64 →
    ∃ r0 r1 : Nat, r0 < 2 ^ 64 ∧ r1 < 2 ^ 64 ∧ vN r0 r1 = hN (bN h) n (m.drop (16 * j)) (vN s0 s1) ∧ spec_l3Hash.l0 (k + 150 + n + 1) h m (bytv s0 s1) ((16 * j : Nat) : Int) = some (bytv r0 r1)
  | 0, j, e, k, s0, s1, h0, h1 => ⟨s0, s1, h0, h1, rfl, by
      rw [spec_l3Hash.l0, w64 (by omega) (by omega), if_neg (by omega)]⟩
  | n + 1, j, e, k, s0, s1, h0, h1 => by
    have hb : ∀ y ∈ (m.take (16 * (j + 1))).drop (16 * j), 0 ≤ y ∧ y ≤ 255 := fun y hy => hm y (List.mem_of_mem_take (List.mem_of_mem_drop hy))
    have hbl : ((m.take (16 * (j + 1))).drop (16 * j)).length = 16 := by rw [List.length_drop, List.length_take]; omega
    have hd : (m.take (16 * (j + 1))).drop (16 * j) = (m.drop (16 * j)).take 16 := by
      rw [List.drop_take]
      congr 1
      omega
    obtain ⟨p0, p1, g1, g2, g3, g4⟩ := stimes_at (xrl (bytv s0 s1) ((m.take (16 * (j + 1))).drop (16 * j))) h (xrl_byte _ _) (xrl_len _ _) hh hhl
    obtain ⟨r0, r1, i1, i2, i3, i4⟩ := shash_l0 h m hh hhl hm hml n (j + 1) (by omega) k p0 p1 g1 g2
    refine ⟨r0, r1, i1, i2, ?_, ?_⟩
    · rw [i3, hN, g3, gM_swap _ _ (bN_lt _ (xrl_byte _ _) (xrl_len _ _)) (bN_lt h hh hhl), bN_xrl _ _ (bytv_byte _ _) (bytv_len _ _) hb hbl, bN_bytv _ _ h0 h1, hd, List.drop_drop, show 16 * j + 16 = 16 * (j + 1) by omega]
    · rw [show k + 150 + (n + 1) + 1 = (k + 150 + n + 1) + 1 by omega, spec_l3Hash.l0, w64 (show -9223372036854775808 ≤ ((16 * j : Nat) : Int) + 16 by omega) (by omega), if_pos (by omega), if_pos (by omega), if_pos (by omega), show (((16 * j : Nat) : Int) + 16).toNat = 16 * (j + 1) by omega, show ((16 * j : Nat) : Int).toNat = 16 * j by omega, xor16 _ _ (bytv_len _ _) (by omega) _ (by omega), Option.bind_some, g4 _ (by omega), Option.bind_some, show ((16 * j : Nat) : Int) + 16 = ((16 * (j + 1) : Nat) : Int) by omega]
      exact i4
theorem hashO_l0 (a b : Nat) (ha : a < 2 ^ 64) (hb : b < 2 ^ 64) : ∀ (n : Nat) (l : List Int), l.length = 16 * n → (∀ y ∈ l, 0 ≤ y ∧ y ≤ 255) → ∀ k s0 s1 : Nat, s0 < 2 ^ 64 → s1 < 2 ^ 64 →
    ∃ r0 r1 : Nat, r0 < 2 ^ 64 ∧ r1 < 2 ^ 64 ∧ vN r0 r1 = hN (vN a b) n l (vN s0 s1) ∧ hashO a b (k + 133 + n + 1) l s0 s1 = some ((r0 : Int), (r1 : Int))
  | 0, l, e, _, k, s0, s1, h0, h1 => ⟨s0, s1, h0, h1, rfl, by rw [hashO, if_neg (by omega)]⟩
  | n + 1, l, e, hl, k, s0, s1, h0, h1 => by
    have ht : ∀ y ∈ l.take 16, 0 ≤ y ∧ y ≤ 255 := fun y hy => hl y (List.mem_of_mem_take hy)
    have htl : (l.take 16).length = 16 := by rw [List.length_take]; omega
    have c0 := hn_cast (l.take 16) ht 0 8 (by omega)
    have c8 := hn_cast (l.take 16) ht 8 8 (by omega)
    have l0 := hn_lt (l.take 16) ht 0 (by omega)
    have l8 := hn_lt (l.take 16) ht 8 (by omega)
    obtain ⟨p0, p1, g1, g2, g3, g4⟩ := times_at (s0 ^^^ hn (l.take 16) 0 8) (s1 ^^^ hn (l.take 16) 8 8) a b (Nat.xor_lt_two_pow h0 l0) (Nat.xor_lt_two_pow h1 l8) ha hb
    obtain ⟨r0, r1, i1, i2, i3, i4⟩ := hashO_l0 a b ha hb n (l.drop 16) (by rw [List.length_drop]; omega) (fun y hy => hl y (List.mem_of_mem_drop hy)) k p0 p1 g1 g2
    refine ⟨r0, r1, i1, i2, ?_, ?_⟩
    · rw [i3, hN, g3, ← vN_xor _ _ _ _ h1 l8]
      rfl
    · have e0 : elo (l.take 16) = ((hn (l.take 16) 0 8 : Nat) : Int) := c0.symm
      have e1 : ehi (l.take 16) = ((hn (l.take 16) 8 8 : Nat) : Int) := c8.symm
      rw [show k + 133 + (n + 1) + 1 = (k + 133 + n + 1) + 1 by omega, hashO, if_pos (by omega), e0, e1, bx64 _ _ h0 l0, bx64 _ _ h1 l8, g4 _ (by omega), Option.bind_some]
      exact i4
/-- both sums are one -/
theorem hash_same (h m : List Int) (hh : ∀ y ∈ h, 0 ≤ y ∧ y ≤ 255) (hhl : h.length = 16) (hm : ∀ y ∈ m, 0 ≤ y ∧ y ≤ 255) (hml : m.length ≤ 1048576) (n : Nat) (hn16 : m.length = 16 * n) : ∃ r0 r1 : Nat, ∀ k, 151 + n ≤ k → spec_l3Hash.f k h m = some (bytv r0 r1) ∧ hashO (elo h) (ehi h) k m 0 0 = some ((r0 : Int), (r1 : Int)) := by
  have h0 : (0 : Nat) < 2 ^ 64 := by decide
  have e0 : elo h = ((hn h 0 8 : Nat) : Int) := (hn_cast h hh 0 8 (by omega)).symm
  have e1 : ehi h = ((hn h 8 8 : Nat) : Int) := (hn_cast h hh 8 8 (by omega)).symm
  have main : ∀ k, 151 + n ≤ k → ∃ r0 r1 : Nat, r0 < 2 ^ 64 ∧ r1 < 2 ^ 64 ∧ vN r0 r1 = hN (bN h) n m 0 ∧ spec_l3Hash.f k h m = some (bytv r0 r1) ∧ hashO (elo h) (ehi h) k m 0 0 = some ((r0 : Int), (r1 : Int)) := by
    intro k hk
    obtain ⟨r0, r1, i1, i2, i3, i4⟩ := shash_l0 h m hh hhl hm hml n 0 (by omega) (k - (151 + n)) 0 0 h0 h0
    obtain ⟨q0, q1, j1, j2, j3, j4⟩ := hashO_l0 (hn h 0 8) (hn h 8 8) (hn_lt h hh 0 (by omega)) (hn_lt h hh 8 (by omega)) n m hn16 hm (k - (134 + n)) 0 0 h0 h0
    have e : vN q0 q1 = vN r0 r1 := by rw [j3, i3]; rfl
    unfold vN at e
    obtain rfl : q0 = r0 := by omega
    obtain rfl : q1 = r1 := by omega
    refine ⟨q0, q1, i1, i2, by rw [i3]; rfl, ?_, ?_⟩
    · unfold spec_l3Hash.f
      rw [if_pos (by omega)]
      rw [show k - (151 + n) + 150 + n + 1 = k by omega] at i4
      rw [show bytv ((0 : Nat) : Int) ((0 : Nat) : Int) = List.replicate 16 0 by decide] at i4
      exact i4
    · rw [e0, e1]
      rw [show k - (134 + n) + 133 + n + 1 = k by omega] at j4
      exact j4
  obtain ⟨r0, r1, i1, i2, i3, _⟩ := main (151 + n) (by omega)
  refine ⟨r0, r1, fun k hk => ?_⟩
  obtain ⟨q0, q1, j1, j2, j3, j4⟩ := main k hk
  have e : vN q0 q1 = vN r0 r1 := j3.trans i3.symm
  unfold vN at e
  obtain rfl : q0 = r0 := by omega
  obtain rfl : q1 = r1 := by omega
  exact j4
def xB (a : Int) : BitVec 8 := BitVec.ofInt 8 a
theorem xr_B (a b : Int) : xr a b = ((xB a ^^^ xB b).toNat : Int) := by
  show IntKind.u8.wrap ((xB a ^^^ xB b).toNat : Int) = _
  rw [IntKind.wrap_u8]
  have := (xB a ^^^ xB b).isLt
  omega
theorem xB_nat (v : BitVec 8) : xB (v.toNat : Int) = v := by
  unfold xB
  apply BitVec.eq_of_toNat_eq
  rw [BitVec.ofInt_natCast, BitVec.toNat_ofNat, Nat.mod_eq_of_lt v.isLt]
theorem xB_xr (a b : Int) : xB (xr a b) = xB a ^^^ xB b := by rw [xr_B, xB_nat]
def tB (v : BitVec 8) : BitVec 8 := (v <<< 1) ^^^ (if v.msb then 27#8 else 0#8)
theorem xB_swap (a b c d : BitVec 8) : (a ^^^ b) ^^^ (c ^^^ d) = (a ^^^ c) ^^^ (b ^^^ d) := by
  rw [BitVec.xor_assoc, BitVec.xor_assoc, ← BitVec.xor_assoc b c d, BitVec.xor_comm b c, BitVec.xor_assoc]
theorem tB_xor (u v : BitVec 8) : tB (u ^^^ v) = tB u ^^^ tB v := by
  unfold tB
  rw [BitVec.shiftLeft_xor_distrib, BitVec.msb_xor, xB_swap]
  congr 1
  cases u.msb <;> cases v.msb <;> decide
theorem tw_fin : ∀ n : Fin 256, tw (n.val : Int) = ((tB (BitVec.ofNat 8 n.val)).toNat : Int) := by decide +kernel
theorem dbl_fin : ∀ n : Fin 256, dbl (n.val : Int) = ((tB (BitVec.ofNat 8 n.val)).toNat : Int) := by decide +kernel
theorem tw_B (a : Int) (h : 0 ≤ a ∧ a ≤ 255) : tw a = ((tB (xB a)).toNat : Int) := by
  obtain ⟨n, rfl⟩ := Int.eq_ofNat_of_zero_le h.1
  have := tw_fin ⟨n, by omega⟩
  rw [this, xB, BitVec.ofInt_natCast]
theorem dbl_B (a : Int) (h : 0 ≤ a ∧ a ≤ 255) : dbl a = ((tB (xB a)).toNat : Int) := by
  obtain ⟨n, rfl⟩ := Int.eq_ofNat_of_zero_le h.1
  have := dbl_fin ⟨n, by omega⟩
  rw [this, xB, BitVec.ofInt_natCast]
theorem bool7 : ∀ p q r s k t u : Bool, (((p ^^ k) ^^ (((p ^^ q) ^^ r) ^^ s)) ^^ (t ^^ u)) = (((((t ^^ u) ^^ q) ^^ r) ^^ s) ^^ k) := by decide
theorem bool7b : ∀ p q r s k t u : Bool, (((p ^^ k) ^^ (((s ^^ p) ^^ q) ^^ r)) ^^ (t ^^ u)) = (((((t ^^ u) ^^ q) ^^ r) ^^ s) ^^ k) := by decide
theorem bool7c : ∀ p q r s k t u : Bool, (((p ^^ k) ^^ (((r ^^ s) ^^ p) ^^ q)) ^^ (t ^^ u)) = (((((t ^^ u) ^^ q) ^^ r) ^^ s) ^^ k) := by decide
theorem bool7d : ∀ p q r s k t u : Bool, (((p ^^ k) ^^ (((q ^^ r) ^^ s) ^^ p)) ^^ (t ^^ u)) = (((((t ^^ u) ^^ q) ^^ r) ^^ s) ^^ k) := by decide
theorem col_same (p q r s k a b c d : Int) (hp : 0 ≤ p ∧ p ≤ 255) (hq : 0 ≤ q ∧ q ≤ 255) (h : (a = p ∧ b = q ∧ c = r ∧ d = s) ∨ (a = s ∧ b = p ∧ c = q ∧ d = r) ∨ (a = r ∧ b = s ∧ c = p ∧ d = q) ∨ (a = q ∧ b = r ∧ c = s ∧ d = p)) :
    xr (xr (xr p k) (xr (xr (xr a b) c) d)) (dbl (xr p q)) = xr (xr (xr (xr (xr (tw p) (tw q)) q) r) s) k := by
  rw [dbl_B _ (xr_byte _ _), tw_B p hp, tw_B q hq, xB_xr, tB_xor, xr_B (xr (xr p k) _), xr_B (xr (xr (xr (xr _ _) q) r) s)]
  congr 2
  simp only [xB_xr, xB_nat]
  apply BitVec.eq_of_getLsbD_eq
  intro i hi
  simp only [BitVec.getLsbD_xor]
  rcases h with ⟨rfl, rfl, rfl, rfl⟩ | ⟨rfl, rfl, rfl, rfl⟩ | ⟨rfl, rfl, rfl, rfl⟩ | ⟨rfl, rfl, rfl, rfl⟩
  · exact bool7 _ _ _ _ _ _ _
  · exact bool7b _ _ _ _ _ _ _
  · exact bool7c _ _ _ _ _ _ _
  · exact bool7d _ _ _ _ _ _ _
theorem map16 {f g : Nat → Int} (h : ∀ j, j < 16 → f j = g j) : (List.range 16).map f = (List.range 16).map g := List.map_congr_left fun j hj => h j (List.mem_range.1 hj)
theorem syv_shv (x : List Int) (hx : x.length = 16) : syv x = shv (x.map sbx) := by
  unfold syv shv
  refine map16 fun j hj => ?_
  have e : shx (j : Int) = ((j : Int) + 4 * ((j : Int) % 4)) % 16 := by unfold shx; omega
  have hs := shx_le (j : Int)
  have em : rd (x.map sbx) (shx (j : Int)) = sbx (rd x (shx (j : Int))) := by
    simp only [rd, List.getD_eq_getElem?_getD, List.getElem?_map]
    rw [List.getElem?_eq_getElem (by omega), Option.map_some, Option.getD_some, Option.getD_some]
  rw [syf, shf, em, e]
theorem bt_byte (s : ByteArray) (x : Int) : 0 ≤ bt s x ∧ bt s x ≤ 255 := by
  unfold bt
  split
  · rename_i h
    have := (s[x.toNat]'h).toNat_lt
    omega
  · omega
theorem sbx_byte (x : Int) : 0 ≤ sbx x ∧ sbx x ≤ 255 := bt_byte sbox x
theorem shv_byte (x : List Int) (hx : x.length = 16) : ∀ y ∈ shv (x.map sbx), 0 ≤ y ∧ y ≤ 255 := by
  rw [← syv_shv x hx]
  intro y hy
  obtain ⟨j, _, rfl⟩ := List.mem_map.1 hy
  exact sbx_byte _
theorem nxv_mix (ks y : List Int) (hy : ∀ z ∈ y, 0 ≤ z ∧ z ≤ 255) (hl : y.length = 16) (r : Int) (hr : r < 10) : nxv ks y r = addv ks (mixv y) r := by
  unfold nxv addv
  refine map16 fun j hj => ?_
  have em : rd (mixv y) (j : Int) = mixf y j := by
    unfold mixv
    exact rd_map _ _ _ hj
  unfold nxf addf
  rw [em]
  simp only [if_pos hr]
  unfold mixf
  have b : ∀ i : Int, 0 ≤ i → i < 16 → 0 ≤ rd y i ∧ rd y i ≤ 255 := fun i h0 h1 => rd_byte hy i h0 (by omega)
  have hc : (j : Int) = (j : Int) / 4 * 4 + (j : Int) % 4 := by omega
  have h0 : 0 ≤ (j : Int) / 4 * 4 := by omega
  have h12 : (j : Int) / 4 * 4 ≤ 12 := by omega
  have hi0 : 0 ≤ (j : Int) % 4 := by omega
  have hi3 : (j : Int) % 4 < 4 := by omega
  generalize (j : Int) / 4 * 4 = c at *
  generalize (j : Int) % 4 = i at *
  show xr (xr (xr (rd y (j : Int)) (rd ks (16 * r + j))) (xr (xr (xr (rd y c) (rd y (c + 1))) (rd y (c + 2))) (rd y (c + 3)))) (dbl (xr (rd y (j : Int)) (rd y (c + (i + 1) % 4)))) = xr (xr (xr (xr (xr (tw (rd y (c + i))) (tw (rd y (c + (i + 1) % 4)))) (rd y (c + (i + 1) % 4))) (rd y (c + (i + 2) % 4))) (rd y (c + (i + 3) % 4))) (rd ks (16 * r + j))
  rw [hc]
  refine col_same _ _ _ _ _ _ _ _ _ (b _ (by omega) (by omega)) (b _ (by omega) (by omega)) ?_
  have h4 : i = 0 ∨ i = 1 ∨ i = 2 ∨ i = 3 := by omega
  rcases h4 with rfl | rfl | rfl | rfl
  · left
    simp
  · right; left
    simp
  · right; right; left
    simp
  · right; right; right
    simp
theorem sencr_encr (ks l : List Int) : ∀ n, n ≤ 9 → sencr ks l n = encr ks l n
  | 0, _ => rfl
  | n + 1, h => by
    have hl := encr_len ks l n
    rw [sencr, sencr_encr ks l n (by omega), encr, rndv, syv_shv _ hl, nxv_mix ks _ (shv_byte _ hl) (shv_len _) _ (by omega)]
theorem senc_same (ks l : List Int) : sencv ks l = encv ks l := by
  have hl := encr_len ks l 9
  show sencr ks l (9 + 1) = _
  rw [sencr, sencr_encr ks l 9 (by omega), syv_shv _ hl, encv]
  unfold nxv addv
  refine map16 fun j hj => ?_
  unfold nxf addf
  rfl
theorem up_cons (x : List Int) (a b c d : Int) (hx : x.length = 12) (ha : 0 ≤ a ∧ a ≤ 255) (hb : 0 ≤ b ∧ b ≤ 255) (hc : 0 ≤ c ∧ c ≤ 255) (hd : 0 ≤ d ∧ d ≤ 255) :
    upv (x ++ [a, b, c, d]) = x ++ (if d < 255 then [a, b, c, d + 1] else if c < 255 then [a, b, c + 1, 0] else if b < 255 then [a, b + 1, 0, 0] else [(a + 1) % 256, 0, 0, 0]) := by
  have r : ∀ (t : List Int) (i : Nat) (j : Int), j = ((12 + i : Nat) : Int) → rd (x ++ t) j = t.getD i 0 := by
    intro t i j hj
    subst hj
    simp only [rd, List.getD_eq_getElem?_getD, Int.toNat_natCast]
    rw [List.getElem?_append_right (by omega), show 12 + i - x.length = i by omega]
  have s : ∀ (t : List Int) (i : Nat) (j : Int) (v : Int), j = ((12 + i : Nat) : Int) → (x ++ t).set j.toNat v = x ++ t.set i v := by
    intro t i j v hj
    subst hj
    rw [Int.toNat_natCast, List.set_append_right _ _ (by omega), show 12 + i - x.length = i by omega]
  unfold upv
  rw [upg, if_pos (by omega), r _ 3 15 rfl, s _ 3 15 _ rfl]
  show (if (d + 1) % 256 = 0 then _ else _) = _
  by_cases h1 : d < 255
  · rw [if_neg (by show ¬ (d + 1) % 256 = 0; omega), if_pos h1]
    show x ++ [a, b, c, (d + 1) % 256] = _
    rw [show (d + 1) % 256 = d + 1 by omega]
  rw [if_pos (by show (d + 1) % 256 = 0; omega), if_neg h1]
  show upg (x ++ [a, b, c, (d + 1) % 256]) 4 14 = _
  rw [show (d + 1) % 256 = 0 by omega, upg, if_pos (by omega), r _ 2 14 rfl, s _ 2 14 _ rfl]
  by_cases h2 : c < 255
  · rw [if_neg (by show ¬ (c + 1) % 256 = 0; omega), if_pos h2]
    show x ++ [a, b, (c + 1) % 256, 0] = _
    rw [show (c + 1) % 256 = c + 1 by omega]
  rw [if_pos (by show (c + 1) % 256 = 0; omega), if_neg h2]
  show upg (x ++ [a, b, (c + 1) % 256, 0]) 3 13 = _
  rw [show (c + 1) % 256 = 0 by omega, upg, if_pos (by omega), r _ 1 13 rfl, s _ 1 13 _ rfl]
  by_cases h3 : b < 255
  · rw [if_neg (by show ¬ (b + 1) % 256 = 0; omega), if_pos h3]
    show x ++ [a, (b + 1) % 256, 0, 0] = _
    rw [show (b + 1) % 256 = b + 1 by omega]
  rw [if_pos (by show (b + 1) % 256 = 0; omega), if_neg h3]
  show upg (x ++ [a, (b + 1) % 256, 0, 0]) 2 12 = _
  rw [show (b + 1) % 256 = 0 by omega, upg, if_pos (by omega), r _ 0 12 rfl, s _ 0 12 _ rfl]
  show (if (a + 1) % 256 = 0 then upg (x ++ [(a + 1) % 256, 0, 0, 0]) 1 11 else x ++ [(a + 1) % 256, 0, 0, 0]) = _
  split
  · rw [upg, if_neg (by omega)]
  · rfl
theorem pk4 (n : Int) (h0 : 0 ≤ n) (h1 : n < 4294967296) : pk 4 n = [n / 16777216 % 256, n / 65536 % 256, n / 256 % 256, n % 256] := by
  have t : ∀ m : Int, 0 ≤ m → m < 4294967296 → wrap64 (Int.tdiv m 256) = m / 256 ∧ Int.tmod m 256 % 256 = m % 256 := fun m a b => by
    rw [Int.tdiv_eq_ediv_of_nonneg a, Int.tmod_eq_emod_of_nonneg a]
    exact ⟨w64 (by omega) (by omega), by omega⟩
  obtain ⟨a1, b1⟩ := t n h0 h1
  obtain ⟨a2, b2⟩ := t (n / 256) (by omega) (by omega)
  obtain ⟨a3, b3⟩ := t (n / 256 / 256) (by omega) (by omega)
  obtain ⟨a4, b4⟩ := t (n / 256 / 256 / 256) (by omega) (by omega)
  show pkl 4 n [0, 0, 0, 0] = _
  simp only [pkl, a1, b1, a2, b2, a3, b3, b4, List.set_cons_succ, List.set_cons_zero]
  rw [show n / 256 / 256 / 256 = n / 16777216 by omega, show n / 256 / 256 = n / 65536 by omega]
theorem pkl_range' : ∀ (j : Nat) (x : Int) (s : List Int), (∀ y ∈ s, 0 ≤ y ∧ y ≤ 255) → ∀ y ∈ pkl j x s, 0 ≤ y ∧ y ≤ 255
  | 0, _, _, h => h
  | j + 1, x, s, h => by
    refine pkl_range' j _ _ fun y hy => ?_
    rcases List.mem_or_eq_of_mem_set hy with hy | rfl
    · exact h y hy
    · omega
theorem pk_range' (n : Nat) (x : Int) : ∀ y ∈ pk n x, 0 ≤ y ∧ y ≤ 255 := pkl_range' n x _ (fun y hy => by
  have := List.eq_of_mem_replicate hy
  omega)
theorem l1Copy_at (l : List Int) (h : l.length ≤ 1048576) : spec_l1Copy.f l = some l := by
  unfold spec_l1Copy.f
  rw [Option.bind_some, if_pos (by simp; omega)]
  rfl
theorem last4 (l : List Int) (hl : l.length = 16) : l = l.take 12 ++ [rd l 12, rd l 13, rd l 14, rd l 15] := by
  have e : l.drop 12 = [rd l 12, rd l 13, rd l 14, rd l 15] := by
    have g : ∀ i : Nat, i < 16 → rd l (i : Int) = l.getD i 0 := fun i _ => rfl
    rw [show (12 : Int) = ((12 : Nat) : Int) from rfl, show (13 : Int) = ((13 : Nat) : Int) from rfl, show (14 : Int) = ((14 : Nat) : Int) from rfl, show (15 : Int) = ((15 : Nat) : Int) from rfl, g 12 (by omega), g 13 (by omega), g 14 (by omega), g 15 (by omega), getD_at _ _ _ (by omega), getD_at _ _ _ (by omega), getD_at _ _ _ (by omega), getD_at _ _ _ (by omega), drop_cons l 12 (by omega), drop_cons l 13 (by omega), drop_cons l 14 (by omega), drop_cons l 15 (by omega), List.drop_eq_nil_of_le (by omega)]
  calc l = l.take 12 ++ l.drop 12 := (List.take_append_drop 12 l).symm
    _ = _ := by rw [e]
theorem count_at (l : List Int) (hb : ∀ y ∈ l, 0 ≤ y ∧ y ≤ 255) (hl : l.length = 16) (k : Nat) (hk : 12 ≤ k) : spec_l3Count.f k l = some (upv l) := by
  have b2 := rd_byte hb 12 (by omega) (by omega)
  have b3 := rd_byte hb 13 (by omega) (by omega)
  have b4 := rd_byte hb 14 (by omega) (by omega)
  have b5 := rd_byte hb 15 (by omega) (by omega)
  have r := rwn_range l hb 12 (by omega) 4 (by omega)
  have q : (256 : Int) ^ 4 = 4294967296 := by decide
  have er : rwn 4 l 12 = ((rd l 12 * 256 + rd l 13) * 256 + rd l 14) * 256 + rd l 15 := by
    simp only [rwn]
    show (((0 * 256 + rd l (12 + 0)) * 256 + rd l (12 + 1)) * 256 + rd l (12 + 2)) * 256 + rd l (12 + 3) = _
    rw [Int.zero_mul, Int.zero_add]
    rfl
  unfold spec_l3Count.f
  have e1 := spec_l1Read_gen l hb (by omega) 12 (by omega) 4 (by omega) (by omega) (by omega) k (by omega)
  have ht : (l.take 12).length = 12 := by rw [List.length_take]; omega
  rw [show ((4 : Nat) : Int) = 4 from rfl] at e1
  rw [e1, Option.bind_some, if_pos (by omega), l1Copy_at _ (by omega), Option.bind_some, w64 (by omega) (by omega), Int.tmod_eq_emod_of_nonneg (by omega)]
  have e2 := spec_l1Pack_at 4 (by omega) ((rwn 4 l 12 + 1) % 4294967296) k (by omega)
  rw [show ((4 : Nat) : Int) = 4 from rfl] at e2
  rw [e2, Option.bind_some, if_pos (by rw [pk_len]; omega), pk4 _ (by omega) (by omega)]
  congr 1
  rw [show upv l = upv (l.take 12 ++ [rd l 12, rd l 13, rd l 14, rd l 15]) from congrArg upv (last4 l hl), up_cons _ _ _ _ _ ht b2 b3 b4 b5, er]
  congr 1
  generalize rd l 12 = a at *
  generalize rd l 13 = b at *
  generalize rd l 14 = c at *
  generalize rd l 15 = d at *
  clear e1 e2 er r
  have fin : ∀ (t x y z w : Int), t % 4294967296 / 16777216 % 256 = x → t % 4294967296 / 65536 % 256 = y → t % 4294967296 / 256 % 256 = z → t % 4294967296 % 256 = w → [t % 4294967296 / 16777216 % 256, t % 4294967296 / 65536 % 256, t % 4294967296 / 256 % 256, t % 4294967296 % 256] = [x, y, z, w] := by
    intro t x y z w h1 h2 h3 h4
    rw [h1, h2, h3, h4]
  by_cases h1 : d < 255
  · rw [if_pos h1]
    exact fin _ _ _ _ _ (by omega) (by omega) (by omega) (by omega)
  rw [if_neg h1]
  obtain rfl : d = 255 := by omega
  by_cases h2 : c < 255
  · rw [if_pos h2]
    exact fin _ _ _ _ _ (by omega) (by omega) (by omega) (by omega)
  rw [if_neg h2]
  obtain rfl : c = 255 := by omega
  by_cases h3 : b < 255
  · rw [if_pos h3]
    exact fin _ _ _ _ _ (by omega) (by omega) (by omega) (by omega)
  rw [if_neg h3]
  obtain rfl : b = 255 := by omega
  exact fin _ _ _ _ _ (by omega) (by omega) (by omega) (by omega)
theorem stream_in (ks b0 l : List Int) (hb0 : b0.length = 16) (hl : l.length ≤ 1048576) (m : Nat) (hm16 : 16 * m ≤ l.length) (hbb : ∀ y ∈ ctrb b0 m, 0 ≤ y ∧ y ≤ 255) (K : Nat) (hK : 12 ≤ K) (R : Option (List Int))
    (hc : ∀ k, K ≤ k → spec_l3Stream.l0 k ks (ctrb b0 (m + 1)) l ((List.range (min (16 * (m + 1)) l.length)).map (strf ks b0 l)) ((16 * (m + 1) : Nat) : Int) = R) :
    ∀ d i, i + d = 16 → 16 * m + i ≤ l.length → ∀ k, K + d + 1 ≤ k → spec_l3Stream.l1 k ks (ctrb b0 m) l ((List.range (16 * m + i)).map (strf ks b0 l)) ((16 * m : Nat) : Int) (encv ks (ctrb b0 m)) (i : Int) = R := by
  intro d
  have hlen := ctrb_len b0 hb0 m
  have next : ∀ k, K ≤ k → ((spec_l3Count.f k (ctrb b0 m)).bind fun t => spec_l3Stream.l0 k ks t l ((List.range (min (16 * (m + 1)) l.length)).map (strf ks b0 l)) (wrap64 (((16 * m : Nat) : Int) + 16))) = R := by
    intro k hk
    rw [count_at _ hbb hlen k (by omega), Option.bind_some, ← hc k hk, w64 (by omega) (by omega), show ((16 * m : Nat) : Int) + 16 = ((16 * (m + 1) : Nat) : Int) by omega]
    rfl
  induction d with
  | zero =>
    intro i hi hle k hk
    obtain ⟨k, rfl⟩ : ∃ z, k = z + 1 := ⟨k - 1, by omega⟩
    obtain rfl : i = 16 := by omega
    rw [spec_l3Stream.l1, if_neg (by omega)]
    have h := next k (by omega)
    rw [show min (16 * (m + 1)) l.length = 16 * m + 16 by omega] at h
    exact h
  | succ d ih =>
    intro i hi hle k hk
    obtain ⟨k, rfl⟩ : ∃ z, k = z + 1 := ⟨k - 1, by omega⟩
    have hw : wrap64 (((16 * m : Nat) : Int) + (i : Int)) = ((16 * m + i : Nat) : Int) := by
      rw [w64 (by omega) (by omega)]
      omega
    rw [spec_l3Stream.l1, if_pos (by omega), hw]
    by_cases h : 16 * m + i < l.length
    · rw [if_pos (by omega), if_pos (by omega), if_pos (by omega), if_pos (by rw [encv_len]; omega), if_pos (by rw [List.length_map, List.length_range]; omega), w64 (by omega) (by omega)]
      have h1 := ih (i + 1) (by omega) (by omega) k (by omega)
      rw [show 16 * m + (i + 1) = (16 * m + i) + 1 by omega, List.range_succ, List.map_append, List.map_cons, List.map_nil] at h1
      have hf : strf ks b0 l (16 * m + i) = Go.bits .xor .u8 (rd l ((16 * m + i : Nat) : Int)) (rd (encv ks (ctrb b0 m)) (i : Int)) := by
        unfold strf
        rw [show (16 * m + i) / 16 = m by omega, show (16 * m + i) % 16 = i by omega]
        rfl
      rw [hf] at h1
      exact h1
    · rw [if_neg (by omega)]
      have h1 := next k (by omega)
      rw [show min (16 * (m + 1)) l.length = 16 * m + i by omega] at h1
      exact h1
theorem ctrb_byte (b : List Int) (h : ∀ y ∈ b, 0 ≤ y ∧ y ≤ 255) : ∀ n, ∀ y ∈ ctrb b n, 0 ≤ y ∧ y ≤ 255
  | 0 => h
  | n + 1 => upg_byte _ _ _ (ctrb_byte b h n)
theorem stream_at (ks b0 l : List Int) (hks : ks.length = 176) (hb0 : b0.length = 16) (hbb : ∀ y ∈ b0, 0 ≤ y ∧ y ≤ 255) (hl : l.length ≤ 1048576) : ∀ d m : Nat, l.length ≤ 16 * (m + d) → 16 * m ≤ l.length + 15 → ∀ k, 20 * d + 30 ≤ k → spec_l3Stream.l0 k ks (ctrb b0 m) l ((List.range (min (16 * m) l.length)).map (strf ks b0 l)) ((16 * m : Nat) : Int) = some (strv ks b0 l) := by
  intro d
  induction d with
  | zero =>
    intro m h1 h2 k hk
    obtain ⟨k, rfl⟩ : ∃ z, k = z + 1 := ⟨k - 1, by omega⟩
    rw [spec_l3Stream.l0, if_neg (by omega), show min (16 * m) l.length = l.length by omega]
    rfl
  | succ d ih =>
    intro m h1 h2 k hk
    obtain ⟨k, rfl⟩ : ∃ z, k = z + 1 := ⟨k - 1, by omega⟩
    by_cases h : 16 * m < l.length
    · rw [spec_l3Stream.l0, if_pos (by omega), spec_l2Encrypt.f, if_pos ⟨hks, ctrb_len b0 hb0 m⟩, Option.bind_some, senc_same]
      have hin := stream_in ks b0 l hb0 hl m (by omega) (ctrb_byte b0 hbb m) (20 * d + 30) (by omega) (some (strv ks b0 l)) (fun k hk => ih (m + 1) (by omega) (by omega) k hk) 16 0 (by omega) (by omega) k (by omega)
      rw [show min (16 * m) l.length = 16 * m + 0 by omega]
      exact hin
    · rw [spec_l3Stream.l0, if_neg (by omega), show min (16 * m) l.length = l.length by omega]
      rfl
theorem l3Stream_at (ks b0 l : List Int) (hks : ks.length = 176) (hb0 : b0.length = 16) (hbb : ∀ y ∈ b0, 0 ≤ y ∧ y ≤ 255) (hl : l.length ≤ 1600) (k : Nat) (hk : 2100 ≤ k) : spec_l3Stream.f k ks b0 l = some (strv ks b0 l) := by
  have h := stream_at ks b0 l hks hb0 hbb (by omega) 100 0 (by omega) (by omega) k (by omega)
  exact h
def whv (l : List Int) : List Int := l ++ List.replicate ((16 - l.length % 16) % 16) 0
theorem whv_len (l : List Int) : (whv l).length % 16 = 0 ∧ (whv l).length ≤ l.length + 15 := by
  unfold whv
  rw [List.length_append, List.length_replicate]
  omega
theorem whv_byte (l : List Int) (h : ∀ y ∈ l, 0 ≤ y ∧ y ≤ 255) : ∀ y ∈ whv l, 0 ≤ y ∧ y ≤ 255 := by
  intro y hy
  rcases List.mem_append.1 hy with h1 | h1
  · exact h y h1
  · have := List.eq_of_mem_replicate h1
    omega
theorem swhole_l0 : ∀ (n : Nat) (x : List Int) (k : Nat), n ≤ 15 → (x.length + n) % 16 = 0 → x.length ≤ 1048576 → spec_l3Whole.l0 (k + n + 1) x = some (x ++ List.replicate n 0)
  | 0, x, k, _, h, _ => by
    rw [spec_l3Whole.l0, if_pos (by omega)]
    simp
  | n + 1, x, k, hn, h, hx => by
    rw [show k + (n + 1) + 1 = (k + n + 1) + 1 by omega, spec_l3Whole.l0, if_neg (by omega), if_pos (by omega)]
    by_cases hm : x.length = 1048576
    · omega
    · rw [swhole_l0 n (x ++ [0]) k (by omega) (by rw [List.length_append, List.length_singleton]; omega) (by rw [List.length_append, List.length_singleton]; omega), List.append_assoc]
      rfl
theorem swhole_at (l : List Int) (h : l.length ≤ 1600) (k : Nat) (hk : 17 ≤ k) : spec_l3Whole.f k l = some (whv l) := by
  unfold spec_l3Whole.f
  rw [l1Copy_at l (by omega), Option.bind_some]
  have := swhole_l0 ((16 - l.length % 16) % 16) l (k - ((16 - l.length % 16) % 16) - 1) (by omega) (by omega) (by omega)
  rw [show k - ((16 - l.length % 16) % 16) - 1 + ((16 - l.length % 16) % 16) + 1 = k by omega] at this
  exact this
theorem iwhole_at (l : List Int) (h : l.length ≤ 1600) : impl_whole.f l = some (whv l) := by
  unfold impl_whole.f bytes_Clone.f
  rw [if_pos (by omega), Option.bind_some, if_pos (by omega), if_pos (by omega)]
  unfold whv
  congr 3
  omega
theorem first_at (nonce : List Int) (h : nonce.length = 12) : spec_l3First.f nonce = some (startv nonce) := by
  unfold spec_l3First.f
  rw [l1Copy_at _ (by omega), Option.bind_some, Option.bind_some, if_pos (by simp; omega)]
  unfold startv
  rw [List.set_append_right _ _ (by omega), h]
  rfl
theorem startv_byte (nonce : List Int) (h : nonce.length = 12) (hb : ∀ y ∈ nonce, 0 ≤ y ∧ y ≤ 255) : ∀ y ∈ startv nonce, 0 ≤ y ∧ y ≤ 255 := by
  intro y hy
  unfold startv at hy
  rcases List.mem_or_eq_of_mem_set hy with h1 | h1
  · rcases List.mem_append.1 h1 with h2 | h2
    · exact hb y h2
    · simp at h2
      omega
  · omega
theorem tag_both (ks nonce extra c : List Int) (hks : ks.length = 176) (hn : nonce.length = 12) (he : extra.length ≤ 1000) (hc : c.length ≤ 1000) (heb : ∀ y ∈ extra, 0 ≤ y ∧ y ≤ 255) (hcb : ∀ y ∈ c, 0 ≤ y ∧ y ≤ 255) :
    ∃ t : List Int, t.length = 16 ∧ (∀ y ∈ t, 0 ≤ y ∧ y ≤ 255) ∧ ∀ k, 1000 ≤ k → spec_l3Tag.f k ks nonce extra c = some t ∧ tagO k ks nonce extra c = some t := by
  have we := whv_len extra
  have wc := whv_len c
  have pa := pk_len 8 (8 * (extra.length : Int))
  have pc := pk_len 8 (8 * (c.length : Int))
  obtain ⟨m, hm⟩ : ∃ m, m = whv extra ++ (whv c ++ (pk 8 (8 * (extra.length : Int)) ++ pk 8 (8 * (c.length : Int)))) := ⟨_, rfl⟩
  have hml : m.length = (whv extra).length + (whv c).length + 16 := by rw [hm]; simp only [List.length_append, pa, pc]; omega
  have hmb : ∀ y ∈ m, 0 ≤ y ∧ y ≤ 255 := by
    intro y hy
    rw [hm] at hy
    simp only [List.mem_append] at hy
    rcases hy with h | h | h | h
    · exact whv_byte extra heb y h
    · exact whv_byte c hcb y h
    · exact pk_range' 8 _ y h
    · exact pk_range' 8 _ y h
  obtain ⟨r0, r1, hr⟩ := hash_same (encv ks zr16) m (encv_byte _ _) (encv_len _ _) hmb (by omega) (m.length / 16) (by omega)
  refine ⟨xrl (encv ks (startv nonce)) (bytv r0 r1), xrl_len _ _, xrl_byte _ _, fun k hk => ?_⟩
  obtain ⟨h1, h2⟩ := hr k (by omega)
  have sp := fun n : Int => spec_l1Pack_at 8 (by omega) n k (by omega)
  have ip := fun n : Int => impl_word_at 8 (by omega) n k (by omega)
  rw [show ((8 : Nat) : Int) = 8 from rfl] at sp ip
  constructor
  · unfold spec_l3Tag.f
    rw [if_pos (by omega), spec_l2Encrypt.f, if_pos ⟨hks, by simp⟩, Option.bind_some, swhole_at extra (by omega) k (by omega), Option.bind_some, swhole_at c (by omega) k (by omega), Option.bind_some, if_pos (by omega), Option.bind_some, w64 (by omega) (by omega), sp, Option.bind_some, if_pos (by rw [List.length_append]; omega), Option.bind_some, w64 (by omega) (by omega), sp, Option.bind_some, if_pos (by simp only [List.length_append]; omega), first_at nonce hn, Option.bind_some, spec_l2Encrypt.f, if_pos ⟨hks, startv_len _ hn⟩, Option.bind_some, senc_same, senc_same]
    rw [show ((whv extra ++ whv c ++ pk 8 (8 * (extra.length : Int))) ++ pk 8 (8 * (c.length : Int))) = m by rw [hm]; simp only [List.append_assoc]]
    rw [show List.replicate 16 (0 : Int) = zr16 from rfl, h1, Option.bind_some, xor16 _ _ (encv_len _ _) (by rw [bytv_len]; omega) k (by omega)]
    rfl
  · unfold tagO
    rw [ip, Option.bind_some, ip, Option.bind_some, if_pos (by omega), iwhole_at extra (by omega), Option.bind_some, iwhole_at c (by omega), Option.bind_some]
    rw [Concat_at _ (by simp) (by
      intro r hr
      simp only [List.mem_cons, List.not_mem_nil, or_false] at hr
      rcases hr with rfl | rfl | rfl
      · omega
      · omega
      · rw [List.length_append]; omega) k (by omega), Option.bind_some]
    rw [show [whv extra, whv c, pk 8 (8 * (extra.length : Int)) ++ pk 8 (8 * (c.length : Int))].flatten = m by rw [hm]; simp]
    rw [if_pos ⟨by omega, by omega, hmb⟩, h2]
    rfl
def kfv (x : S59) : Int := if 1 ≤ x.f0 ∧ x.f0 ≤ 255 then (if x.f1.length = 16 then 0 else 2) else 3
theorem l4Key_at (x : S59) : spec_l4Key.f x.f0 x.f1 = some (kfv x) := by
  unfold spec_l4Key.f kfv
  rw [spec_in_at, Option.bind_some]
  by_cases h : 1 ≤ x.f0 ∧ x.f0 ≤ 255
  · rw [if_pos h, decide_eq_true h, if_pos rfl]
    by_cases h2 : x.f1.length = 16
    · rw [if_pos h2, if_pos (by omega)]
    · rw [if_neg h2, if_neg (by omega)]
  · rw [if_neg h, decide_eq_false h, if_neg (by decide)]
theorem Key_fault_at (x : S59) : impl_Key_fault.f x.f0 x.f1 = some (kfv x) := by
  unfold impl_Key_fault.f impl_isKeyId.f kfv
  rw [impl_in_at, Option.bind_some, Option.bind_some]
  by_cases h : 1 ≤ x.f0 ∧ x.f0 ≤ 255
  · rw [if_pos h, decide_eq_true h, if_pos rfl]
    by_cases h2 : x.f1.length = 16
    · rw [if_pos h2, if_pos (by omega)]
    · rw [if_neg h2, if_neg (by omega)]
  · rw [if_neg h, decide_eq_false h, if_neg (by decide)]
theorem rK_at (l : List S59) (i : Nat) (h : i < l.length) : rd_T59 l (i : Int) = l[i] := by simp only [rd_T59, Int.toNat_natCast, getD_at _ _ _ h]
def kfs : List S59 → Int
  | [] => 0
  | x :: t => if kfv x = 0 then kfs t else kfv x
def srt : List S59 → Bool
  | a :: b :: t => decide (a.f0 < b.f0) && srt (b :: t)
  | _ => true
def lastv (p : Int) (l : List S59) : Int := if srt l = true then (if ixk l p 0 < 0 then 4 else 0) else 1
def rfv (p : Int) (l : List S59) : Int := if l.length < 1 ∨ 3 < l.length then 2 else if kfs l = 0 then lastv p l else kfs l
theorem kfv_len (x : S59) (h : kfv x = 0) : x.f1.length = 16 := by
  unfold kfv at h
  split at h
  · split at h
    · assumption
    · omega
  · omega
theorem kfs_len : ∀ l : List S59, kfs l = 0 → ∀ x ∈ l, x.f1.length = 16
  | [], _, x, hx => by cases hx
  | a :: t, h, x, hx => by
    rw [kfs] at h
    by_cases h0 : kfv a = 0
    · rw [if_pos h0] at h
      rcases List.mem_cons.1 hx with rfl | hx
      · exact kfv_len _ h0
      · exact kfs_len t h x hx
    · rw [if_neg h0] at h
      exact absurd h h0
theorem ixk_range (l : List S59) (a : Int) : ∀ i : Nat, ixk l a i = -1 ∨ ((i : Int) ≤ ixk l a i ∧ ixk l a i < (i : Int) + l.length) := by
  induction l with
  | nil => intro i; exact .inl rfl
  | cons x t ih =>
    intro i
    rw [ixk]
    by_cases h : x.f0 = a
    · rw [if_pos h]
      right
      rw [List.length_cons]
      omega
    · rw [if_neg h]
      have := ih (i + 1)
      rw [show ((i + 1 : Nat) : Int) = (i : Int) + 1 from rfl] at this
      rw [List.length_cons]
      omega
theorem l4Find_at (p a : Int) (l : List S59) (hl : l.length ≤ 1048576) (k : Nat) (hk : l.length < k) : spec_l4Find.f k p l a = some (ixk l a 0) := by
  unfold spec_l4Find.f
  refine (loop_up (fun k (_ : Unit) i => spec_l4Find.l0 k a i p l) l.length 0 (fun _ i => ixk (l.drop i) a i) (fun _ _ => True) ?_ ?_ k () 0 0 rfl (Nat.zero_le _) trivial (by omega)).trans (by simp only [List.drop_zero]; rfl)
  · intro k _ _ _
    rw [spec_l4Find.l0, if_neg (by omega), List.drop_length]
    rfl
  · intro k _ i hi _ _ ih
    rw [spec_l4Find.l0, if_pos (by omega), if_pos (by omega), rK_at l i hi, drop_cons l i hi, ixk]
    by_cases h : l[i].f0 = a
    · rw [if_pos h, if_pos h]
    · rw [if_neg h, if_neg h, w64 (by omega) (by omega), ih () trivial]
      rfl
theorem place_at (p a : Int) (l : List S59) (hl : l.length ≤ 1048576) : impl_Ring_place.f p l a = some (ixk l a 0) := by
  unfold impl_Ring_place.f
  rw [if_pos (by omega)]
theorem srt_step (l : List S59) (i : Nat) (h0 : 1 ≤ i) (hi : i < l.length) : srt (l.drop (i - 1)) = (decide (l[i - 1].f0 < l[i].f0) && srt (l.drop i)) := by
  rw [drop_cons l (i - 1) (by omega), show i - 1 + 1 = i by omega, drop_cons l i hi, srt]
theorem srf_l1 (p : Int) (l : List S59) (h1 : 1 ≤ l.length) (hl : l.length ≤ 1048576) (k : Nat) (hk : 2 * l.length + 10 ≤ k) : spec_RingFault.l1 k 1 p l = some (lastv p l) := by
  refine (loop_up (fun k (_ : Unit) i => spec_RingFault.l1 k i p l) l.length (l.length + 5) (fun _ i => if srt (l.drop (i - 1)) = true then (if ixk l p 0 < 0 then 4 else 0) else 1) (fun _ i => 1 ≤ i) ?_ ?_ k () 1 1 rfl h1 (Nat.le_refl 1) (by omega)).trans (by simp only [Nat.sub_self, List.drop_zero]; rfl)
  · intro k _ _ hm
    rw [spec_RingFault.l1, if_neg (by omega), l4Find_at p p l hl k (by omega), Option.bind_some]
    have e : srt (l.drop (l.length - 1)) = true := by
      rw [drop_cons l (l.length - 1) (by omega), List.drop_eq_nil_of_le (by omega)]
      rfl
    rw [if_pos e]
    split <;> rfl
  · intro k _ i hi hp _ ih
    have e : wrap64 ((i : Int) - 1) = ((i - 1 : Nat) : Int) := by
      rw [w64 (by omega) (by omega)]
      omega
    rw [spec_RingFault.l1, if_pos (by omega), if_pos (by omega), e, if_pos (by omega), if_pos (by omega), rK_at l i hi, rK_at l (i - 1) (by omega), srt_step l i hp hi]
    by_cases h : l[i].f0 ≤ l[i - 1].f0
    · rw [if_pos h, decide_eq_false (by omega), Bool.false_and, if_neg (by decide)]
    · rw [if_neg h, decide_eq_true (by omega), Bool.true_and, w64 (by omega) (by omega)]
      have := ih () (by omega)
      rw [show i + 1 - 1 = i by omega] at this
      exact this
theorem irf_l1 (p : Int) (l : List S59) (h1 : 1 ≤ l.length) (hl : l.length ≤ 1048576) (k : Nat) (hk : 2 * l.length + 10 ≤ k) : impl_RingFault.l1 k 1 p l = some (lastv p l) := by
  refine (loop_up (fun k (_ : Unit) i => impl_RingFault.l1 k i p l) l.length (l.length + 5) (fun _ i => if srt (l.drop (i - 1)) = true then (if ixk l p 0 < 0 then 4 else 0) else 1) (fun _ i => 1 ≤ i) ?_ ?_ k () 1 1 rfl h1 (Nat.le_refl 1) (by omega)).trans (by simp only [Nat.sub_self, List.drop_zero]; rfl)
  · intro k _ _ hm
    rw [impl_RingFault.l1, if_neg (by omega), place_at p p l hl, Option.bind_some]
    have e : srt (l.drop (l.length - 1)) = true := by
      rw [drop_cons l (l.length - 1) (by omega), List.drop_eq_nil_of_le (by omega)]
      rfl
    rw [if_pos e]
    split <;> rfl
  · intro k _ i hi hp _ ih
    have e : wrap64 ((i : Int) - 1) = ((i - 1 : Nat) : Int) := by
      rw [w64 (by omega) (by omega)]
      omega
    rw [impl_RingFault.l1, if_pos (by omega), e, if_pos (by omega), if_pos (by omega), if_pos (by omega), rK_at l i hi, rK_at l (i - 1) (by omega), srt_step l i hp hi]
    by_cases h : l[i - 1].f0 ≥ l[i].f0
    · rw [if_pos h, decide_eq_false (by omega), Bool.false_and, if_neg (by decide)]
    · rw [if_neg h, decide_eq_true (by omega), Bool.true_and, w64 (by omega) (by omega)]
      have := ih () (by omega)
      rw [show i + 1 - 1 = i by omega] at this
      exact this
theorem sRingFault_at (p : Int) (l : List S59) (hl : l.length ≤ 1048576) (k : Nat) (hk : 100 ≤ k) : spec_RingFault.f k p l = some (rfv p l) := by
  obtain ⟨k, rfl⟩ : ∃ z, k = z + 1 := ⟨k - 1, by omega⟩
  unfold spec_RingFault.f rfv
  by_cases h1 : l.length < 1
  · rw [if_pos (by omega), if_pos (.inl h1), spec_RingFault.j0, if_pos rfl]
  rw [if_neg (by omega)]
  by_cases h3 : 3 < l.length
  · rw [if_pos (.inr h3), decide_eq_true (by omega), spec_RingFault.j0, if_pos rfl]
  rw [if_neg (by omega), decide_eq_false (by omega), spec_RingFault.j0, if_neg (by decide)]
  refine (loop_up (fun k (_ : Unit) i => spec_RingFault.l0 k i p l) l.length 30 (fun _ i => if kfs (l.drop i) = 0 then lastv p l else kfs (l.drop i)) (fun _ _ => True) ?_ ?_ k () 0 0 rfl (by omega) trivial (by omega)).trans (by simp only [List.drop_zero])
  · intro k _ _ hm
    rw [spec_RingFault.l0, if_neg (by omega), srf_l1 p l (by omega) hl k (by omega), List.drop_length, if_pos (show kfs [] = 0 from rfl)]
  · intro k _ i hi _ _ ih
    rw [spec_RingFault.l0, if_pos (by omega), if_pos (by omega), rK_at l i hi, l4Key_at, Option.bind_some, drop_cons l i hi, kfs]
    by_cases h : kfv l[i] = 0
    · rw [if_pos h, if_pos h, w64 (by omega) (by omega)]
      exact ih () trivial
    · rw [if_neg h, if_neg h, if_neg h]
theorem iRingFault_at (p : Int) (l : List S59) (hl : l.length ≤ 1048576) (k : Nat) (hk : 100 ≤ k) : impl_RingFault.f k p l = some (rfv p l) := by
  unfold impl_RingFault.f rfv
  rw [impl_in_at, Option.bind_some]
  by_cases h1 : l.length < 1 ∨ 3 < l.length
  · rw [if_pos h1, decide_eq_false (by omega), if_neg (by decide)]
  rw [if_neg h1, decide_eq_true (by omega), if_pos rfl]
  refine (loop_up (fun k (_ : Unit) i => impl_RingFault.l0 k l (l.length : Int) i p l) l.length 30 (fun _ i => if kfs (l.drop i) = 0 then lastv p l else kfs (l.drop i)) (fun _ _ => True) ?_ ?_ k () 0 0 rfl (by omega) trivial (by omega)).trans (by simp only [List.drop_zero])
  · intro k _ _ hm
    rw [impl_RingFault.l0, if_neg (by omega), irf_l1 p l (by omega) hl k (by omega), List.drop_length, if_pos (show kfs [] = 0 from rfl)]
  · intro k _ i hi _ _ ih
    rw [impl_RingFault.l0, if_pos (by omega), if_pos (by omega), if_pos (by omega), rK_at l i hi, Key_fault_at, Option.bind_some, drop_cons l i hi, kfs]
    by_cases h : kfv l[i] = 0
    · rw [if_pos h, if_pos h, w64 (by omega) (by omega)]
      exact ih () trivial
    · rw [if_neg h, if_neg h, if_neg h]
theorem rwn_top (x : List Int) (hx : ∀ y ∈ x, 0 ≤ y ∧ y ≤ 255) (a : Int) (h0 : 0 ≤ a) : ∀ n : Nat, a + (n + 1 : Nat) ≤ x.length → rd x a * 256 ^ n ≤ rwn (n + 1) x a ∧ rwn (n + 1) x a < (rd x a + 1) * 256 ^ n
  | 0, h => by
    simp only [rwn, Int.pow_zero, Int.mul_one, Int.zero_mul, Int.zero_add]
    rw [show a + ((0 : Nat) : Int) = a by omega]
    omega
  | n + 1, h => by
    obtain ⟨h1, h2⟩ := rwn_top x hx a h0 n (by omega)
    have b := rd_byte hx (a + ((n + 1 : Nat) : Int)) (by omega) (by omega)
    rw [rwn, Int.pow_succ, ← Int.mul_assoc, ← Int.mul_assoc]
    generalize rd x a * 256 ^ n = u at *
    generalize (rd x a + 1) * 256 ^ n = v at *
    omega
def rhv (x : List Int) : Int × Int × Int × Int × List Int := if x.length < 11 then (2, 0, 0, 0, []) else if rd x 0 = 1 then (if (1 ≤ rd x 1 ∧ rd x 1 ≤ 255) ∧ (0 ≤ rd x 2 ∧ rd x 2 ≤ 15) ∧ (0 ≤ rwn 8 x 3 ∧ rwn 8 x 3 ≤ 1000000000) then (0, rd x 1, rd x 2, rwn 8 x 3, []) else (3, 0, 0, 0, [])) else (1, 0, 0, 0, [])
theorem rwn8_top (x : List Int) (hx : ∀ y ∈ x, 0 ≤ y ∧ y ≤ 255) (h : 11 ≤ x.length) : (127 < rd x 3 → 9223372036854775807 < rwn 8 x 3) ∧ (rd x 3 ≤ 127 → rwn 8 x 3 ≤ 9223372036854775807) := by
  have t := rwn_top x hx 3 (by omega) 7 (by omega)
  have q : (256 : Int) ^ 7 = 72057594037927936 := by decide
  rw [q, show 7 + 1 = 8 from rfl] at t
  omega
theorem sReadHead_at (x : List Int) (hx : ∀ y ∈ x, 0 ≤ y ∧ y ≤ 255) (hl : x.length ≤ 1048576) (k : Nat) (hk : 20 ≤ k) : spec_ReadHead.f k x = some (rhv x) := by
  unfold spec_ReadHead.f rhv
  by_cases h : x.length < 11
  · rw [if_pos h, if_pos (by omega)]
  rw [if_neg h, if_neg (by omega), if_pos (by omega)]
  by_cases h0 : rd x 0 = 1
  rotate_left
  · rw [if_neg h0, if_neg h0]
  rw [if_pos h0, if_pos h0, if_pos (by omega), if_pos (by omega), if_pos (by omega)]
  obtain ⟨t1, t2⟩ := rwn8_top x hx (by omega)
  by_cases h3 : rd x 3 > 127
  · have := t1 h3
    rw [if_pos h3, if_neg (by omega)]
  have t3 := t2 (by omega)
  have b1 := rd_byte hx 1 (by omega) (by omega)
  have b2 := rd_byte hx 2 (by omega) (by omega)
  have e := spec_l1Read_gen x hx hl 3 (by omega) 8 (by omega) (by omega) t3 k (by omega)
  rw [show ((8 : Nat) : Int) = 8 from rfl] at e
  rw [if_neg h3, e, Option.bind_some, w64 (show -9223372036854775808 ≤ rd x 1 by omega) (by omega), w64 (show -9223372036854775808 ≤ rd x 2 by omega) (by omega)]
  unfold spec_l5Head.f
  rw [spec_in_at, Option.bind_some, spec_in_at, spec_in_at]
  by_cases c1 : 1 ≤ rd x 1 ∧ rd x 1 ≤ 255
  · rw [decide_eq_true c1, if_pos rfl, Option.bind_some]
    by_cases c2 : 0 ≤ rd x 2 ∧ rd x 2 ≤ 15
    · rw [decide_eq_true c2, if_pos rfl, Option.bind_some]
      by_cases c3 : 0 ≤ rwn 8 x 3 ∧ rwn 8 x 3 ≤ 1000000000
      · rw [decide_eq_true c3, Option.bind_some, if_pos rfl, if_pos ⟨c1, c2, c3⟩]
      · rw [decide_eq_false c3, Option.bind_some, if_neg (by decide), if_neg (fun h => c3 h.2.2)]
    · rw [decide_eq_false c2, if_neg (by decide), Option.bind_some, if_neg (by decide), if_neg (fun h => c2 h.2.1)]
  · rw [decide_eq_false c1, if_neg (by decide), Option.bind_some, if_neg (by decide), if_neg (fun h => c1 h.1)]
theorem iLetterFault_at (a b c : Int) (k : Nat) (hk : 1 ≤ k) : impl_LetterFault.f k a b c [] = some (if (1 ≤ a ∧ a ≤ 255) ∧ (0 ≤ b ∧ b ≤ 15) ∧ (0 ≤ c ∧ c ≤ 1000000000) then 0 else 3) := by
  obtain ⟨k, rfl⟩ : ∃ z, k = z + 1 := ⟨k - 1, by omega⟩
  unfold impl_LetterFault.f impl_isKeyId.f
  rw [impl_in_at, Option.bind_some, Option.bind_some, impl_in_at, impl_in_at]
  have ej : ∀ q : Bool, impl_LetterFault.j0 (k + 1) q a b c [] = some (if q = true then 3 else 0) := fun q => by
    rw [impl_LetterFault.j0]
    cases q <;> rfl
  by_cases c1 : 1 ≤ a ∧ a ≤ 255
  · rw [decide_eq_true c1, if_pos rfl, Option.bind_some]
    by_cases c2 : 0 ≤ b ∧ b ≤ 15
    · rw [decide_eq_true c2, if_pos rfl, Option.bind_some]
      by_cases c3 : 0 ≤ c ∧ c ≤ 1000000000
      · rw [decide_eq_true c3, ej, if_pos (show (1 ≤ a ∧ a ≤ 255) ∧ (0 ≤ b ∧ b ≤ 15) ∧ (0 ≤ c ∧ c ≤ 1000000000) from ⟨c1, c2, c3⟩)]
        rfl
      · rw [decide_eq_false c3, ej, if_neg (show ¬ ((1 ≤ a ∧ a ≤ 255) ∧ (0 ≤ b ∧ b ≤ 15) ∧ (0 ≤ c ∧ c ≤ 1000000000)) from fun h => c3 h.2.2)]
        rfl
    · rw [decide_eq_false c2, if_neg (by decide), ej, if_neg (show ¬ ((1 ≤ a ∧ a ≤ 255) ∧ (0 ≤ b ∧ b ≤ 15) ∧ (0 ≤ c ∧ c ≤ 1000000000)) from fun h => c2 h.2.1)]
      rfl
  · rw [decide_eq_false c1, if_neg (by decide), ej, if_neg (show ¬ ((1 ≤ a ∧ a ≤ 255) ∧ (0 ≤ b ∧ b ≤ 15) ∧ (0 ≤ c ∧ c ≤ 1000000000)) from fun h => c1 h.1)]
    rfl
theorem iReadHead_at (x : List Int) (hx : ∀ y ∈ x, 0 ≤ y ∧ y ≤ 255) (hl : x.length ≤ 1048576) (k : Nat) (hk : 20 ≤ k) : impl_ReadHead.f k x = some (rhv x) := by
  unfold impl_ReadHead.f rhv
  by_cases h : x.length < 11
  · rw [if_pos h, if_pos (by omega)]
  rw [if_neg h, if_neg (by omega), if_pos (by omega)]
  by_cases h0 : rd x 0 = 1
  rotate_left
  · rw [if_neg h0, if_neg h0]
  have e := impl_ReadWord_gen x hx hl 3 8 (by omega) (by omega) k (by omega)
  rw [show ((8 : Nat) : Int) = 8 from rfl] at e
  have b1 := rd_byte hx 1 (by omega) (by omega)
  have b2 := rd_byte hx 2 (by omega) (by omega)
  rw [if_pos h0, if_pos h0, e, Option.bind_some, if_pos (by omega), if_pos (by omega), w64 (show -9223372036854775808 ≤ rd x 1 by omega) (by omega), w64 (show -9223372036854775808 ≤ rd x 2 by omega) (by omega)]
  unfold rwr
  rw [if_pos (show 0 ≤ (3 : Int) ∧ (3 : Int) + ((8 : Nat) : Int) ≤ (x.length : Int) from ⟨by omega, by omega⟩)]
  by_cases hb : rwn 8 x 3 > 9223372036854775807
  · rw [if_pos hb, if_neg (by decide), if_neg (by omega)]
  · rw [if_neg hb, if_pos rfl, iLetterFault_at _ _ _ k (by omega), Option.bind_some]
    split
    · rw [if_pos rfl]
    · rw [if_neg (by decide)]
theorem word_at' (n : Nat) (hn : n ≤ 100) (x : Int) (m : Int) (hm : m = (n : Int)) (k : Nat) (hk : n < k) : impl_word.f k x m = some (pk n x) := by
  subst hm
  exact impl_word_at n hn x k hk
theorem pack_at' (n : Nat) (hn : n ≤ 100) (x : Int) (m : Int) (hm : m = (n : Int)) (k : Nat) (hk : n < k) : spec_l1Pack.f k x m = some (pk n x) := by
  subst hm
  exact spec_l1Pack_at n hn x k hk
def ncv (s c : Int) : List Int := pk 4 s ++ pk 8 c
theorem ncv_len (s c : Int) : (ncv s c).length = 12 := by rw [ncv, List.length_append, pk_len, pk_len]
theorem ncv_byte (s c : Int) : ∀ y ∈ ncv s c, 0 ≤ y ∧ y ≤ 255 := by
  intro y hy
  rcases List.mem_append.1 hy with h | h
  · exact pk_range' 4 s y h
  · exact pk_range' 8 c y h
theorem l5Nonce_at (s c : Int) (k : Nat) (hk : 10 ≤ k) : spec_l5Nonce.f k s c = some (ncv s c) := by
  unfold spec_l5Nonce.f
  rw [pack_at' 4 (by omega) s 4 rfl k (by omega), Option.bind_some, pack_at' 8 (by omega) c 8 rfl k (by omega), Option.bind_some, if_pos (by rw [pk_len, pk_len]; omega), ncv]
theorem iNonceOf_at (s c : Int) (hs : 0 ≤ s ∧ s ≤ 15) (hc : 0 ≤ c ∧ c ≤ 1000000000) (k : Nat) (hk : 11 ≤ k) : impl_NonceOf.f k s c = some (0, ncv s c) := by
  obtain ⟨k, rfl⟩ : ∃ z, k = z + 1 := ⟨k - 1, by omega⟩
  unfold impl_NonceOf.f
  rw [impl_in_at, Option.bind_some, decide_eq_true hs, if_pos rfl, impl_in_at, Option.bind_some, decide_eq_true hc, impl_NonceOf.j0, if_neg (by decide), word_at' 4 (by omega) s 4 rfl k (by omega), Option.bind_some, word_at' 8 (by omega) c 8 rfl k (by omega), Option.bind_some, if_pos (by rw [pk_len, pk_len]; omega), ncv]
theorem pkl8_rwn (x : List Int) (hx : ∀ y ∈ x, 0 ≤ y ∧ y ≤ 255) (h : 11 ≤ x.length) (hb : rwn 8 x 3 ≤ 1000000000) : pk 8 (rwn 8 x 3) = (x.take 11).drop 3 := by
  rw [pk, pkl_rwn x hx 3 (by omega) 8 _ (by omega) (by simp) (by omega)]
  simp only [List.drop_replicate, Nat.sub_self, List.replicate_zero, List.append_nil]
  apply List.ext_getElem
  · simp
    omega
  · intro i h1 h2
    rw [List.getElem_map, List.getElem_range, List.getElem_drop, List.getElem_take]
    have hi : i < 8 := by simpa using h1
    rw [show (3 : Int) + (i : Int) = ((3 + i : Nat) : Int) by omega, rd_nat x (3 + i) (by omega)]
theorem headOf_at (x : List Int) (hx : ∀ y ∈ x, 0 ≤ y ∧ y ≤ 255) (h : 11 ≤ x.length) (h0 : rd x 0 = 1) (hb : rwn 8 x 3 ≤ 1000000000) (k : Nat) (hk : 10 ≤ k) : spec_l5HeadOf.f k (rd x 1) (rd x 2) (rwn 8 x 3) [] = some (x.take 11) := by
  have b1 := rd_byte hx 1 (by omega) (by omega)
  have b2 := rd_byte hx 2 (by omega) (by omega)
  unfold spec_l5HeadOf.f
  rw [Option.bind_some, pack_at' 8 (by omega) _ 8 rfl k (by omega), Option.bind_some, if_pos (by rw [pk_len]; simp), pkl8_rwn x hx h hb]
  have e : x.take 3 = [1, rd x 1, rd x 2] := by
    have g0 := rd_nat x 0 (by omega)
    have g1 := rd_nat x 1 (by omega)
    have g2 := rd_nat x 2 (by omega)
    rw [show ((0 : Nat) : Int) = 0 from rfl] at g0
    rw [show ((1 : Nat) : Int) = 1 from rfl] at g1
    rw [show ((2 : Nat) : Int) = 2 from rfl] at g2
    have e3 : x.take 3 = [x[0], x[1], x[2]] := by
      rw [take_succ x 2 (by omega), take_succ x 1 (by omega), take_succ x 0 (by omega)]
      rfl
    rw [e3, ← g0, ← g1, ← g2, h0]
  rw [Int.emod_eq_of_lt b1.1 (by omega), Int.emod_eq_of_lt b2.1 (by omega)]
  have e2 : (x.take 11).take 3 ++ (x.take 11).drop 3 = x.take 11 := List.take_append_drop 3 _
  rw [List.take_take, show min 3 11 = 3 from rfl, e] at e2
  rw [e2]
def RK (l : List S59) (n : Nat) : Prop := l.length ≤ n ∧ ∀ q ∈ l, q.f1.length ≤ 20 ∧ ∀ y ∈ q.f1, 0 ≤ y ∧ y ≤ 255
def BT (l : List Int) (n : Nat) : Prop := l.length ≤ n ∧ ∀ y ∈ l, 0 ≤ y ∧ y ≤ 255
theorem some_at {code : List Int} (h : Bytes code) (k : Nat) (p n : Int) (hn : 0 ≤ n ∧ n ≤ 900) (hp : 0 ≤ p ∧ p ≤ 800000) (hk : 1000 ≤ k) : ∃ l, spec_l1Some.f k code p n = some (l, p + n) ∧ (l.length : Int) = n ∧ ∀ y ∈ l, 0 ≤ y ∧ y ≤ 255 := by
  obtain ⟨d, rfl⟩ := Int.eq_ofNat_of_zero_le hn.1
  obtain ⟨l, e, hl, hb⟩ := l1Some_l0 h d k [] p (by omega) (by omega) (by simp; omega) hp.1 (by omega) (by simp)
  exact ⟨l, e, by simp at hl; omega, hb⟩
theorem l4Bytes_l0 (a : Int) : ∀ (d k : Nat) (l : List Int) (i : Int), i + d = 16 → (l.length : Int) = i → d < k → (∀ y ∈ l, 0 ≤ y ∧ y ≤ 255) → ∃ r, spec_l4Bytes.l0 k a l i = some r ∧ r.length = 16 ∧ ∀ y ∈ r, 0 ≤ y ∧ y ≤ 255
  | 0, k, l, i, hi, hl, hk, hb => by
    obtain ⟨k, rfl⟩ : ∃ m, k = m + 1 := ⟨k - 1, by omega⟩
    rw [spec_l4Bytes.l0, if_neg (by omega)]
    exact ⟨l, rfl, by omega, hb⟩
  | d + 1, k, l, i, hi, hl, hk, hb => by
    obtain ⟨k, rfl⟩ : ∃ m, k = m + 1 := ⟨k - 1, by omega⟩
    rw [spec_l4Bytes.l0, if_pos (by omega), if_pos (by omega), w64 (x := i + 1) (by omega) (by omega)]
    refine l4Bytes_l0 a d k _ (i + 1) (by omega) (by rw [List.length_append, List.length_singleton]; omega) (by omega) fun y hy => ?_
    rcases List.mem_append.1 hy with hy | hy
    · exact hb y hy
    · rw [List.mem_singleton.1 hy]
      omega
theorem l4Draw_l0 {code : List Int} (h : Bytes code) (z : Int) : ∀ (d k : Nat) (x p : Int) (l : List S59), d + 40 < k → 0 < l.length + d → 0 ≤ p → p + 2 * d ≤ 800000 → RK l (3 - d) → d ≤ 3 → ∃ q l' p', spec_l4Draw.l0 k x d code p z l = some (q, l', p') ∧ 0 < l'.length ∧ RK l' 3 ∧ p ≤ p' ∧ p' ≤ p + 2 * d + 2
  | 0, k, x, p, l, hk, hl, hp, hp2, hr, hd => by
    obtain ⟨k, rfl⟩ : ∃ m, k = m + 1 := ⟨k - 1, by omega⟩
    have hl3 := hr.1
    obtain ⟨v, e, v0, v1, _⟩ := next_at h p (l.length : Int) (by omega) (by omega)
    have v2 := v1 (by omega)
    rw [spec_l4Draw.l0, if_neg (by omega), e, Option.bind_some, if_pos v0, if_pos v2]
    exact ⟨_, l, _, rfl, by omega, hr, by omega, by omega⟩
  | d + 1, k, x, p, l, hk, hl, hp, hp2, hr, hd => by
    obtain ⟨k, rfl⟩ : ∃ m, k = m + 1 := ⟨k - 1, by omega⟩
    have hl3 := hr.1
    obtain ⟨b, eb, b1, b2⟩ := l4Bytes_l0 x 16 k [] 0 (by omega) (by simp) (by omega) (by simp)
    obtain ⟨v, e, v0, v1, _⟩ := next_at h p 2 (by omega) (by omega)
    rw [spec_l4Draw.l0, if_pos (by omega), spec_l4Bytes.f, eb, Option.bind_some, if_pos (by omega), e, Option.bind_some, show wrap64 (((d + 1 : Nat) : Int) - 1) = (d : Int) by rw [w64 (by omega) (by omega)]; omega]
    obtain ⟨q, l', p', e2, h1, h2, h3, h4⟩ := l4Draw_l0 h z d k _ (p + 1) (l ++ [⟨x, b⟩]) (by omega) (by rw [List.length_append, List.length_singleton]; omega) (by omega) (by omega) ⟨by rw [List.length_append, List.length_singleton]; omega, fun q hq => by
      rcases List.mem_append.1 hq with hq | hq
      · exact hr.2 q hq
      · rw [List.mem_singleton.1 hq]
        exact ⟨by show b.length ≤ 20; omega, b2⟩⟩ (by omega)
    exact ⟨q, l', p', e2, h1, h2, by omega, by omega⟩
theorem l4Draw_at {code : List Int} (h : Bytes code) (k : Nat) (p : Int) (hk : 100 ≤ k) (hp : 0 ≤ p ∧ p ≤ 700000) : ∃ q l p', spec_l4Draw.f k code p = some (q, l, p') ∧ 0 < l.length ∧ RK l 3 ∧ p ≤ p' ∧ p' ≤ p + 10 := by
  obtain ⟨a, e1, _⟩ := pick_at h p (by omega) [1, 2, 5] (by decide) (by decide)
  obtain ⟨b, e2, hb⟩ := pick_at h (p + 1) (by omega) [1, 2, 2, 3] (by decide) (by decide)
  have hb' : 1 ≤ b ∧ b ≤ 3 := by
    simp only [List.mem_cons, List.not_mem_nil, or_false] at hb
    omega
  obtain ⟨d, rfl⟩ := Int.eq_ofNat_of_zero_le (show 0 ≤ b by omega)
  obtain ⟨q, l, p', e, h1, h2, h3, h4⟩ := l4Draw_l0 h 0 d k a (p + 1 + 1) [] (by omega) (by simp; omega) (by omega) (by omega) ⟨by simp, by simp⟩ (by omega)
  refine ⟨q, l, p', ?_, h1, h2, by omega, by omega⟩
  unfold spec_l4Draw.f
  rw [e1, Option.bind_some, e2, Option.bind_some]
  exact e
theorem RK.set {l : List S59} {n : Nat} (h : RK l n) (q : S59) (hq : q.f1.length ≤ 20 ∧ ∀ y ∈ q.f1, 0 ≤ y ∧ y ≤ 255) (i : Nat) : RK (l.set i q) n :=
  ⟨by rw [List.length_set]; exact h.1, fun z hz => by
    rcases List.mem_or_eq_of_mem_set hz with h1 | h1
    · exact h.2 z h1
    · rw [h1]
      exact hq⟩
theorem l4Bent_at {code : List Int} (h : Bytes code) (k : Nat) (p : Int) (hk : 1100 ≤ k) (hp : 0 ≤ p ∧ p ≤ 600000) : ∃ q l p', spec_l4Bent.f k code p = some (q, l, p') ∧ RK l 6 ∧ p ≤ p' ∧ p' ≤ p + 40 := by
  obtain ⟨q, l, p1, e1, h1, h2, h3, h4⟩ := l4Draw_at h k p (by omega) (by omega)
  obtain ⟨v, e2, _⟩ := next_at h p1 14 (by omega) (by omega)
  obtain ⟨x, e3, _⟩ := pick_at h (p1 + 1) (by omega) [0, 200] (by decide) (by decide)
  obtain ⟨y, e4, _⟩ := pick_at h (p1 + 1) (by omega) [0, 255, 256] (by decide) (by decide)
  obtain ⟨z, e5, hz⟩ := pick_at h (p1 + 1) (by omega) [15, 17] (by decide) (by decide)
  have hz' : 15 ≤ z ∧ z ≤ 17 := by
    simp only [List.mem_cons, List.not_mem_nil, or_false] at hz
    omega
  obtain ⟨t, e6, t1, t2⟩ := some_at h k (p1 + 1 + 1) z (by omega) (by omega) (by omega)
  have r6 : RK l 6 := ⟨Nat.le_trans h2.1 (by decide), h2.2⟩
  have l3 := h2.1
  unfold spec_l4Bent.f
  simp only [e1, e2, e3, e4, e5, e6, Option.bind_some]
  rw [if_pos (show 0 < (l.length : Int) by omega), if_pos (show 0 < (l.length : Int) by omega), if_pos (show l.length + l.length < 4398046511104 by omega)]
  have g0 : rd_T59 l 0 = l[0] := rK_at l 0 h1
  repeat' split
  · exact ⟨_, _, _, rfl, ⟨by simp, by simp⟩, by omega, by omega⟩
  · exact ⟨_, _, _, rfl, r6, by omega, by omega⟩
  · exact ⟨_, _, _, rfl, r6.set _ (by rw [g0]; exact h2.2 l[0] (List.getElem_mem h1)) _, by omega, by omega⟩
  · exact ⟨_, _, _, rfl, r6.set _ ⟨by show t.length ≤ 20; omega, t2⟩ _, by omega, by omega⟩
  · exact ⟨_, _, _, rfl, ⟨by rw [List.length_append]; omega, fun q hq => h2.2 q ((List.mem_append.1 hq).elim id id)⟩, by omega, by omega⟩
  · exact ⟨_, _, _, rfl, r6, by omega, by omega⟩
theorem l5Draw_at {code : List Int} (h : Bytes code) (k : Nat) (p : Int) (hk : 1000 ≤ k) (hp : 0 ≤ p ∧ p ≤ 700000) : ∃ a b c t p', spec_l5Draw.f k code p = some (a, b, c, t, p') ∧ BT t 301 ∧ p ≤ p' ∧ p' ≤ p + 40 := by
  obtain ⟨a, e1, _⟩ := pick_at h p (by omega) [1, 2, 3, 5, 6] (by decide) (by decide)
  obtain ⟨b, e2, _⟩ := next_at h (p + 1) 16 (by omega) (by omega)
  obtain ⟨c, e3, _⟩ := pick_at h (p + 1 + 1) (by omega) [0, 1, 7, 1000000000] (by decide) (by decide)
  obtain ⟨n, e4, hn⟩ := pick_at h (p + 1 + 1 + 1) (by omega) [0, 1, 16, 30] (by decide) (by decide)
  have hn' : 0 ≤ n ∧ n ≤ 30 := by
    simp only [List.mem_cons, List.not_mem_nil, or_false] at hn
    omega
  obtain ⟨t, e5, t1, t2⟩ := some_at h k (p + 1 + 1 + 1 + 1) n (by omega) (by omega) (by omega)
  unfold spec_l5Draw.f
  simp only [e1, e2, e3, e4, e5, Option.bind_some]
  exact ⟨_, _, _, _, _, rfl, ⟨by omega, t2⟩, by omega, by omega⟩
theorem l5Bent_at {code : List Int} (h : Bytes code) (k : Nat) (p : Int) (hk : 1000 ≤ k) (hp : 0 ≤ p ∧ p ≤ 600000) : ∃ a b c t p', spec_l5Bent.f k code p = some (a, b, c, t, p') ∧ BT t 301 ∧ p ≤ p' ∧ p' ≤ p + 400 := by
  obtain ⟨a, b, c, t, p1, e1, h1, h2, h3⟩ := l5Draw_at h k p (by omega) (by omega)
  obtain ⟨v, e2, _⟩ := next_at h p1 12 (by omega) (by omega)
  obtain ⟨x1, e3, _⟩ := pick_at h (p1 + 1) (by omega) [0, 255, 256] (by decide) (by decide)
  obtain ⟨x2, e4, _⟩ := pick_at h (p1 + 1) (by omega) [(-1), 16] (by decide) (by decide)
  obtain ⟨x3, e5, _⟩ := pick_at h (p1 + 1) (by omega) [(-1), 1000000001] (by decide) (by decide)
  obtain ⟨y, e6⟩ := chance_at h (p1 + 1) 3 (by omega) (by omega)
  obtain ⟨n, e7, hn⟩ := pick_at h (p1 + 1 + 1) (by omega) [300, 301] (by decide) (by decide)
  have hn' : 300 ≤ n ∧ n ≤ 301 := by
    simp only [List.mem_cons, List.not_mem_nil, or_false] at hn
    omega
  obtain ⟨u, e8, u1, u2⟩ := some_at h k (p1 + 1 + 1 + 1) n (by omega) (by omega) (by omega)
  unfold spec_l5Bent.f
  simp only [e1, e2, e3, e4, e5, e6, e7, e8, Option.bind_some]
  repeat' split
  all_goals first | exact ⟨_, _, _, _, _, rfl, h1, by omega, by omega⟩ | exact ⟨_, _, _, _, _, rfl, ⟨by omega, u2⟩, by omega, by omega⟩
theorem drawSeal_at {code : List Int} (h : Bytes code) (k : Nat) (hk : 1100 ≤ k) : ∃ p l a b c t, spec_DrawSealLetter.f k code = some (p, l, a, b, c, t) ∧ RK l 6 ∧ BT t 301 := by
  obtain ⟨p, l, q, e1, h1, h2, h3⟩ := l4Bent_at h k 0 hk (by omega)
  obtain ⟨a, b, c, t, q2, e2, h4, h5, h6⟩ := l5Bent_at h k q (by omega) (by omega)
  obtain ⟨y, e3⟩ := chance_at h q2 5 (by omega) (by omega)
  have hl := h1.1
  obtain ⟨v, e4, v0, v1, _⟩ := next_at h (q2 + 1) (l.length : Int) (by omega) (by omega)
  unfold spec_DrawSealLetter.f spec_l1Source.f
  simp only [e1, e2, e3, e4, Option.bind_some]
  by_cases hz : (l.length : Int) > 0
  · rw [if_pos hz, if_pos v0, if_pos (v1 (by omega))]
    split <;> exact ⟨_, _, _, _, _, _, rfl, h1, h4⟩
  · rw [if_neg hz]
    exact ⟨_, _, _, _, _, _, rfl, h1, h4⟩
def tgv (ks n e c : List Int) : List Int := (spec_l3Tag.f 1000 ks n e c).getD []
theorem tag_at (ks n e c : List Int) (hks : ks.length = 176) (hn : n.length = 12) (he : e.length ≤ 1000) (hc : c.length ≤ 1000) (heb : ∀ y ∈ e, 0 ≤ y ∧ y ≤ 255) (hcb : ∀ y ∈ c, 0 ≤ y ∧ y ≤ 255) :
    (tgv ks n e c).length = 16 ∧ (∀ y ∈ tgv ks n e c, 0 ≤ y ∧ y ≤ 255) ∧ ∀ k, 1000 ≤ k → spec_l3Tag.f k ks n e c = some (tgv ks n e c) ∧ tagO k ks n e c = some (tgv ks n e c) := by
  obtain ⟨t, h1, h2, h3⟩ := tag_both ks n e c hks hn he hc heb hcb
  have e1 : tgv ks n e c = t := by rw [tgv, (h3 1000 (by omega)).1]; rfl
  rw [e1]
  exact ⟨h1, h2, h3⟩
theorem xr_xr (a b : Int) (h : 0 ≤ a ∧ a ≤ 255) : xr (xr a b) b = a := by
  rw [xr_B, xB_xr, BitVec.xor_assoc, BitVec.xor_self, BitVec.xor_zero]
  unfold xB
  simp
  omega
def ctv (key n t : List Int) : List Int := strv (sched key) (upv (startv n)) t
theorem ct_len (key n t : List Int) : (ctv key n t).length = t.length := strv_len _ _ _
theorem ct_byte (key n t : List Int) : ∀ y ∈ ctv key n t, 0 ≤ y ∧ y ≤ 255 := fun y hy => by
  obtain ⟨j, _, rfl⟩ := List.mem_map.1 hy
  exact xr_byte _ _
theorem ct_ct (key n t : List Int) (h : ∀ y ∈ t, 0 ≤ y ∧ y ≤ 255) : ctv key n (ctv key n t) = t := by
  have g : ∀ (l : List Int) (i : Nat) (hi : i < (ctv key n l).length), (ctv key n l)[i] = strf (sched key) (upv (startv n)) l i := fun l i hi => by
    simp only [ctv, strv, List.getElem_map, List.getElem_range]
  apply List.ext_getElem (by rw [ct_len, ct_len])
  intro i h1 h2
  rw [g, strf, rd_nat _ i (by rw [ct_len]; exact h2), g, strf, rd_nat t i h2]
  exact xr_xr _ _ (h _ (List.getElem_mem h2))
def slv (key n e t : List Int) : List Int := ctv key n t ++ tgv (sched key) n e (ctv key n t)
theorem l3Seal_at (key n e t : List Int) (hk : key.length = 16) (hkb : ∀ y ∈ key, 0 ≤ y ∧ y ≤ 255) (hn : n.length = 12) (hnb : ∀ y ∈ n, 0 ≤ y ∧ y ≤ 255) (he : e.length ≤ 100) (heb : ∀ y ∈ e, 0 ≤ y ∧ y ≤ 255) (ht : t.length ≤ 600) (k : Nat) (hk1 : 2200 ≤ k) :
    spec_l3Seal.f k key n e t = some (slv key n e t) ∧ impl_SealText.f k key n e t = some (0, slv key n e t) := by
  have hsl : (sched key).length = 176 := keyr_len key hk 40
  have hu : (upv (startv n)).length = 16 := by rw [upv_len, startv_len _ hn]
  have hub : ∀ y ∈ upv (startv n), 0 ≤ y ∧ y ≤ 255 := upg_byte _ _ _ (startv_byte n hn hnb)
  have hcl := ct_len key n t
  obtain ⟨h1, h2, h3⟩ := tag_at (sched key) n e (ctv key n t) hsl hn (by omega) (by omega) heb (ct_byte key n t)
  obtain ⟨e1, e2⟩ := h3 k (by omega)
  constructor
  · unfold spec_l3Seal.f
    rw [spec_l2Keys.f, if_pos ⟨hk, hkb⟩, Option.bind_some, first_at n hn, Option.bind_some, count_at _ (startv_byte n hn hnb) (startv_len _ hn) k (by omega), Option.bind_some, l3Stream_at _ _ _ hsl hu hub (by omega) k (by omega), Option.bind_some]
    rw [show strv (sched key) (upv (startv n)) t = ctv key n t from rfl, e1, Option.bind_some, if_pos (by omega), slv]
  · unfold impl_SealText.f
    rw [if_pos hk, if_pos hn, if_pos he, if_pos ht, if_pos hkb, show strv (sched key) (upv (startv n)) t = ctv key n t from rfl, e2, Option.bind_some, Concat_at _ (by simp) (by
      intro r hr
      simp only [List.mem_cons, List.not_mem_nil, or_false] at hr
      rcases hr with h | h
      · rw [h, hcl]
        exact Nat.le_trans ht (by decide)
      · rw [h, h1]
        decide) k (by omega), Option.bind_some, slv]
    simp
def hdv (a b c : Int) : List Int := [1, a % 256, b % 256] ++ pk 8 c
theorem hd_len (a b c : Int) : (hdv a b c).length = 11 := by rw [hdv, List.length_append, pk_len]; rfl
theorem hd_byte (a b c : Int) : ∀ y ∈ hdv a b c, 0 ≤ y ∧ y ≤ 255 := fun y hy => by
  rcases List.mem_append.1 hy with h | h
  · simp only [List.mem_cons, List.not_mem_nil, or_false] at h
    omega
  · exact pk_range' 8 c y h
theorem hd_at (a b c : Int) (l : List Int) (k : Nat) (hk : 10 ≤ k) : spec_l5HeadOf.f k a b c l = some (hdv a b c) := by
  unfold spec_l5HeadOf.f
  rw [Option.bind_some, pack_at' 8 (by omega) c 8 rfl k (by omega), Option.bind_some, if_pos (by rw [pk_len]; simp), hdv]
theorem pk8 (n : Int) (h0 : 0 ≤ n) (h1 : n < 4294967296) : pk 8 n = [0, 0, 0, 0, n / 16777216 % 256, n / 65536 % 256, n / 256 % 256, n % 256] := by
  have t : ∀ m : Int, 0 ≤ m → m < 4294967296 → wrap64 (Int.tdiv m 256) = m / 256 ∧ Int.tmod m 256 % 256 = m % 256 := fun m a b => by
    rw [Int.tdiv_eq_ediv_of_nonneg a, Int.tmod_eq_emod_of_nonneg a]
    exact ⟨w64 (by omega) (by omega), by omega⟩
  obtain ⟨a1, b1⟩ := t n h0 h1
  obtain ⟨a2, b2⟩ := t (n / 256) (by omega) (by omega)
  obtain ⟨a3, b3⟩ := t (n / 256 / 256) (by omega) (by omega)
  obtain ⟨a4, b4⟩ := t (n / 256 / 256 / 256) (by omega) (by omega)
  obtain ⟨a5, b5⟩ := t 0 (by omega) (by omega)
  show pkl 8 n [0, 0, 0, 0, 0, 0, 0, 0] = _
  simp only [pkl, a1, b1, a2, b2, a3, b3, a4, b4, show n / 256 / 256 / 256 / 256 = 0 by omega, a5, b5, Int.zero_ediv, Int.zero_emod, List.set_cons_succ, List.set_cons_zero]
  rw [show n / 256 / 256 / 256 = n / 16777216 by omega, show n / 256 / 256 = n / 65536 by omega]
def okf (a b c : Int) : Prop := (1 ≤ a ∧ a ≤ 255) ∧ (0 ≤ b ∧ b ≤ 15) ∧ (0 ≤ c ∧ c ≤ 1000000000)
theorem rhv_hd (a b c : Int) (r : List Int) (h : okf a b c) : rhv (hdv a b c ++ r) = (0, a, b, c, []) := by
  obtain ⟨h1, h2, h3⟩ := h
  have e : hdv a b c ++ r = 1 :: (a % 256) :: (b % 256) :: 0 :: 0 :: 0 :: 0 :: (c / 16777216 % 256) :: (c / 65536 % 256) :: (c / 256 % 256) :: (c % 256) :: r := by
    rw [hdv, pk8 c (by omega) (by omega)]
    rfl
  have e0 : rd (hdv a b c ++ r) 0 = 1 := by rw [e]; rfl
  have e1 : rd (hdv a b c ++ r) 1 = a := by
    rw [e]
    show a % 256 = a
    omega
  have e2 : rd (hdv a b c ++ r) 2 = b := by
    rw [e]
    show b % 256 = b
    omega
  have e3 : rwn 8 (hdv a b c ++ r) 3 = c := by
    rw [e]
    show (((((((((0 : Int) * 256 + 0) * 256 + 0) * 256 + 0) * 256 + 0) * 256 + c / 16777216 % 256) * 256 + c / 65536 % 256) * 256 + c / 256 % 256) * 256 + c % 256) = c
    omega
  have l11 := hd_len a b c
  unfold rhv
  rw [if_neg (by rw [List.length_append]; omega), if_pos e0, e1, e2, e3, if_pos ⟨h1, h2, h3⟩]
theorem str_inj : ∀ a b : List Int, (∀ y ∈ a, 0 ≤ y ∧ y ≤ 255) → (∀ y ∈ b, 0 ≤ y ∧ y ≤ 255) → a.map (fun n => UInt8.ofNat n.toNat) = b.map (fun n => UInt8.ofNat n.toNat) → a = b
  | [], [], _, _, _ => rfl
  | x :: s, y :: t, ha, hb, h => by
    rw [List.map_cons, List.map_cons, List.cons.injEq] at h
    have h1 := congrArg UInt8.toNat h.1
    rw [UInt8.toNat_ofNat', UInt8.toNat_ofNat'] at h1
    have := ha x (List.mem_cons_self ..)
    have := hb y (List.mem_cons_self ..)
    rw [str_inj s t (fun y hy => ha y (List.mem_cons_of_mem _ hy)) (fun y hy => hb y (List.mem_cons_of_mem _ hy)) h.2, show x = y by omega]
  | [], _ :: _, _, _, h => by cases h
  | _ :: _, [], _, _, h => by cases h
theorem str_iff (q x : List Int) (hq : ∀ y ∈ q, 0 ≤ y ∧ y ≤ 255) (hx : ∀ y ∈ x, 0 ≤ y ∧ y ≤ 255) : (strOfNums q).toList = (strOfNums x).toList ↔ q = x := by
  refine ⟨fun h => ?_, fun h => by rw [h]⟩
  have e : ∀ z : List Int, (strOfNums z).toList = z.map fun n => UInt8.ofNat n.toNat := fun z => by rw [ByteArray.toList_eq]; rfl
  rw [e, e] at h
  exact str_inj q x hq hx h
def tx (key n s : List Int) : List Int := ctv key n (s.take (s.length - 16))
theorem open_at (key n e s : List Int) (hk : key.length = 16) (hkb : ∀ y ∈ key, 0 ≤ y ∧ y ≤ 255) (hn : n.length = 12) (hnb : ∀ y ∈ n, 0 ≤ y ∧ y ≤ 255) (he : e.length ≤ 100) (heb : ∀ y ∈ e, 0 ≤ y ∧ y ≤ 255) (hs : s.length ≤ 616) (hsb : ∀ y ∈ s, 0 ≤ y ∧ y ≤ 255) :
    ∃ q : Bool, (q = true ↔ 16 ≤ s.length ∧ s = slv key n e (tx key n s)) ∧ ∀ k, 2200 ≤ k → spec_l3Open.f k key n e s = some (if q = true then tx key n s else [], q) ∧ impl_OpenText.f k key n e s = some (if q = true then (0, tx key n s) else (9, [])) := by
  by_cases h16 : s.length < 16
  · refine ⟨false, ⟨(by cases ·), fun h => absurd h.1 (by omega)⟩, fun k hk1 => ⟨?_, ?_⟩⟩
    · unfold spec_l3Open.f
      rw [w64 (by omega) (by omega), if_pos (by omega)]
      rfl
    · unfold impl_OpenText.f
      rw [if_pos hk, if_pos hn, if_pos he, if_pos hs, if_pos h16]
      rfl
  have hw : wrap64 ((s.length : Int) - 16) = (s.length : Int) - 16 := w64 (by omega) (by omega)
  have hT : ((s.length : Int) - 16).toNat = s.length - 16 := by omega
  have hsl : (sched key).length = 176 := keyr_len key hk 40
  have hcb : ∀ y ∈ s.take (s.length - 16), 0 ≤ y ∧ y ≤ 255 := fun y hy => hsb y (List.mem_of_mem_take hy)
  have hdb : ∀ y ∈ s.drop (s.length - 16), 0 ≤ y ∧ y ≤ 255 := fun y hy => hsb y (List.mem_of_mem_drop hy)
  have hcl : (s.take (s.length - 16)).length ≤ 600 := by rw [List.length_take]; omega
  obtain ⟨t1, t2, t3⟩ := tag_at (sched key) n e (s.take (s.length - 16)) hsl hn (by omega) (by omega) heb hcb
  have hu : (upv (startv n)).length = 16 := by rw [upv_len, startv_len _ hn]
  have hub : ∀ y ∈ upv (startv n), 0 ≤ y ∧ y ≤ 255 := upg_byte _ _ _ (startv_byte n hn hnb)
  have hes : slv key n e (tx key n s) = s.take (s.length - 16) ++ tgv (sched key) n e (s.take (s.length - 16)) := by rw [slv, tx, ct_ct _ _ _ hcb]
  have hi := str_iff _ _ t2 hdb
  obtain ⟨q, hq⟩ : ∃ q : Bool, q = ((strOfNums (tgv (sched key) n e (s.take (s.length - 16)))).toList == (strOfNums (s.drop (s.length - 16))).toList) := ⟨_, rfl⟩
  refine ⟨q, ?_, fun k hk1 => ⟨?_, ?_⟩⟩
  · rw [hq, beq_iff_eq, hi, hes]
    refine ⟨fun h => ⟨by omega, by rw [h, List.take_append_drop]⟩, fun h => ?_⟩
    have h2 := h.2
    rw [← List.take_append_drop (s.length - 16) s, List.take_append_drop] at h2
    have h3 := (List.take_append_drop (s.length - 16) s).trans h2
    exact (List.append_cancel_left h3).symm
  · unfold spec_l3Open.f
    rw [hw, if_neg (by omega), spec_l2Keys.f, if_pos ⟨hk, hkb⟩, Option.bind_some, if_pos (by omega), if_pos (by omega), hT, (t3 k (by omega)).1, Option.bind_some]
    cases q with
    | true =>
      rw [if_pos (beq_iff_eq.1 hq.symm), first_at n hn, Option.bind_some, count_at _ (startv_byte n hn hnb) (startv_len _ hn) k (by omega), Option.bind_some, l3Stream_at _ _ _ hsl hu hub (by omega) k (by omega)]
      rfl
    | false =>
      rw [if_neg (fun h => by rw [beq_iff_eq.2 h] at hq; cases hq)]
      rfl
  · unfold impl_OpenText.f bytes_Equal.f
    rw [if_pos hk, if_pos hn, if_pos he, if_pos hs, if_neg h16, if_pos hkb, (t3 k (by omega)).2, Option.bind_some, Option.bind_some, ← hq]
    cases q <;> rfl
theorem ixk_at (a : Int) : ∀ (l : List S59) (j i : Nat), ixk l a j = ((j + i : Nat) : Int) → ∃ h : i < l.length, l[i].f0 = a
  | [], j, i, h => by
    rw [ixk] at h
    omega
  | x :: t, j, i, h => by
    rw [ixk] at h
    by_cases hx : x.f0 = a
    · rw [if_pos hx] at h
      obtain rfl : i = 0 := by omega
      exact ⟨by simp, hx⟩
    · rw [if_neg hx] at h
      have r := ixk_range t a (j + 1)
      rw [show ((j + 1 : Nat) : Int) = (j : Int) + 1 from rfl] at r
      obtain ⟨i, rfl⟩ : ∃ z, i = z + 1 := ⟨i - 1, by omega⟩
      obtain ⟨h1, h2⟩ := ixk_at a t (j + 1) i (by rw [show ((j + 1 : Nat) : Int) = (j : Int) + 1 from rfl, h]; omega)
      exact ⟨by rw [List.length_cons]; omega, h2⟩
theorem rfv_in {p : Int} {l : List S59} (h0 : rfv p l = 0) : kfs l = 0 ∧ l.length ≤ 3 := by
  unfold rfv at h0
  split at h0
  · cases h0
  · split at h0
    · exact ⟨by assumption, by omega⟩
    · exact ⟨h0, by omega⟩
theorem iFind_at (p : Int) (l : List S59) (a : Int) (h0 : rfv p l = 0) (i : Nat) (hi : i < l.length) (e : ixk l a 0 = i) (k : Nat) (hk : 100 ≤ k) : impl_FindKey.f k p l a = some (0, l[i].f0, l[i].f1) := by
  have h3 := rfv_in h0
  have hky := kfs_len l h3.1 _ (List.getElem_mem hi)
  unfold impl_FindKey.f
  rw [iRingFault_at p l (by omega) k hk, Option.bind_some, if_pos h0, place_at p _ l (by omega), Option.bind_some, e, if_neg (by omega), if_pos (by omega), if_pos (by omega), rK_at l i hi, impl_ownKey.f, bytes_Clone.f, if_pos (by omega)]
  rfl
def sea (key : List Int) (a b n : Int) (t : List Int) : List Int := hdv a b n ++ slv key (ncv b n) (hdv a b n) t
theorem letter_mid (p : Int) (l : List S59) (x : List Int) (a b n : Int) (hlb : ∀ q ∈ l, ∀ y ∈ q.f1, 0 ≤ y ∧ y ≤ 255) (hx : ∀ y ∈ x, 0 ≤ y ∧ y ≤ 255) (h0 : rfv p l = 0) (h1 : ¬ (x.length : Int) > 327) (hr : rhv x = (0, a, b, n, [])) (h11 : 11 ≤ x.length) (hd : x.take 11 = hdv a b n) (hf : okf a b n) (i : Nat) (hi : i < l.length) (e : ixk l a 0 = i) :
    ∃ q : Bool, (q = true ↔ 16 ≤ (x.drop 11).length ∧ x.drop 11 = slv l[i].f1 (ncv b n) (hdv a b n) (tx l[i].f1 (ncv b n) (x.drop 11))) ∧ ∀ k, 3000 ≤ k → spec_OpenLetter.f k p l x = some (if q = true then (0, a, b, n, tx l[i].f1 (ncv b n) (x.drop 11)) else (9, 0, 0, 0, [])) ∧ impl_OpenLetter.f k p l x = some (if q = true then (0, a, b, n, tx l[i].f1 (ncv b n) (x.drop 11)) else (9, 0, 0, 0, [])) := by
  have h3 := rfv_in h0
  have hl : l.length ≤ 1048576 := by omega
  have hky := kfs_len l h3.1 _ (List.getElem_mem hi)
  obtain ⟨q, hq, ht⟩ := open_at l[i].f1 (ncv b n) (hdv a b n) (x.drop 11) hky (hlb _ (List.getElem_mem hi)) (ncv_len _ _) (ncv_byte _ _) (by rw [hd_len]; decide) (hd_byte _ _ _) (by rw [List.length_drop]; omega) (fun y hy => hx y (List.mem_of_mem_drop hy))
  refine ⟨q, hq, fun k hk => ⟨?_, ?_⟩⟩
  · unfold spec_OpenLetter.f
    rw [sRingFault_at p l hl k (by omega), Option.bind_some, if_pos h0, if_neg h1, sReadHead_at x hx (by omega) k (by omega), hr, Option.bind_some]
    simp only [↓reduceIte]
    rw [l4Find_at p _ l hl k (by omega), Option.bind_some, e, if_neg (by omega), if_pos (by omega), if_pos (by omega), l5Nonce_at _ _ k (by omega), Option.bind_some, hd_at _ _ _ _ k (by omega), Option.bind_some, if_pos (by omega), rK_at l i hi, (ht k (by omega)).1, Option.bind_some]
    cases q <;> rfl
  · unfold impl_OpenLetter.f
    rw [iRingFault_at p l hl k (by omega), Option.bind_some, if_pos h0, if_neg h1, iReadHead_at x hx (by omega) k (by omega), hr, Option.bind_some]
    simp only [↓reduceIte]
    rw [iFind_at p l a h0 i hi e k (by omega), Option.bind_some]
    simp only [↓reduceIte]
    rw [iNonceOf_at _ _ hf.2.1 hf.2.2 k (by omega), Option.bind_some, if_pos (by omega), hd, (ht k (by omega)).2, Option.bind_some]
    cases q <;> rfl
theorem sl_len (key n e t : List Int) (h : (tgv (sched key) n e (ctv key n t)).length = 16) : (slv key n e t).length = t.length + 16 := by rw [slv, List.length_append, ct_len, h]
theorem open_ok (p : Int) (l : List S59) (a b n : Int) (t : List Int) (hlb : ∀ q ∈ l, ∀ y ∈ q.f1, 0 ≤ y ∧ y ≤ 255) (h0 : rfv p l = 0) (hf : okf a b n) (ht : t.length ≤ 300) (htb : ∀ y ∈ t, 0 ≤ y ∧ y ≤ 255) (i : Nat) (hi : i < l.length) (e : ixk l a 0 = i) :
    (sea l[i].f1 a b n t).length = t.length + 27 ∧ (∀ y ∈ sea l[i].f1 a b n t, 0 ≤ y ∧ y ≤ 255) ∧ ∀ k, 3000 ≤ k → impl_OpenLetter.f k p l (sea l[i].f1 a b n t) = some (0, a, b, n, t) := by
  have hky := kfs_len l (rfv_in h0).1 _ (List.getElem_mem hi)
  have hl11 := hd_len a b n
  obtain ⟨t1, t2, _⟩ := tag_at (sched l[i].f1) (ncv b n) (hdv a b n) (ctv l[i].f1 (ncv b n) t) (keyr_len _ hky 40) (ncv_len _ _) (by omega) (by rw [ct_len]; omega) (hd_byte _ _ _) (ct_byte _ _ _)
  have hsl := sl_len l[i].f1 (ncv b n) (hdv a b n) t t1
  have hlen : (sea l[i].f1 a b n t).length = t.length + 27 := by rw [sea, List.length_append, hsl]; omega
  have hb : ∀ y ∈ sea l[i].f1 a b n t, 0 ≤ y ∧ y ≤ 255 := fun y hy => by
    rcases List.mem_append.1 hy with hy | hy
    · exact hd_byte _ _ _ y hy
    · rcases List.mem_append.1 hy with hy | hy
      · exact ct_byte _ _ _ y hy
      · exact t2 y hy
  refine ⟨hlen, hb, fun k hk => ?_⟩
  have e1 : (sea l[i].f1 a b n t).take 11 = hdv a b n := by rw [sea, List.take_left' hl11]
  have e2 : (sea l[i].f1 a b n t).drop 11 = slv l[i].f1 (ncv b n) (hdv a b n) t := by rw [sea, List.drop_left' hl11]
  have e3 : tx l[i].f1 (ncv b n) (slv l[i].f1 (ncv b n) (hdv a b n) t) = t := by rw [tx, hsl, show t.length + 16 - 16 = (ctv l[i].f1 (ncv b n) t).length by rw [ct_len]; omega, slv, List.take_left, ct_ct _ _ _ htb]
  obtain ⟨q, hq, hk2⟩ := letter_mid p l _ a b n hlb hb h0 (by rw [hlen]; omega) (rhv_hd a b n _ hf) (by rw [hlen]; omega) e1 hf i hi e
  rw [e2, e3] at hq hk2
  have : q = true := hq.2 ⟨by rw [hsl]; omega, rfl⟩
  rw [(hk2 k hk).2, if_pos this]
theorem rhv_in (x : List Int) (h2 : (rhv x).1 = 0) : rhv x = (0, rd x 1, rd x 2, rwn 8 x 3, []) ∧ 11 ≤ x.length ∧ rd x 0 = 1 ∧ okf (rd x 1) (rd x 2) (rwn 8 x 3) := by
  unfold rhv at h2 ⊢
  split at h2
  · cases h2
  · rename_i g1
    split at h2
    · rename_i g2
      split at h2
      · rename_i g3
        rw [if_neg g1, if_pos g2, if_pos g3]
        exact ⟨rfl, by omega, g2, g3⟩
      · cases h2
    · cases h2
theorem letter_at (p : Int) (l : List S59) (x : List Int) (hl : l.length ≤ 1048576) (hlb : ∀ q ∈ l, ∀ y ∈ q.f1, 0 ≤ y ∧ y ≤ 255) (hx : ∀ y ∈ x, 0 ≤ y ∧ y ≤ 255) (hxl : x.length ≤ 1048576) :
    ∃ (c a b n : Int) (t : List Int), (c = 0 → rfv p l = 0 ∧ okf a b n ∧ t.length ≤ 300 ∧ (∀ y ∈ t, 0 ≤ y ∧ y ≤ 255) ∧ ∃ i, ∃ h : i < l.length, ixk l a 0 = i ∧ x = sea l[i].f1 a b n t) ∧ ∀ k, 3000 ≤ k → spec_OpenLetter.f k p l x = some (c, a, b, n, t) ∧ impl_OpenLetter.f k p l x = some (c, a, b, n, t) := by
  by_cases h0 : rfv p l = 0
  rotate_left
  · refine ⟨rfv p l, 0, 0, 0, [], fun h => absurd h h0, fun k hk => ⟨?_, ?_⟩⟩
    · unfold spec_OpenLetter.f
      rw [sRingFault_at p l hl k (by omega), Option.bind_some, if_neg h0]
    · unfold impl_OpenLetter.f
      rw [iRingFault_at p l hl k (by omega), Option.bind_some, if_neg h0]
  by_cases h1 : (x.length : Int) > 327
  · refine ⟨2, 0, 0, 0, [], fun h => absurd h (by decide), fun k hk => ⟨?_, ?_⟩⟩
    · unfold spec_OpenLetter.f
      rw [sRingFault_at p l hl k (by omega), Option.bind_some, if_pos h0, if_pos h1]
    · unfold impl_OpenLetter.f
      rw [iRingFault_at p l hl k (by omega), Option.bind_some, if_pos h0, if_pos h1]
  by_cases h2 : (rhv x).1 = 0
  rotate_left
  · refine ⟨(rhv x).1, (rhv x).2.1, (rhv x).2.2.1, (rhv x).2.2.2.1, (rhv x).2.2.2.2, fun h => absurd h h2, fun k hk => ⟨?_, ?_⟩⟩
    · unfold spec_OpenLetter.f
      rw [sRingFault_at p l hl k (by omega), Option.bind_some, if_pos h0, if_neg h1, sReadHead_at x hx hxl k (by omega), Option.bind_some, if_neg h2]
    · unfold impl_OpenLetter.f
      rw [iRingFault_at p l hl k (by omega), Option.bind_some, if_pos h0, if_neg h1, iReadHead_at x hx hxl k (by omega), Option.bind_some, if_neg h2]
  have hd := rhv_in x h2
  obtain ⟨hr, hx11, hx0, hf⟩ := hd
  have hh : x.take 11 = hdv (rd x 1) (rd x 2) (rwn 8 x 3) := Option.some.inj ((headOf_at x hx hx11 hx0 hf.2.2.2 10 (by omega)).symm.trans (hd_at _ _ _ _ 10 (by omega)))
  have h3 := (rfv_in h0).2
  rcases ixk_range l (rd x 1) 0 with g | ⟨g1, g2⟩
  · rw [show ((0 : Nat) : Int) = 0 from rfl] at g
    refine ⟨4, 0, 0, 0, [], fun h => absurd h (by decide), fun k hk => ⟨?_, ?_⟩⟩
    · unfold spec_OpenLetter.f
      rw [sRingFault_at p l hl k (by omega), Option.bind_some, if_pos h0, if_neg h1, sReadHead_at x hx hxl k (by omega), hr, Option.bind_some]
      simp only [↓reduceIte]
      rw [l4Find_at p _ l hl k (by omega), Option.bind_some, g, if_pos (by omega)]
    · unfold impl_OpenLetter.f impl_FindKey.f
      rw [iRingFault_at p l hl k (by omega), Option.bind_some, if_pos h0, if_neg h1, iReadHead_at x hx hxl k (by omega), hr, Option.bind_some]
      simp only [↓reduceIte]
      rw [Option.bind_some, if_pos h0, place_at p _ l hl, Option.bind_some, g, if_pos (by omega), Option.bind_some, if_neg (by decide)]
  rw [show ((0 : Nat) : Int) = 0 from rfl] at g1 g2
  obtain ⟨i, hi⟩ := Int.eq_ofNat_of_zero_le g1
  rw [hi] at g2
  have hil : i < l.length := by omega
  obtain ⟨q, hq, ht⟩ := letter_mid p l x _ _ _ hlb hx h0 h1 hr hx11 hh hf i hil hi
  cases q with
  | false => exact ⟨9, 0, 0, 0, [], fun h => absurd h (by decide), fun k hk => ht k hk⟩
  | true =>
    obtain ⟨h16, hs⟩ := hq.1 rfl
    refine ⟨0, _, _, _, tx l[i].f1 (ncv (rd x 2) (rwn 8 x 3)) (x.drop 11), fun _ => ⟨h0, hf, ?_, ct_byte _ _ _, i, hil, hi, ?_⟩, fun k hk => ht k hk⟩
    · rw [tx, ct_len, List.length_take, List.length_drop] 
      omega
    · rw [sea, ← hs, ← hh, List.take_append_drop]
def lfv (a b c : Int) (l : List Int) : Int := if (1 ≤ a ∧ a ≤ 255) ∧ (0 ≤ b ∧ b ≤ 15) ∧ (0 ≤ c ∧ c ≤ 1000000000) then (if (l.length : Int) > 300 then 2 else 0) else 3
theorem iLF_at (a b c : Int) (l : List Int) (k : Nat) (hk : 1 ≤ k) : impl_LetterFault.f k a b c l = some (lfv a b c l) := by
  obtain ⟨k, rfl⟩ : ∃ z, k = z + 1 := ⟨k - 1, by omega⟩
  unfold impl_LetterFault.f impl_isKeyId.f lfv
  rw [impl_in_at, Option.bind_some, Option.bind_some, impl_in_at, impl_in_at]
  simp only [impl_LetterFault.j0, Option.bind_some, decide_eq_true_eq]
  by_cases c1 : 1 ≤ a ∧ a ≤ 255
  · by_cases c2 : 0 ≤ b ∧ b ≤ 15
    · by_cases c3 : 0 ≤ c ∧ c ≤ 1000000000
      · simp only [c1, c2, c3, and_self, ↓reduceIte, decide_true, Bool.not_true, Bool.false_eq_true]
        split <;> rfl
      · simp only [c1, c2, c3, and_self, and_false, ↓reduceIte, decide_false, Bool.not_false]
    · simp only [c1, c2, and_self, and_false, false_and, ↓reduceIte]
  · simp only [c1, and_false, false_and, ↓reduceIte]
theorem sLF_at (a b c : Int) (l : List Int) : spec_LetterFault.f a b c l = some (lfv a b c l) := by
  unfold spec_LetterFault.f spec_l5Head.f lfv
  rw [spec_in_at, Option.bind_some, spec_in_at, spec_in_at]
  simp only [Option.bind_some, decide_eq_true_eq]
  by_cases c1 : 1 ≤ a ∧ a ≤ 255
  · by_cases c2 : 0 ≤ b ∧ b ≤ 15
    · by_cases c3 : 0 ≤ c ∧ c ≤ 1000000000
      · simp only [c1, c2, c3, and_self, ↓reduceIte, Option.bind_some, decide_true]
        split <;> rfl
      · simp only [c1, c2, c3, and_self, and_false, ↓reduceIte, Option.bind_some, decide_false, Bool.false_eq_true]
    · simp only [c1, c2, and_self, and_false, false_and, ↓reduceIte, Option.bind_some, Bool.false_eq_true]
  · simp only [c1, and_false, false_and, ↓reduceIte, Option.bind_some, Bool.false_eq_true]
theorem lf_ok {a b c : Int} {l : List Int} : lfv a b c l = 0 ↔ okf a b c ∧ l.length ≤ 300 := by
  unfold lfv okf
  split
  · rename_i h
    split
    · exact ⟨fun h => absurd h (by decide), fun h => absurd h.2 (by omega)⟩
    · exact ⟨fun _ => ⟨h, by omega⟩, fun _ => rfl⟩
  · rename_i h
    exact ⟨fun h => absurd h (by decide), fun h2 => absurd h2.1 h⟩
theorem iHeadOf_at (a b c : Int) (h : okf a b c) (k : Nat) (hk : 10 ≤ k) : impl_HeadOf.f k a b c = some (0, hdv a b c) := by
  unfold impl_HeadOf.f
  rw [iLF_at _ _ _ _ k (by omega), Option.bind_some, if_pos (lf_ok.2 ⟨h, by simp⟩), Option.bind_some, word_at' 8 (by omega) c 8 rfl k (by omega), Option.bind_some, if_pos (by rw [pk_len]; simp), hdv]
theorem seal_ok (p : Int) (l : List S59) (a b c : Int) (t : List Int) (hlb : ∀ q ∈ l, ∀ y ∈ q.f1, 0 ≤ y ∧ y ≤ 255) (h0 : rfv p l = 0) (hf : okf a b c) (ht : t.length ≤ 300) (htb : ∀ y ∈ t, 0 ≤ y ∧ y ≤ 255) (i : Nat) (hi : i < l.length) (e : ixk l a 0 = i) (k : Nat) (hk : 3000 ≤ k) :
    impl_SealLetter.f k p l a b c t = some (0, sea l[i].f1 a b c t) ∧ spec_SealLetter.f k p l a b c t = some (0, sea l[i].f1 a b c t) := by
  obtain ⟨k, rfl⟩ : ∃ z, k = z + 1 := ⟨k - 1, by omega⟩
  have h3 := rfv_in h0
  have hl : l.length ≤ 1048576 := by omega
  have hky := kfs_len l h3.1 _ (List.getElem_mem hi)
  have hkb := hlb _ (List.getElem_mem hi)
  have hlf : lfv a b c t = 0 := lf_ok.2 ⟨hf, ht⟩
  obtain ⟨t1, _, _⟩ := tag_at (sched l[i].f1) (ncv b c) (hdv a b c) (ctv l[i].f1 (ncv b c) t) (keyr_len _ hky 40) (ncv_len _ _) (by rw [hd_len]; decide) (by rw [ct_len]; omega) (hd_byte _ _ _) (ct_byte _ _ _)
  have hsl := sl_len l[i].f1 (ncv b c) (hdv a b c) t t1
  have h11 := hd_len a b c
  have hs : ∀ j, 2200 ≤ j → _ := fun j hj => l3Seal_at l[i].f1 (ncv b c) (hdv a b c) t hky hkb (ncv_len _ _) (ncv_byte _ _) (by rw [hd_len]; decide) (hd_byte _ _ _) (by omega) j hj
  constructor
  · unfold impl_SealLetter.f
    rw [iRingFault_at p l hl _ (by omega), Option.bind_some, if_pos h0, iLF_at _ _ _ _ _ (by omega), Option.bind_some, hlf, impl_SealLetter.j0, if_pos rfl, iFind_at p l a h0 i hi e k (by omega), Option.bind_some, if_pos rfl, iHeadOf_at a b c hf k (by omega), Option.bind_some, iNonceOf_at _ _ hf.2.1 hf.2.2 k (by omega), Option.bind_some, (hs k (by omega)).2, Option.bind_some, Concat_at _ (by simp) (by
      intro r hr
      simp only [List.mem_cons, List.not_mem_nil, or_false] at hr
      rcases hr with h | h
      · rw [h, h11]
        decide
      · rw [h, hsl]
        omega) k (by omega), Option.bind_some, sea]
    simp
  · unfold spec_SealLetter.f
    rw [sRingFault_at p l hl _ (by omega), Option.bind_some, if_pos h0, sLF_at, Option.bind_some, if_pos hlf, l4Find_at p _ l hl _ (by omega), Option.bind_some, e, if_neg (by omega), if_pos (by omega), if_pos (by omega), rK_at l i hi]
    unfold spec_l5Seal.f
    rw [hd_at _ _ _ _ _ (by omega), Option.bind_some, l1Copy_at _ (by omega), Option.bind_some, l5Nonce_at _ _ _ (by omega), Option.bind_some, (hs _ (by omega)).1, Option.bind_some, if_pos (by omega), Option.bind_some, sea]
theorem seal_both (p : Int) (l : List S59) (a b c : Int) (t : List Int) (hl : RK l 6) (ht : BT t 301) :
    ∃ (r : Int) (y : List Int), BT y 400 ∧ (r = 0 → rfv p l = 0 ∧ okf a b c ∧ t.length ≤ 300 ∧ ∃ i, ∃ h : i < l.length, ixk l a 0 = i ∧ y = sea l[i].f1 a b c t) ∧ ∀ k, 3000 ≤ k → impl_SealLetter.f k p l a b c t = some (r, y) ∧ spec_SealLetter.f k p l a b c t = some (r, y) := by
  have hl6 := hl.1
  have hlb : ∀ q ∈ l, ∀ y ∈ q.f1, 0 ≤ y ∧ y ≤ 255 := fun q hq => (hl.2 q hq).2
  have nb : BT [] 400 := ⟨by simp, by simp⟩
  have lst : ∀ r : Int, r ≠ 0 → (∀ k, 3000 ≤ k → impl_SealLetter.f k p l a b c t = some (r, []) ∧ spec_SealLetter.f k p l a b c t = some (r, [])) → ∃ (r : Int) (y : List Int), BT y 400 ∧ (r = 0 → rfv p l = 0 ∧ okf a b c ∧ t.length ≤ 300 ∧ ∃ i, ∃ h : i < l.length, ixk l a 0 = i ∧ y = sea l[i].f1 a b c t) ∧ ∀ k, 3000 ≤ k → impl_SealLetter.f k p l a b c t = some (r, y) ∧ spec_SealLetter.f k p l a b c t = some (r, y) := fun r hr h => ⟨r, [], nb, fun h => absurd h hr, h⟩
  by_cases h0 : rfv p l = 0
  rotate_left
  · refine lst _ h0 fun k hk => ?_
    obtain ⟨k, rfl⟩ : ∃ z, k = z + 1 := ⟨k - 1, by omega⟩
    unfold impl_SealLetter.f spec_SealLetter.f
    rw [iRingFault_at p l (by omega) _ (by omega), Option.bind_some, if_neg h0, impl_SealLetter.j0, if_neg h0, sRingFault_at p l (by omega) _ (by omega), Option.bind_some, if_neg h0]
    exact ⟨rfl, rfl⟩
  by_cases h1 : lfv a b c t = 0
  rotate_left
  · refine lst _ h1 fun k hk => ?_
    obtain ⟨k, rfl⟩ : ∃ z, k = z + 1 := ⟨k - 1, by omega⟩
    unfold impl_SealLetter.f spec_SealLetter.f
    rw [iRingFault_at p l (by omega) _ (by omega), Option.bind_some, if_pos h0, iLF_at _ _ _ _ _ (by omega), Option.bind_some, impl_SealLetter.j0, if_neg h1, sRingFault_at p l (by omega) _ (by omega), Option.bind_some, if_pos h0, sLF_at, Option.bind_some, if_neg h1]
    exact ⟨rfl, rfl⟩
  obtain ⟨hf, ht3⟩ := lf_ok.1 h1
  rcases ixk_range l a 0 with g | ⟨g1, g2⟩
  · rw [show ((0 : Nat) : Int) = 0 from rfl] at g
    refine lst 4 (by decide) fun k hk => ?_
    obtain ⟨k, rfl⟩ : ∃ z, k = z + 1 := ⟨k - 1, by omega⟩
    unfold impl_SealLetter.f spec_SealLetter.f
    rw [iRingFault_at p l (by omega) _ (by omega), Option.bind_some, if_pos h0, iLF_at _ _ _ _ _ (by omega), Option.bind_some, impl_SealLetter.j0, if_pos h1, sRingFault_at p l (by omega) _ (by omega), Option.bind_some, if_pos h0, sLF_at, Option.bind_some, if_pos h1, l4Find_at p _ l (by omega) _ (by omega), Option.bind_some, g, if_pos (by omega)]
    unfold impl_FindKey.f
    rw [iRingFault_at p l (by omega) _ (by omega), Option.bind_some, if_pos h0, place_at p _ l (by omega), Option.bind_some, g, if_pos (by omega), Option.bind_some, if_neg (by decide)]
    exact ⟨rfl, rfl⟩
  rw [show ((0 : Nat) : Int) = 0 from rfl] at g1 g2
  obtain ⟨i, hi⟩ := Int.eq_ofNat_of_zero_le g1
  rw [hi] at g2
  have hil : i < l.length := by omega
  obtain ⟨o1, o2, _⟩ := open_ok p l a b c t hlb h0 hf ht3 ht.2 i hil hi
  exact ⟨0, sea l[i].f1 a b c t, ⟨by omega, o2⟩, fun _ => ⟨h0, hf, ht3, i, hil, hi, rfl⟩, fun k hk => seal_ok p l a b c t hlb h0 hf ht3 ht.2 i hil hi k hk⟩
theorem l4Copy_l0 (z p : Int) (l : List S59) (hl : l.length ≤ 10) (hs : ∀ q ∈ l, q.f1.length ≤ 20) : ∀ (d k i : Nat) (x : List S59), i + d = l.length → d < k → x = l.take i → spec_l4Copy.l0 k i p l z x = some (z, l)
  | 0, k, i, x, hi, hk, hx => by
    obtain ⟨k, rfl⟩ : ∃ m, k = m + 1 := ⟨k - 1, by omega⟩
    rw [spec_l4Copy.l0, if_neg (by omega), hx, List.take_of_length_le (by omega)]
  | d + 1, k, i, x, hi, hk, hx => by
    obtain ⟨k, rfl⟩ : ∃ m, k = m + 1 := ⟨k - 1, by omega⟩
    have hil : i < l.length := by omega
    have := hs _ (List.getElem_mem hil)
    rw [spec_l4Copy.l0, if_pos (by omega), if_pos (by omega), rK_at l i hil, l1Copy_at _ (by omega), Option.bind_some, if_pos (by rw [hx, List.length_take]; omega), show wrap64 ((i : Int) + 1) = ((i + 1 : Nat) : Int) by rw [w64 (by omega) (by omega)]; omega]
    exact l4Copy_l0 z p l hl hs d k (i + 1) _ (by omega) (by omega) (by rw [hx, take_succ l i hil])
theorem sFind_at (p : Int) (l : List S59) (a : Int) (h0 : rfv p l = 0) (hs : ∀ q ∈ l, q.f1.length ≤ 20) (i : Nat) (hi : i < l.length) (e : ixk l a 0 = i) (k : Nat) (hk : 100 ≤ k) : spec_FindKey.f k p l a = some (0, l[i].f0, l[i].f1) := by
  have h3 := rfv_in h0
  unfold spec_FindKey.f spec_l4Copy.f
  rw [sRingFault_at p l (by omega) k hk, Option.bind_some, if_pos h0, l4Find_at p _ l (by omega) k (by omega), Option.bind_some, e, if_neg (by omega), show (0 : Int) = ((0 : Nat) : Int) from rfl, l4Copy_l0 p p l (by omega) hs l.length k 0 [] (by omega) (by omega) (by simp), Option.bind_some, if_pos (by omega), if_pos (by show (i : Int) < l.length; omega)]
  show some (_, (rd_T59 l i).f0, (rd_T59 l i).f1) = _
  rw [rK_at l i hi]
theorem only_ok (p : Int) (l : List S59) (a : Int) (h0 : rfv p l = 0) (i : Nat) (hi : i < l.length) (e : ixk l a 0 = i) : rfv a [⟨l[i].f0, l[i].f1⟩] = 0 ∧ ixk [(⟨l[i].f0, l[i].f1⟩ : S59)] a 0 = ((0 : Nat) : Int) := by
  obtain ⟨_, e2⟩ := ixk_at a l 0 i (by rw [show ((0 : Nat) : Int) = 0 from rfl, e]; omega)
  have hx : ixk [(⟨l[i].f0, l[i].f1⟩ : S59)] a 0 = ((0 : Nat) : Int) := by
    rw [ixk]
    exact if_pos e2
  have hk : ∀ s : List S59, kfs s = 0 → ∀ q ∈ s, kfv q = 0 := fun s => by
    induction s with
    | nil => intro _ q hq; cases hq
    | cons y s ih =>
      intro h q hq
      rw [kfs] at h
      by_cases h1 : kfv y = 0
      · rw [if_pos h1] at h
        rcases List.mem_cons.1 hq with rfl | hq
        · exact h1
        · exact ih h q hq
      · rw [if_neg h1] at h
        exact absurd h h1
  refine ⟨?_, hx⟩
  have h1 := hk l (rfv_in h0).1 _ (List.getElem_mem hi)
  unfold rfv
  rw [if_neg (by simp), kfs, if_pos h1, kfs, if_pos rfl, lastv, if_pos (show srt [(⟨l[i].f0, l[i].f1⟩ : S59)] = true from rfl), hx, if_neg (by decide)]
theorem BT.set {x : List Int} {n : Nat} (h : BT x n) (i : Nat) (a b : Int) : BT (x.set i (xr a b)) n := ⟨by rw [List.length_set]; exact h.1, fun y hy => (List.mem_or_eq_of_mem_set hy).elim (h.2 y) fun e => e ▸ xr_byte _ _⟩
theorem drawOpen_at {code : List Int} (h : Bytes code) (k : Nat) (hk : 3000 ≤ k) : ∃ p l x, spec_DrawOpenLetter.f k code = some (p, l, x) ∧ RK l 6 ∧ BT x 1000 := by
  obtain ⟨p, l, a, b, c, t, e1, hl, ht⟩ := drawSeal_at h k (by omega)
  obtain ⟨r, y, hy, _, hs⟩ := seal_both p l a b c t hl ht
  have y4 := hy.1
  have yb : BT y 1000 := ⟨by omega, hy.2⟩
  obtain ⟨v, e3, _⟩ := next_at h 19 7 (by omega) (by omega)
  obtain ⟨i, e4, i0, i1, _⟩ := next_at h (19 + 1) (y.length : Int) (by omega) (by omega)
  obtain ⟨j, e5, _⟩ := next_at h (19 + 1 + 1) 255 (by omega) (by omega)
  obtain ⟨n, e6, hn⟩ := pick_at h (19 + 1) (by omega) [0, 11, 40, 327, 328] (by decide) (by decide)
  have hn' : 0 ≤ n ∧ n ≤ 328 := by
    simp only [List.mem_cons, List.not_mem_nil, or_false] at hn
    omega
  obtain ⟨u, e7, u1, u2⟩ := some_at h k (19 + 1 + 1) n (by omega) (by omega) (by omega)
  obtain ⟨q, m, p2, e8, _, m1, _⟩ := l4Draw_at h k (19 + 1) (by omega) (by omega)
  unfold spec_DrawOpenLetter.f spec_l1Later.f
  rw [w64 (x := 7 * 2) (by omega) (by omega), show wrap64 (5 + 7 * 2) = 19 from w64 (by omega) (by omega)]
  simp only [e1, (hs k hk).2, e3, e4, e5, e6, e7, e8, Option.bind_some]
  split
  · split
    · first | rw [if_pos i0, if_pos (i1 (by omega))] | rw [if_pos (i1 (by omega))]
      exact ⟨_, _, _, rfl, hl, yb.set _ _ _⟩
    · exact ⟨_, _, _, rfl, hl, yb⟩
  · split
    · exact ⟨_, _, _, rfl, hl, ⟨by omega, u2⟩⟩
    · split
      · exact ⟨_, _, _, rfl, ⟨Nat.le_trans m1.1 (by decide), m1.2⟩, yb⟩
      · exact ⟨_, _, _, rfl, hl, yb⟩
theorem drawHead_at {code : List Int} (h : Bytes code) (k : Nat) (hk : 3000 ≤ k) : ∃ x, spec_DrawReadHead.f k code = some x ∧ BT x 100 := by
  obtain ⟨a, b, c, t, p1, e1, _, h2, h3⟩ := l5Draw_at h k 0 (by omega) (by omega)
  obtain ⟨n, e2, n0, n1, _⟩ := next_at h p1 4 (by omega) (by omega)
  have n2 := n1 (by omega)
  obtain ⟨u, e3, u1, u2⟩ := some_at h k (p1 + 1) n (by omega) (by omega) (by omega)
  obtain ⟨v, e4, _⟩ := next_at h (p1 + 1 + n) 8 (by omega) (by omega)
  obtain ⟨i, e5, i0, i1, _⟩ := next_at h (p1 + 1 + n + 1) 11 (by omega) (by omega)
  have i2 := i1 (by omega)
  obtain ⟨j, e6, _⟩ := next_at h (p1 + 1 + n + 1 + 1) 255 (by omega) (by omega)
  have hl := hd_len a b c
  have hxl : (hdv a b c ++ u).length = 11 + u.length := by rw [List.length_append, hl]
  have hx : BT (hdv a b c ++ u) 100 := ⟨by omega, fun y hy => (List.mem_append.1 hy).elim (hd_byte _ _ _ y) (u2 y)⟩
  unfold spec_DrawReadHead.f spec_l1Source.f
  rw [Option.bind_some, e1, Option.bind_some, hd_at _ _ _ _ k (by omega), Option.bind_some, e2, Option.bind_some, e3, Option.bind_some, if_pos (show (hdv a b c).length + u.length < 140737488355328 by omega), Option.bind_some, e4, Option.bind_some, e5, Option.bind_some, Option.bind_some, if_pos i0, if_pos i0, if_pos (show i < ((hdv a b c ++ u).length : Int) by omega), if_pos (show i ≤ ((hdv a b c ++ u).length : Int) by omega), e6, Option.bind_some]
  split
  · exact ⟨_, rfl, hx.set _ _ _⟩
  · split
    · exact ⟨_, rfl, ⟨by rw [List.length_take]; omega, fun y hy => hx.2 y (List.mem_of_mem_take hy)⟩⟩
    · exact ⟨_, rfl, hx⟩
theorem drawSame_at {code : List Int} (h : Bytes code) (k : Nat) (hk : 3000 ≤ k) : ∃ a b c t a' b' c' t', spec_DrawSameLetters.f k code = some (a, b, c, t, a', b', c', t') := by
  obtain ⟨a, b, c, t, p1, e1, h1, h2, h3⟩ := l5Draw_at h k 0 (by omega) (by omega)
  obtain ⟨v, e2⟩ := chance_at h p1 2 (by omega) (by omega)
  obtain ⟨a', b', c', t', p2, e3, _⟩ := l5Bent_at h k 0 (by omega) (by omega)
  have := h1.1
  unfold spec_DrawSameLetters.f spec_l1Source.f
  rw [Option.bind_some, e1, Option.bind_some, e2, Option.bind_some, l1Copy_at t (by omega), Option.bind_some, Option.bind_some, e3, Option.bind_some]
  split
  · exact ⟨_, _, _, _, _, _, _, _, rfl⟩
  · exact ⟨_, _, _, _, _, _, _, _, rfl⟩
theorem same_both (a b c : Int) (t : List Int) (a' b' c' : Int) (t' : List Int) : ∃ v, impl_SameLetters.f a b c t a' b' c' t' = some v ∧ spec_SameLetters.f a b c t a' b' c' t' = some v := by
  unfold impl_SameLetters.f spec_SameLetters.f bytes_Equal.f
  repeat' split
  all_goals exact ⟨_, rfl, rfl⟩
theorem same_self (a b c : Int) (t : List Int) : impl_SameLetters.f a b c t a b c t = some true := by
  unfold impl_SameLetters.f bytes_Equal.f
  simp
theorem lwSame_self (x : List Int) : laws_lwSame.f x x = some true := by
  unfold laws_lwSame.f
  simp
theorem let_j2 (p : Int) (l : List S59) (a b c r : Int) (t y : List Int) (hl : RK l 6) (ht : BT t 301) (h : r = 0 → rfv p l = 0 ∧ okf a b c ∧ t.length ≤ 300 ∧ ∃ i, ∃ h : i < l.length, ixk l a 0 = i ∧ y = sea l[i].f1 a b c t) (k : Nat) (hk : 4000 ≤ k) : laws_FnLetters.j2 k false p l a b c t r y = some true := by
  obtain ⟨k, rfl⟩ : ∃ z, k = z + 1 := ⟨k - 1, by omega⟩
  rw [laws_FnLetters.j2, if_neg (by decide)]
  by_cases hr : r = 0
  rotate_left
  · rw [if_neg hr]
  obtain ⟨h0, hf, ht3, i, hi, e, rfl⟩ := h hr
  have hlb : ∀ q ∈ l, ∀ y ∈ q.f1, 0 ≤ y ∧ y ≤ 255 := fun q hq => (hl.2 q hq).2
  obtain ⟨o1, o2, o3⟩ := open_ok p l a b c t hlb h0 hf ht3 ht.2 i hi e
  obtain ⟨q0, q1⟩ := only_ok p l a h0 i hi e
  obtain ⟨_, _, o4⟩ := open_ok a [⟨l[i].f0, l[i].f1⟩] a b c t (fun q hq => by
    rw [List.mem_singleton.1 hq]
    exact hlb _ (List.getElem_mem hi)) q0 hf ht3 ht.2 0 (by simp) q1
  have o5 : impl_OpenLetter.f k a [(⟨l[i].f0, l[i].f1⟩ : S59)] (sea l[i].f1 a b c t) = some (0, a, b, c, t) := o4 k (by omega)
  rw [if_pos hr, o3 k (by omega), Option.bind_some, sFind_at p l a h0 (fun q hq => (hl.2 q hq).1) i hi e k (by omega), Option.bind_some, o5, Option.bind_some, if_pos rfl, same_self, Option.bind_some, if_pos rfl, if_pos rfl, Option.bind_some, if_pos rfl, o1, w64 (x := 11 + (t.length : Int)) (by omega) (by omega), w64 (by omega) (by omega)]
  rw [show ((t.length + 27 : Nat) : Int) = 11 + (t.length : Int) + 16 by omega]
  simp
end Go.Proofs.Ytiioiohdifkbgaa.Pure
