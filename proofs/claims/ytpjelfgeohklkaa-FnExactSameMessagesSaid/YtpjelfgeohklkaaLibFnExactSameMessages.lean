/- What the printed functions of the law FnExactSameMessages answer, as plain Lean. -/
import Derived.Test.YtpjelfgeohklkaaStFnExactSameMessages
import Derived.Test.YtpjelfgeohklkaaBaFnExactSameMessages
namespace Go.Proofs.Ytpjelfgeohklkaa.Pure
open Go.RowKit Go.Proofs.Ytpjelfgeohklkaa.Open Go.Proofs.Ytpjelfgeohklkaa.Base Go.Proofs.Ytpjelfgeohklkaa.MFnExactSameMessages Go.Proofs.YtpjelfgeohklkaaW.PrintWords Go.Proofs.YtpjelfgeohklkaaW.PrintLast Go.Proofs.YtpjelfgeohklkaaW.PrintMore
set_option linter.unusedVariables false
set_option linter.unusedSimpArgs false
theorem eqByteS_self (l : List Int) (hl : l.length ≤ 1000000000) (k : Nat) (hk : l.length < k) : laws_eqByteS.f k l l = some true := by
  unfold laws_eqByteS.f
  rw [if_pos rfl]
  refine loop_up (fun k (_ : Unit) i => laws_eqByteS.l0 k l l i) l.length 0 (fun _ _ => true) (fun _ _ => True) ?_ ?_ k () 0 0 rfl (Nat.zero_le _) trivial (by omega)
  · intro k _ _ _
    simp only [laws_eqByteS.l0]
    rw [if_neg (by omega)]
  · intro k _ i hi _ _ ih
    simp only [laws_eqByteS.l0]
    rw [if_pos (by omega), if_pos (by omega), if_pos (by omega), w64 (by omega) (by omega)]
    simp only [eq_self, ↓reduceIte]
    exact ih () trivial
theorem szByteS_at (l : List Int) (a : Int) (h0 : 0 ≤ a) (h1 : a ≤ 1048576) (hl : l.length ≤ maxLen) : laws_szByteS.f l a = some (if a < l.length then -1 else a - l.length) := by
  unfold maxLen at hl
  unfold laws_szByteS.f
  rw [w64 (by omega) (by omega)]
  by_cases h : a < l.length
  · rw [if_pos (by omega), if_pos h]
  · rw [if_neg (by omega), if_neg h]
theorem toByteS_at (l : List Int) (hl : l.length ≤ 1000000000) (k : Nat) (hk : l.length < k) : laws_toByteS.f k l = some l := by
  unfold laws_toByteS.f
  rw [if_pos (by omega), if_pos (by omega)]
  have h := to_loop (fun k s i => laws_toByteS.l0 k l s i) l id ?_ ?_ k (List.replicate ((l.length : Int) : Int).toNat 0) (by simp) hk
  · rw [List.map_id] at h
    exact h
  · intro k s hs
    simp only [laws_toByteS.l0]
    rw [if_neg (by omega)]
  · intro k s i hi hs
    simp only [laws_toByteS.l0]
    rw [if_pos (by omega), if_pos (by omega), if_pos (by omega), w64 (by omega) (by omega)]
    simp only [Int.toNat_natCast, rd, getD_at _ _ _ hi, id]
theorem szMessage_at (a0 a1 a2 a3 a4 a5 a6 a7 a8 : Int) (l : List Int) (a : Int) (h0 : 0 ≤ a) (h1 : a ≤ 1048576) (hl : l.length ≤ maxLen) : laws_szMessage.f a0 a1 a2 a3 a4 a5 a6 a7 a8 l a = some (if a < l.length then -1 else a - l.length) := by
  unfold laws_szMessage.f laws_szKey.f
  rw [szByteS_at l a h0 h1 hl]
  simp only [Option.bind_some]
  by_cases h : a < l.length
  · simp [h]
  · rw [if_neg h, if_neg (by omega)]
    simp only [Option.bind_some]
    rw [if_neg (by omega)]
theorem toMessage_at (a0 a1 a2 a3 a4 a5 a6 a7 a8 : Int) (l : List Int) (hl : l.length ≤ 1000000000) (k : Nat) (hk : l.length < k) : laws_toMessage.f k a0 a1 a2 a3 a4 a5 a6 a7 a8 l = some (a0, a1, a2, a3, a4, a5, a6, a7, a8, l) := by
  unfold laws_toMessage.f laws_toKey.f laws_toClaim.f
  rw [toByteS_at l hl k hk]
  rfl
theorem eqMessage_self (a0 a1 a2 a3 a4 a5 a6 a7 a8 : Int) (l : List Int) (hl : l.length ≤ 1000000000) (k : Nat) (hk : l.length < k) : laws_eqMessage.f k a0 a1 a2 a3 a4 a5 a6 a7 a8 l a0 a1 a2 a3 a4 a5 a6 a7 a8 l = some true := by
  unfold laws_eqMessage.f laws_eqKey.f laws_eqClaim.f
  rw [eqByteS_self l hl k hk]
  simp
theorem szMessageS_l0 (l : List S34) (hs : ∀ m ∈ l, m.f5.f1.length ≤ maxLen) (hl : l.length ≤ 1048576) (d : Nat) : ∀ (k : Nat) (a : Int) (i : Nat), l.length - i = d → i ≤ l.length → d < k → 0 ≤ a → a ≤ 1048576 → ∃ z, laws_szMessageS.l0 k l a (i : Int) = some z ∧ (z < 0 ∨ (0 ≤ z ∧ z ≤ a ∧ ∀ m ∈ l.drop i, m.f5.f1.length ≤ 1048576)) := by
  induction d with
  | zero =>
    intro k a i hd hi hk h0 h1
    obtain ⟨k, rfl⟩ : ∃ z, k = z + 1 := ⟨k - 1, by omega⟩
    obtain rfl : i = l.length := by omega
    refine ⟨a, by rw [laws_szMessageS.l0, if_neg (by omega)], .inr ⟨h0, by omega, ?_⟩⟩
    rw [List.drop_length]
    simp
  | succ d ih =>
    intro k a i hd hi hk h0 h1
    obtain ⟨k, rfl⟩ : ∃ z, k = z + 1 := ⟨k - 1, by omega⟩
    have hlt : i < l.length := by omega
    have hy : rd_T34 l (i : Int) = l[i] := by simp only [rd_T34, Int.toNat_natCast, getD_at _ _ _ hlt]
    have e2 : ((i + 1 : Nat) : Int) = (i : Int) + 1 := by omega
    have hm := hs _ (List.getElem_mem hlt)
    rw [laws_szMessageS.l0, if_pos (by omega), if_pos (by omega), hy, szMessage_at _ _ _ _ _ _ _ _ _ _ a h0 h1 hm]
    simp only [Option.bind_some]
    by_cases hb : a < l[i].f5.f1.length
    · rw [if_pos hb, if_pos (by omega)]
      exact ⟨-1, rfl, .inl (by omega)⟩
    · rw [if_neg hb, if_neg (by omega), w64 (by omega) (by omega), ← e2]
      obtain ⟨z, e, hz⟩ := ih k (a - l[i].f5.f1.length) (i + 1) (by omega) (by omega) (by omega) (by omega) (by omega)
      refine ⟨z, e, ?_⟩
      rcases hz with hz | ⟨z0, z1, z2⟩
      · exact .inl hz
      · refine .inr ⟨z0, by omega, ?_⟩
        rw [drop_cons l i hlt]
        intro m hm2
        rcases List.mem_cons.1 hm2 with rfl | hm2
        · omega
        · exact z2 m hm2
theorem szMessageS_at (l : List S34) (hs : ∀ m ∈ l, m.f5.f1.length ≤ maxLen) (hl : l.length ≤ maxLen) (a : Int) (h0 : 0 ≤ a) (h1 : a ≤ 1048576) (k : Nat) (hk : 1048600 ≤ k) : ∃ z, laws_szMessageS.f k l a = some z ∧ (z < 0 ∨ (0 ≤ z ∧ z ≤ a ∧ l.length ≤ 1048576 ∧ ∀ m ∈ l, m.f5.f1.length ≤ 1048576)) := by
  unfold maxLen at hl
  unfold laws_szMessageS.f
  rw [w64 (by omega) (by omega)]
  by_cases h : a - (l.length : Int) < 0
  · rw [if_pos h]
    exact ⟨-1, rfl, .inl (by omega)⟩
  · rw [if_neg h]
    obtain ⟨z, e, hz⟩ := szMessageS_l0 l hs (by omega) _ k (a - l.length) 0 rfl (by omega) (by omega) (by omega) (by omega)
    rw [show ((0 : Nat) : Int) = 0 from rfl] at e
    refine ⟨z, e, ?_⟩
    rcases hz with hz | ⟨z0, z1, z2⟩
    · exact .inl hz
    · exact .inr ⟨z0, by omega, by omega, by simpa using z2⟩
def cvM (m : S34) : S40 := ⟨m.f0, m.f1, m.f2, ⟨m.f3.f0, m.f3.f1, m.f3.f2, m.f3.f3⟩, m.f4, ⟨m.f5.f0, m.f5.f1⟩⟩
theorem toMessageS_at (l : List S34) (hl : l.length ≤ 1048576) (hs : ∀ m ∈ l, m.f5.f1.length ≤ 1048576) (k : Nat) (hk : 3000000 ≤ k) : laws_toMessageS.f k l = some (l.map cvM) := by
  unfold laws_toMessageS.f
  rw [if_pos (by omega), if_pos (by omega)]
  refine loop_up (fun k s i => laws_toMessageS.l0 k l s i) l.length 1500000 (fun _ _ => l.map cvM) (fun s i => s.length = l.length ∧ s.take i = (l.take i).map cvM) ?_ ?_ k _ 0 0 rfl (by omega) ⟨by simp, rfl⟩ (by omega)
  · intro k s ⟨h1, h2⟩ _
    rw [laws_toMessageS.l0, if_neg (by omega)]
    rw [List.take_of_length_le (by omega), List.take_of_length_le (by omega)] at h2
    rw [h2]
  · intro k s i hi ⟨h1, h2⟩ hm ih
    have hy : rd_T34 l (i : Int) = l[i] := by simp only [rd_T34, Int.toNat_natCast, getD_at _ _ _ hi]
    have hb := hs _ (List.getElem_mem hi)
    rw [laws_toMessageS.l0, if_pos (by omega), if_pos (by omega), hy, toMessage_at _ _ _ _ _ _ _ _ _ _ (by omega) _ (by omega)]
    simp only [Option.bind_some]
    rw [if_pos (by omega), w64 (by omega) (by omega)]
    refine ih _ ⟨by rw [List.length_set]; exact h1, ?_⟩
    rw [Int.toNat_natCast, set_take _ _ _ (by omega), h2, take_succ _ _ hi, List.map_append]
    rfl
theorem eqMessageS_self (l : List S40) (hl : l.length ≤ 1048576) (hs : ∀ m ∈ l, m.f5.f1.length ≤ 1048576) (k : Nat) (hk : 3000000 ≤ k) : laws_eqMessageS.f k l l = some true := by
  unfold laws_eqMessageS.f
  rw [if_pos rfl]
  refine loop_up (fun k (_ : Unit) i => laws_eqMessageS.l0 k l l i) l.length 1500000 (fun _ _ => true) (fun _ _ => True) ?_ ?_ k () 0 0 rfl (by omega) trivial (by omega)
  · intro k _ _ _
    rw [laws_eqMessageS.l0, if_neg (by omega)]
  · intro k _ i hi _ hm ih
    have hy : rd_T40 l (i : Int) = l[i] := by simp only [rd_T40, Int.toNat_natCast, getD_at _ _ _ hi]
    have hb := hs _ (List.getElem_mem hi)
    rw [laws_eqMessageS.l0, if_pos (by omega), if_pos (by omega), if_pos (by omega), hy, eqMessage_self _ _ _ _ _ _ _ _ _ _ (by omega) _ (by omega), w64 (by omega) (by omega)]
    exact ih () trivial
def eqkb (a b : List Int) : Bool := (strOfNums a).toList == (strOfNums b).toList
def eqm (x y : S40) : Bool := decide (x.f0 = y.f0) && (decide (x.f1 = y.f1) && (decide (x.f2 = y.f2) && (((x.f3.f0 == y.f3.f0) && ((x.f3.f1 == y.f3.f1) && ((x.f3.f2 == y.f3.f2) && (x.f3.f3 == y.f3.f3)))) && (decide (x.f4 = y.f4) && (decide (x.f5.f0 = y.f5.f0) && eqkb x.f5.f1 y.f5.f1)))))
def smv (a b : List S40) : Bool := decide (a.length = b.length) && (a.zip b).all fun x => eqm x.1 x.2
theorem claim_not (a b c d a' b' c' d' : Int) : (!(a == a') || (!(b == b') || (!(c == c') || (!(d == d'))))) = !((a == a') && ((b == b') && ((c == c') && (d == d')))) := by
  simp only [Bool.not_and]
theorem spec_SameMessages_at (a b : List S40) (hl : a.length ≤ 1048576) (k : Nat) (hk : 2000000 ≤ k) : spec_SameMessages.f k a b = some (smv a b) := by
  unfold spec_SameMessages.f smv
  by_cases hn : a.length = b.length
  rotate_left
  · rw [if_neg (by omega)]
    simp [hn]
  rw [if_pos (by omega), decide_eq_true hn, Bool.true_and]
  refine loop_up (fun k (_ : Unit) i => spec_SameMessages.l0 k a b i) a.length 0 (fun _ i => ((a.drop i).zip (b.drop i)).all fun x => eqm x.1 x.2) (fun _ _ => True) ?_ ?_ k () 0 0 rfl (Nat.zero_le _) trivial (by omega)
  · intro k _ _ _
    rw [spec_SameMessages.l0, if_neg (by omega), List.drop_length]
    rfl
  · intro k _ i hi _ _ ih
    have hj : i < b.length := by omega
    have hx : rd_T40 a (i : Int) = a[i] := by simp only [rd_T40, Int.toNat_natCast, getD_at _ _ _ hi]
    have hy : rd_T40 b (i : Int) = b[i] := by simp only [rd_T40, Int.toNat_natCast, getD_at _ _ _ hj]
    rw [spec_SameMessages.l0, if_pos (by omega), if_pos (by omega), if_pos (by omega), hx, hy, w64 (by omega) (by omega), ih () trivial, claim_not, drop_cons a i hi, drop_cons b i hj, List.zip_cons_cons, List.all_cons]
    simp only [eqm, spec_l4Same.f]
    have ek : ((strOfNums a[i].f5.f1).toList == (strOfNums b[i].f5.f1).toList) = eqkb a[i].f5.f1 b[i].f5.f1 := rfl
    rw [ek]
    generalize ((a[i].f3.f0 == b[i].f3.f0) && ((a[i].f3.f1 == b[i].f3.f1) && ((a[i].f3.f2 == b[i].f3.f2) && (a[i].f3.f3 == b[i].f3.f3)))) = q
    generalize eqkb a[i].f5.f1 b[i].f5.f1 = e
    by_cases h0 : a[i].f0 = b[i].f0
    · by_cases h1 : a[i].f1 = b[i].f1
      · by_cases h2 : a[i].f2 = b[i].f2
        · by_cases h4 : a[i].f4 = b[i].f4
          · by_cases h5 : a[i].f5.f0 = b[i].f5.f0
            · cases q <;> cases e <;> simp [h0, h1, h2, h4, h5]
            · cases q <;> simp [h0, h1, h2, h4, h5]
          · cases q <;> simp [h0, h1, h2, h4]
        · simp [h0, h1, h2]
      · simp [h0, h1]
    · simp [h0]
theorem impl_sameMessage_at (x y : S40) : impl_sameMessage.f x.f0 x.f1 x.f2 x.f3.f0 x.f3.f1 x.f3.f2 x.f3.f3 x.f4 x.f5.f0 x.f5.f1 y.f0 y.f1 y.f2 y.f3.f0 y.f3.f1 y.f3.f2 y.f3.f3 y.f4 y.f5.f0 y.f5.f1 = some (eqm x y) := by
  unfold impl_sameMessage.f impl_sameKey.f bytes_Equal.f eqm
  have ek : ((strOfNums x.f5.f1).toList == (strOfNums y.f5.f1).toList) = eqkb x.f5.f1 y.f5.f1 := rfl
  rw [ek]
  generalize ((x.f3.f0 == y.f3.f0) && ((x.f3.f1 == y.f3.f1) && ((x.f3.f2 == y.f3.f2) && (x.f3.f3 == y.f3.f3)))) = q
  generalize eqkb x.f5.f1 y.f5.f1 = e
  by_cases h0 : x.f0 = y.f0
  · by_cases h1 : x.f1 = y.f1
    · by_cases h2 : x.f2 = y.f2
      · by_cases h4 : x.f4 = y.f4
        · by_cases h5 : x.f5.f0 = y.f5.f0
          · cases q <;> simp [h0, h1, h2, h4, h5]
          · cases q <;> simp [h0, h1, h2, h4, h5]
        · cases q <;> simp [h0, h1, h2, h4]
      · simp [h0, h1, h2]
    · simp [h0, h1]
  · simp [h0]
theorem impl_SameMessages_at (a b : List S40) (hl : a.length ≤ 1048576) (k : Nat) (hk : 2000000 ≤ k) : impl_SameMessages.f k a b = some (smv a b) := by
  unfold impl_SameMessages.f impl_Message.f smv
  by_cases hn : a.length = b.length
  rotate_left
  · rw [if_neg (by omega)]
    simp [hn]
  rw [if_pos (by omega), decide_eq_true hn, Bool.true_and]
  have key := loop_up (fun k (_ : Unit) i => impl_Message.l0 k b a (a.length : Int) i) a.length 0 (fun _ i => ((a.drop i).zip (b.drop i)).all fun x => eqm x.1 x.2) (fun _ _ => True) ?_ ?_ k () 0 0 rfl (Nat.zero_le _) trivial (by omega)
  · rw [key]
    rfl
  · intro k _ _ _
    rw [impl_Message.l0, if_neg (by omega), List.drop_length]
    rfl
  · intro k _ i hi _ _ ih
    have hj : i < b.length := by omega
    have hx : rd_T40 a (i : Int) = a[i] := by simp only [rd_T40, Int.toNat_natCast, getD_at _ _ _ hi]
    have hy : rd_T40 b (i : Int) = b[i] := by simp only [rd_T40, Int.toNat_natCast, getD_at _ _ _ hj]
    rw [impl_Message.l0, if_pos (by omega), if_pos (by omega), if_pos (by omega), if_pos (by omega), hx, hy, impl_sameMessage_at, w64 (by omega) (by omega), ih () trivial, drop_cons a i hi, drop_cons b i hj, List.zip_cons_cons, List.all_cons]
    simp only [Option.bind_some]
    cases eqm a[i] b[i] <;> simp
end Go.Proofs.Ytpjelfgeohklkaa.Pure
