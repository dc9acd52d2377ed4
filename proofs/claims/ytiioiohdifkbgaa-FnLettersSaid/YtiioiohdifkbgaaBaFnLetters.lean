/- Plain lemmas on loops over lists, on marking and on copying: no Go in sight. -/
import Derived.Test.YtiioiohdifkbgaaZFnLetters
namespace Go.Proofs.Ytiioiohdifkbgaa.Base
open Go.RowKit Go.Proofs.YtiioiohdifkbgaaW.PrintWords
set_option linter.unusedVariables false
set_option linter.unusedSimpArgs false

theorem w64 {x : Int} (h0 : -9223372036854775808 ≤ x) (h1 : x < 9223372036854775808) : wrap64 x = x := by
  unfold wrap64
  omega

/-- A loop upwards: what it answers, from each state on. -/
theorem loop_up {σ β : Type} (L : Nat → σ → Int → Option β) (n m : Nat) (r : σ → Nat → β) (P : σ → Nat → Prop)
    (hend : ∀ k s, P s n → m ≤ k → L (k + 1) s (n : Int) = some (r s n))
    (hstep : ∀ k s (i : Nat), i < n → P s i → m ≤ k → (∀ s', P s' (i + 1) → L k s' ((i : Int) + 1) = some (r s' (i + 1))) → L (k + 1) s (i : Int) = some (r s i)) :
    ∀ k s (i : Nat) (j : Int), j = i → i ≤ n → P s i → n - i + m < k → L k s j = some (r s i) := by
  intro k
  induction k with
  | zero => intro s i j hj hi hp hk; omega
  | succ k ih =>
    intro s i j hj hi hp hk
    subst hj
    by_cases h : i = n
    · subst h
      exact hend k s hp (by omega)
    · exact hstep k s i (by omega) hp (by omega) (fun s' hp' => ih s' (i + 1) _ (by omega) (by omega) hp' (by omega))

/-- The same where a round costs c rounds. -/
theorem loop_upc {σ β : Type} (c : Nat) (hc : 1 ≤ c) (L : Nat → σ → Int → Option β) (n m : Nat) (r : σ → Nat → β) (P : σ → Nat → Prop)
    (hend : ∀ k s, P s n → m ≤ k → L (k + c) s (n : Int) = some (r s n))
    (hstep : ∀ k s (i : Nat), i < n → P s i → m ≤ k → (∀ s', P s' (i + 1) → L k s' ((i : Int) + 1) = some (r s' (i + 1))) → L (k + c) s (i : Int) = some (r s i)) :
    ∀ d k s (i : Nat) (j : Int), j = i → n - i = d → i ≤ n → P s i → c * d + m + c ≤ k → L k s j = some (r s i) := by
  intro d
  induction d with
  | zero =>
    intro k s i j hj hd hi hp hk
    subst hj
    obtain rfl : i = n := by omega
    obtain ⟨k, rfl⟩ : ∃ x, k = x + c := ⟨k - c, by omega⟩
    exact hend k s hp (by omega)
  | succ d ih =>
    intro k s i j hj hd hi hp hk
    subst hj
    obtain ⟨k, rfl⟩ : ∃ x, k = x + c := ⟨k - c, by rw [Nat.mul_succ] at hk; omega⟩
    rw [Nat.mul_succ] at hk
    exact hstep k s i (by omega) hp (by omega) (fun s' hp' => ih k s' (i + 1) _ (by omega) (by omega) (by omega) hp' (by omega))

/-- A loop downwards, from n - 1 to 0. -/
theorem loop_down {σ β : Type} (L : Nat → σ → Int → Option β) (n : Nat) (r : σ → Nat → β)
    (hend : ∀ k s, L (k + 1) s (-1) = some (r s 0))
    (hstep : ∀ k s (i : Nat), i < n → (∀ s', L k s' ((i : Int) - 1) = some (r s' i)) → L (k + 1) s (i : Int) = some (r s (i + 1))) :
    ∀ (j : Nat) k s, j ≤ n → j < k → L k s ((j : Int) - 1) = some (r s j) := by
  intro j
  induction j with
  | zero =>
    intro k s _ hk
    obtain ⟨k, rfl⟩ : ∃ x, k = x + 1 := ⟨k - 1, by omega⟩
    exact hend k s
  | succ j ih =>
    intro k s hj hk
    obtain ⟨k, rfl⟩ : ∃ x, k = x + 1 := ⟨k - 1, by omega⟩
    have e : ((j + 1 : Nat) : Int) - 1 = (j : Int) := by omega
    rw [e]
    exact hstep k s j (by omega) (fun s' => ih k s' (by omega) (by omega))

theorem set_take {α : Type} (l : List α) (i : Nat) (v : α) (h : i < l.length) : (l.set i v).take (i + 1) = l.take i ++ [v] := by
  apply List.ext_getElem?
  intro j
  by_cases h1 : j < i
  · rw [List.getElem?_append_left (by simp; omega), List.getElem?_take_of_lt h1, List.getElem?_take_of_lt (by omega), List.getElem?_set_ne (by omega)]
  · by_cases h2 : j = i
    · subst h2
      rw [List.getElem?_append_right (by simp; omega), List.getElem?_take_of_lt (by omega), List.getElem?_set_self (by omega)]
      have : j - (l.take j).length = 0 := by simp; omega
      rw [this]
      rfl
    · rw [List.getElem?_eq_none (by simp; omega), List.getElem?_eq_none (by simp; omega)]

theorem take_succ {α : Type} (l : List α) (i : Nat) (h : i < l.length) : l.take (i + 1) = l.take i ++ [l[i]] := by
  rw [List.take_succ_eq_append_getElem h]

/-- A copy, element by element, into a row that was made. -/
theorem to_loop {α β : Type} (L : Nat → List β → Int → Option (List β)) (l : List α) (cv : α → β)
    (hend : ∀ k s, s.length = l.length → L (k + 1) s (l.length : Int) = some s)
    (hstep : ∀ k s (i : Nat) (hi : i < l.length), s.length = l.length → L (k + 1) s (i : Int) = L k (s.set i (cv l[i])) ((i : Int) + 1)) :
    ∀ k s, s.length = l.length → l.length < k → L k s 0 = some (l.map cv) := by
  intro k s hs hk
  refine loop_up L l.length 0 (fun _ _ => l.map cv) (fun s i => s.length = l.length ∧ s.take i = (l.take i).map cv) ?_ ?_ k s 0 0 rfl (by omega) ⟨hs, rfl⟩ (by omega)
  · intro k s ⟨h1, h2⟩ _
    rw [hend k s h1]
    rw [List.take_of_length_le (by omega), List.take_of_length_le (by omega)] at h2
    rw [h2]
  · intro k s i hi ⟨h1, h2⟩ _ ih
    rw [hstep k s i hi h1]
    exact ih _ ⟨by simp [h1], by rw [set_take _ _ _ (by omega), take_succ _ _ hi, h2, List.map_append]; rfl⟩

/-- Marks of one stride. -/
def marks {β : Type} (mk : Int → β) (c : Nat) (a : Int) (n : Nat) : List β := (List.range n).map fun (j : Nat) => mk (a + c * (j : Int))
theorem marks_len {β : Type} (mk : Int → β) (c : Nat) (a : Int) (n : Nat) : (marks mk c a n).length = n := by simp [marks]
theorem marks_get {β : Type} (mk : Int → β) (c : Nat) (a : Int) (n j : Nat) (h : j < n) : (marks mk c a n)[j]? = some (mk (a + c * j)) := by
  simp [marks, List.getElem?_range h]
theorem marks_succ {β : Type} (mk : Int → β) (c : Nat) (a : Int) (n : Nat) : marks mk c a (n + 1) = marks mk c a n ++ [mk (a + c * n)] := by
  simp [marks, List.range_succ]
theorem mark_loop {β : Type} (M : Nat → List β → Int → Int → Option (Int × List β)) (n c : Nat) (mk : Int → β) (a : Int)
    (hend : ∀ k s b, s.length = n → M (k + 1) s b (n : Int) = some (b, s))
    (hstep : ∀ k s (i : Nat), i < n → s.length = n → M (k + 1) s (a + c * i) (i : Int) = M k (s.set i (mk (a + c * i))) (a + c * i + c) ((i : Int) + 1)) :
    ∀ k s, s.length = n → n < k → M k s a 0 = some (a + c * n, marks mk c a n) := by
  intro k s hs hk
  refine loop_up (fun k (x : List β × Int) i => M k x.1 x.2 i) n 0 (fun _ _ => (a + c * n, marks mk c a n)) (fun x i => x.1.length = n ∧ x.1.take i = marks mk c a i ∧ x.2 = a + c * i) ?_ ?_ k (s, a) 0 0 rfl (by omega) ⟨hs, rfl, by simp⟩ (by omega)
  · rintro k ⟨s, b⟩ ⟨h1, h2, h3⟩ _
    simp only at h1 h2 h3
    show M (k + 1) s b n = _
    rw [hend k s b h1, h3]
    rw [List.take_of_length_le (by omega)] at h2
    rw [h2]
  · rintro k ⟨s, b⟩ i hi ⟨h1, h2, h3⟩ _ ih
    simp only at h1 h2 h3
    subst h3
    show M (k + 1) s (a + c * i) i = _
    rw [hstep k s i hi h1]
    refine ih (s.set i (mk (a + c * i)), a + c * i + c) ⟨by simp [h1], ?_, ?_⟩
    · show (s.set i _).take (i + 1) = _
      rw [set_take _ _ _ (by omega), h2, marks_succ]
    · show a + (c : Int) * i + c = a + c * ((i + 1 : Nat) : Int)
      rw [Int.natCast_add, Int.mul_add]
      simp
      omega
theorem held_loop (H : Nat → Int → Int → Option Int) (n c : Nat) (a : Int)
    (hend : ∀ k b, H (k + 1) b (n : Int) = some b)
    (hstep : ∀ k (i : Nat), i < n → H (k + 1) (a + c * i) (i : Int) = H k (a + c * i + c) ((i : Int) + 1)) :
    ∀ k, n < k → H k a 0 = some (a + c * n) := by
  intro k hk
  refine loop_up (fun k (b : Int) i => H k b i) n 0 (fun _ _ => a + c * n) (fun b i => b = a + c * i) ?_ ?_ k a 0 0 rfl (by omega) (by simp) (by omega)
  · rintro k b h _
    show H (k + 1) b n = _
    rw [hend k b, h]
  · rintro k b i hi h _ ih
    subst h
    show H (k + 1) (a + c * i) i = _
    rw [hstep k i hi]
    refine ih _ ?_
    show a + (c : Int) * i + c = a + c * ((i + 1 : Nat) : Int)
    rw [Int.natCast_add, Int.mul_add]
    simp
    omega
theorem getD_at {α : Type} (l : List α) (i : Nat) (z : α) (h : i < l.length) : l.getD i z = l[i] := by
  simp [List.getD_eq_getElem?_getD, h]
theorem getD_set {α : Type} (l : List α) (i : Nat) (v z : α) (h : i < l.length) : (l.set i v).getD i z = v := by
  simp [List.getD_eq_getElem?_getD, h]
theorem drop_cons {α : Type} (l : List α) (i : Nat) (h : i < l.length) : l.drop i = l[i] :: l.drop (i + 1) := by
  rw [List.drop_eq_getElem_cons h]
end Go.Proofs.Ytiioiohdifkbgaa.Base
