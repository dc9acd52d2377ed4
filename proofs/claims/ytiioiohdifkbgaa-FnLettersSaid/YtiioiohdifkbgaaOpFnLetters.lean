/- Arguments that are read as data (structs, slices of structs, texts) open as the print's kinds: what the contracts of the printed functions ask for. -/
import Derived.ChangeArms
import Derived.ChangeSlices
import Derived.DataReads
import Derived.WideShapes
import Derived.Test.YtiioiohdifkbgaaZFnLetters
namespace Go.Proofs.Ytiioiohdifkbgaa.Open
open Go.RowKit Go.ChangeShapes Go.WideShapes Go.Proofs.YtiioiohdifkbgaaW.PrintWords
set_option linter.unusedVariables false

/-- Every datum of type t that is read gives a value of the kind d, and the value is good. -/
structure Opens {α : Type} (P : Program) (t : TypeId) (d : Kd α) (G : α → Prop) : Prop where
  sz : P.cellsOf t = d.sz
  op : ∀ {H : Type} {enc : TypeId × Value → H} {W : World} {base : Nat} {spare : Nat → Bool} {held : Bool} {fuel : Nat} {cs : List Value} {x : DataW H × List MemPlace},
    DataW.trod enc P W base spare held fuel t cs = some x → ∃ y, d.K W y cs ∧ G y

theorem Opens.int {P : Program} {t : TypeId} {k : IntKind} (hu : P.underlying t = some (.int k)) (hc : P.cellsOf t = 1) : Opens P t (Kd.int k) (fun n => (Lit.int k n).wf = true) where
  sz := hc
  op := by
    intro H enc W base spare held fuel cs x h
    obtain ⟨n, rfl, rfl, hw⟩ := DataW.trod_int hu h
    exact ⟨n, rfl, hw⟩
theorem Opens.bool {P : Program} {t : TypeId} (hu : P.underlying t = some .bool) (hc : P.cellsOf t = 1) : Opens P t Kd.bool (fun _ => True) where
  sz := hc
  op := by
    intro H enc W base spare held fuel cs x h
    obtain ⟨n, rfl, rfl⟩ := DataW.trod_bool hu h
    exact ⟨n, rfl, trivial⟩
theorem Opens.string {P : Program} {t : TypeId} (hu : P.underlying t = some .string) (hc : P.cellsOf t = 1) : Opens P t Kd.string (fun s => s.size ≤ maxLen) where
  sz := hc
  op := by
    intro H enc W base spare held fuel cs x h
    obtain ⟨n, rfl, rfl, hw⟩ := DataW.trod_string hu h
    exact ⟨n, rfl, hw⟩

theorem cells_at {w : World} {base : Nat} {a : Addr} {n : Nat} {cs : List Value} (h : w.cells? base a n = some cs) : cs.length = n ∧ ∀ i u, cs[i]? = some u → w.cell? (a.add i) = some u := by
  obtain ⟨_, hl, hc⟩ := World.cells?_some h
  refine ⟨hl, fun i u hu => ?_⟩
  have hi : i < n := by
    have := (List.getElem?_eq_some_iff.1 hu).1
    omega
  rw [hc i hi, hu]

theorem add_add (a : Addr) (m n : Nat) : (a.add m).add n = a.add (m + n) := by
  unfold Addr.add
  by_cases hm : m = 0
  · subst hm
    simp
  · by_cases hn : n = 0
    · subst hn
      simp [hm]
    · simp [hm, hn, Nat.add_assoc]

theorem choose_list {α : Type} (n : Nat) (R : Nat → α → Prop) (h : ∀ i, i < n → ∃ y, R i y) : ∃ ys : List α, ys.length = n ∧ ∀ i y, ys[i]? = some y → R i y := by
  induction n with
  | zero => exact ⟨[], rfl, fun i y hy => by simp at hy⟩
  | succ n ih =>
    obtain ⟨ys, hl, hr⟩ := ih (fun i hi => h i (by omega))
    obtain ⟨y, hy⟩ := h n (by omega)
    refine ⟨ys ++ [y], by simp [hl], fun i z hz => ?_⟩
    by_cases hi : i < ys.length
    · rw [List.getElem?_append_left hi] at hz
      exact hr i z hz
    · rw [List.getElem?_append_right (by omega)] at hz
      have : i - ys.length = 0 := by
        by_cases e : i - ys.length = 0
        · exact e
        · rw [List.getElem?_eq_none (by simp; omega)] at hz
          cases hz
      rw [this] at hz
      simp at hz
      subst hz
      have : i = n := by omega
      subst this
      exact hy

/-- A slice's row. -/
theorem Opens.slice {α : Type} {P : Program} {t e : TypeId} {d : Kd α} {G : α → Prop} (hu : P.underlying t = some (.slice e)) (hc : P.cellsOf t = 1) (he : Opens P e d G) :
    Opens P t (Kd.slice e d) (fun l => l.length ≤ maxLen ∧ ∀ y ∈ l, G y) where
  sz := hc
  op := by
    intro H enc W base spare held fuel cs x h
    rcases DataW.trod_slice hu h with ⟨rfl, rfl⟩ | ⟨a, len, cap, elems, rest, n, rfl, rfl, rfl, hb, hl, hm, hlen, hel, hsp, hns⟩
    · exact ⟨[], ⟨none, 0, rfl, Nat.le_refl _, ⟨rfl, Nat.zero_le _, fun h => absurd h (Nat.lt_irrefl _)⟩⟩, Nat.zero_le _, fun y hy => by simp at hy⟩
    · have each : ∀ i, i < len → ∃ y, (∃ c, c.length = d.sz ∧ d.K W y c ∧ ∀ j u, c[j]? = some u → W.cell? (a.add (i * d.sz + j)) = some u) ∧ G y := by
        intro i hi
        have h1 := hel i hi
        have h2 : elems[i]? = some (elems[i]'(by omega)) := List.getElem?_eq_getElem (by omega)
        rw [h2] at h1
        obtain ⟨cs', hcs, hy⟩ := Option.bind_eq_some_iff.1 h1
        obtain ⟨y, hk, hg⟩ := he.op hy
        obtain ⟨hcl, hcc⟩ := cells_at hcs
        refine ⟨y, ⟨cs', by rw [hcl, he.sz], hk, fun j u hu => ?_⟩, hg⟩
        have h3 := hcc j u hu
        rw [he.sz] at h3
        rw [← h3]
        rw [add_add]
      obtain ⟨ys, hyl, hyr⟩ := choose_list len _ each
      refine ⟨ys, ⟨some a, cap, by rw [hyl], by omega, ⟨rfl, ?_, fun _ => ⟨a, rfl, fun j p hp => (hyr j p hp).1⟩⟩⟩, by omega, fun y hy => ?_⟩
      · have : maxLen ≤ 9223372036854775807 := by unfold maxLen; omega
        omega
      · obtain ⟨i, hi⟩ := List.getElem?_of_mem hy
        exact (hyr i y hi).2

/-- A struct's fields in line, from a cell on. -/
structure OpensF {α : Type} (P : Program) (fs : List Field) (o : Nat) (d : Kd α) (G : α → Prop) : Prop where
  op : ∀ {H : Type} {enc : TypeId × Value → H} {W : World} {base : Nat} {spare : Nat → Bool} {held : Bool} {fuel : Nat} {cs : List Value},
    (∀ (i : Nat) (f : Field), fs[i]? = some f → ∃ x, DataW.trod enc P W base spare held fuel f.type ((cs.drop f.offset).take (P.cellsOf f.type)) = some x) → ∃ y, d.K W y ((cs.drop o).take d.sz) ∧ G y

theorem OpensF.last {α : Type} {P : Program} {f : Field} {o : Nat} {d : Kd α} {G : α → Prop} (ho : f.offset = o) (h : Opens P f.type d G) : OpensF P [f] o d G where
  op := by
    intro H enc W base spare held fuel cs hf
    obtain ⟨x, hx⟩ := hf 0 f rfl
    obtain ⟨y, hk, hg⟩ := h.op hx
    rw [ho, h.sz] at hk
    exact ⟨y, hk, hg⟩
theorem OpensF.cons {α β : Type} {P : Program} {f : Field} {fs : List Field} {o : Nat} {d : Kd α} {G : α → Prop} {d2 : Kd β} {G2 : β → Prop} (ho : f.offset = o) (h : Opens P f.type d G) (h2 : OpensF P fs (o + d.sz) d2 G2) :
    OpensF P (f :: fs) o (Kd.pair d d2) (fun x => G x.1 ∧ G2 x.2) where
  op := by
    intro H enc W base spare held fuel cs hf
    obtain ⟨x, hx⟩ := hf 0 f rfl
    obtain ⟨y, hk, hg⟩ := h.op hx
    obtain ⟨y2, hk2, hg2⟩ := h2.op (fun i f hi => hf (i + 1) f (by simpa using hi))
    rw [ho, h.sz] at hk
    refine ⟨(y, y2), ⟨_, _, ?_, hk, hk2⟩, hg, hg2⟩
    show (cs.drop o).take (d.sz + d2.sz) = _
    rw [List.take_add, List.drop_drop]

/-- A struct. -/
theorem Opens.struct {α β : Type} {P : Program} {t : TypeId} {fs : Array Field} {d : Kd α} {G : α → Prop} (f : β → α) (g : α → β) (hfg : ∀ x, f (g x) = x) (hu : P.underlying t = some (.struct fs)) (hc : P.cellsOf t = d.sz) (h : OpensF P fs.toList 0 d G) :
    Opens P t (Kd.iso d f) (fun x => G (f x)) where
  sz := hc
  op := by
    intro H enc W base spare held fuel cs x hx
    obtain ⟨xs, n, _, _, hl, hlen, hf⟩ := DataW.trod_struct hu hx
    obtain ⟨y, hk, hg⟩ := h.op (fun i f hi => by
      have h1 := hf i f (by simpa using hi)
      have h2 : i < xs.length := by
        have := (List.getElem?_eq_some_iff.1 hi).1
        simp at this
        omega
      rw [List.getElem?_eq_getElem h2] at h1
      exact ⟨_, h1⟩)
    refine ⟨g y, ?_, by rw [hfg]; exact hg⟩
    show d.K W (f (g y)) cs
    rw [hfg]
    rw [hc] at hl
    have : (cs.drop 0).take d.sz = cs := by rw [List.drop_zero, List.take_of_length_le (by omega)]
    rw [this] at hk
    exact hk

/-- A slice handed in. -/
theorem open_slice {α : Type} {H : Type} {enc : TypeId × Value → H} {P : Program} {t e : TypeId} {d : Kd α} {G : α → Prop} {W : World} {base : Nat} {spare : Nat → Bool} {held : Bool} {v : Value} {x : DataW H} {ps : List MemPlace}
    (hu : P.underlying t = some (.slice e)) (hc : P.cellsOf t = 1) (he : Opens P e d G) {r : Reach} {b : Nat} (hv : Value.okWide P W r b t v) (h : DataW.Trod enc P W base spare held t v x ps) :
    ∃ A c, ∃ l : List α, v = .slice A l.length c ∧ d.C W A l.length l ∧ l.length ≤ c ∧ l.length ≤ maxLen ∧ ∀ y ∈ l, G y := by
  obtain ⟨a, len, cap, rfl⟩ := okWide_slice hu hv
  obtain ⟨fuel, hf⟩ := h
  obtain ⟨l, ⟨A, c, hcs, hl, hC⟩, hm, hg⟩ := (Opens.slice hu hc he).op hf
  simp [Value.cells] at hcs
  obtain ⟨rfl, rfl, rfl⟩ := hcs
  exact ⟨_, _, l, rfl, hC, hl, hm, hg⟩
/-- A struct handed in: its cells. -/
theorem open_agg {α : Type} {H : Type} {enc : TypeId × Value → H} {P : Program} {t : TypeId} {fs : Array Field} {d : Kd α} {G : α → Prop} {W : World} {base : Nat} {spare : Nat → Bool} {held : Bool} {v : Value} {x : DataW H} {ps : List MemPlace}
    (hu : P.underlying t = some (.struct fs)) (he : Opens P t d G) {r : Reach} {b : Nat} (hv : Value.okWide P W r b t v) (h : DataW.Trod enc P W base spare held t v x ps) :
    ∃ y cs, v = .agg (List.toArray cs) ∧ d.K W y cs ∧ G y := by
  obtain ⟨cs, rfl, hs⟩ := okWide_struct hu hv
  obtain ⟨fuel, hf⟩ := h
  obtain ⟨y, hk, hg⟩ := he.op hf
  exact ⟨y, cs.toList, rfl, by simpa [Value.cells] using hk, hg⟩
end Go.Proofs.Ytiioiohdifkbgaa.Open
