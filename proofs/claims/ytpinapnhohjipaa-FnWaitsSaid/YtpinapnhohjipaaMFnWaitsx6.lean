-- Laid by a program of this session (the kit's print, turned where it falls short; the texts of functions that it does not take are proved by hand).
import Derived.Test.YtpinapnhohjipaaMFnWaitsx0
import Derived.Test.YtpinapnhohjipaaMFnWaitsx5
namespace Go.Proofs.Ytpinapnhohjipaa.MFnWaits
open Go.RowKit Go.Proofs.YtpinapnhohjipaaW.PrintWords Go.Proofs.YtpinapnhohjipaaW.PrintLast Go.Proofs.YtpinapnhohjipaaW.PrintMore
attribute [local go_sem] max2_int min2_int max_two min_two max_three min_three max_four min_four   -- for this text's walks alone
set_option linter.unusedVariables false
set_option linter.unusedSimpArgs false

attribute [local go_sem] isSome_setCell
/-- A state of type 67 at block g of W; what its slices lead to came in by w0. -/
def IsS67 (w0 W : World) (g : Nat) (f0 : Int) (f1 : Int) (f2 : Int) (f3 : Int) (f4 : Int) (f5 : Int) (f6 : Int) : Prop := W.heap[g]? = some (.cells #[.int .i64 f0, .int .i64 f1, .int .i64 f2, .int .i64 f3, .int .i64 f4, .int .i64 f5, .int .i64 f6] 67 (0, 0)) ∧ w0.heap.size ≤ g
theorem IsS67.grown {w0 W : World} {g : Nat} {f0 : Int} {f1 : Int} {f2 : Int} {f3 : Int} {f4 : Int} {f5 : Int} {f6 : Int} {W1 : World} {row : Option Nat} (h : IsS67 w0 W g f0 f1 f2 f3 f4 f5 f6) (hw : W.grownBy W1 row) (hne : some g ≠ row) : IsS67 w0 W1 g f0 f1 f2 f3 f4 f5 f6 := by
  obtain ⟨hb, hg⟩ := h
  exact ⟨blk_grown hb hw hne, hg⟩
theorem IsS67.own_neN {w0 W : World} {g : Nat} {f0 : Int} {f1 : Int} {f2 : Int} {f3 : Int} {f4 : Int} {f5 : Int} {f6 : Int} {α : Type} {d : Kd α} {e : Nat} {base : Nat} {ok : Nat → Prop} {v : Value} {xs : List α} (h : IsS67 w0 W g f0 f1 f2 f3 f4 f5 f6) (ho : Kd.N d e W base ok v xs) (ht : e ≠ 67) : some g ≠ v.ownBlock := by
  obtain ⟨hb, hg⟩ := h
  exact Kd.N_ne ho hb ht
theorem IsS67.fresh {w0 W : World} {g : Nat} {f0 : Int} {f1 : Int} {f2 : Int} {f3 : Int} {f4 : Int} {f5 : Int} {f6 : Int} (h : IsS67 w0 W g f0 f1 f2 f3 f4 f5 f6) : ∀ k, W.heap.size ≤ k → k ≠ g := by
  obtain ⟨hb, hg⟩ := h
  exact Kd.freshB hb
theorem IsS67.kept {w0 W : World} {g : Nat} {f0 : Int} {f1 : Int} {f2 : Int} {f3 : Int} {f4 : Int} {f5 : Int} {f6 : Int} {W1 : World} {S : Nat → Prop} (h : IsS67 w0 W g f0 f1 f2 f3 f4 f5 f6) (hk : Kept W W1 S) (hne : ¬ S g) : IsS67 w0 W1 g f0 f1 f2 f3 f4 f5 f6 := by
  obtain ⟨hb, hg⟩ := h
  exact ⟨blk_kept hb hk hne, hg⟩
theorem IsS67.below {w0 W : World} {g : Nat} {f0 : Int} {f1 : Int} {f2 : Int} {f3 : Int} {f4 : Int} {f5 : Int} {f6 : Int} {W1 : World} (h : IsS67 w0 W g f0 f1 f2 f3 f4 f5 f6) (hw : Below W.heap.size W W1) : IsS67 w0 W1 g f0 f1 f2 f3 f4 f5 f6 := h.grown (grown_of_below hw none) (by simp)
theorem IsS67.alloc {w0 W : World} {g : Nat} {f0 : Int} {f1 : Int} {f2 : Int} {f3 : Int} {f4 : Int} {f5 : Int} {f6 : Int} (h : IsS67 w0 W g f0 f1 f2 f3 f4 f5 f6) (o : Obj) : IsS67 w0 (W.alloc o) g f0 f1 f2 f3 f4 f5 f6 := h.below (below_alloc (Below.refl _ _) o)
theorem IsS67.drewN {w0 W : World} {g : Nat} {f0 : Int} {f1 : Int} {f2 : Int} {f3 : Int} {f4 : Int} {f5 : Int} {f6 : Int} (h : IsS67 w0 W g f0 f1 f2 f3 f4 f5 f6) (m : Nat) : IsS67 w0 (W.drewN m) g f0 f1 f2 f3 f4 f5 f6 := h
theorem IsS67.drew {w0 W : World} {g : Nat} {f0 : Int} {f1 : Int} {f2 : Int} {f3 : Int} {f4 : Int} {f5 : Int} {f6 : Int} (h : IsS67 w0 W g f0 f1 f2 f3 f4 f5 f6) : IsS67 w0 W.drew g f0 f1 f2 f3 f4 f5 f6 := h
theorem IsS67.at_ {w0 W : World} {g : Nat} {f0 : Int} {f1 : Int} {f2 : Int} {f3 : Int} {f4 : Int} {f5 : Int} {f6 : Int} {w' : World} {m : Nat} (hq : W.drewN m = w') (h : IsS67 w0 W g f0 f1 f2 f3 f4 f5 f6) : IsS67 w0 w' g f0 f1 f2 f3 f4 f5 f6 := by subst hq; exact IsS67.drewN h m
theorem IsS67.apart {w0 W : World} {g : Nat} {f0 : Int} {f1 : Int} {f2 : Int} {f3 : Int} {f4 : Int} {f5 : Int} {f6 : Int} {α : Type} {d : Kd α} {e : Nat} {base : Nat} {ok : Nat → Prop} {v : Value} {xs : List α} (h : IsS67 w0 W g f0 f1 f2 f3 f4 f5 f6) (ho : d.R e W base ok v xs) (ht : ∀ q, q ∈ e :: d.E → q ≠ 67) : d.R e W base (fun k => ok k ∧ k ≠ g) v xs := by
  obtain ⟨hb, hg⟩ := h
  exact Kd.R_types ho hb ht
theorem IsS67.own_ne {w0 W : World} {g : Nat} {f0 : Int} {f1 : Int} {f2 : Int} {f3 : Int} {f4 : Int} {f5 : Int} {f6 : Int} {α : Type} {d : Kd α} {e : Nat} {base : Nat} {ok : Nat → Prop} {v : Value} {xs : List α} (h : IsS67 w0 W g f0 f1 f2 f3 f4 f5 f6) (ho : d.R e W base ok v xs) (ht : e ≠ 67) : some g ≠ v.ownBlock := by
  obtain ⟨hb, hg⟩ := h
  exact Kd.R_ne ho hb ht
theorem IsS67.apartQ {w0 W : World} {g : Nat} {f0 : Int} {f1 : Int} {f2 : Int} {f3 : Int} {f4 : Int} {f5 : Int} {f6 : Int} {α : Type} {d : Kd α} {e : Nat} {base : Nat} {ok : Nat → Prop} {v : Value} {xs : List α} (h : IsS67 w0 W g f0 f1 f2 f3 f4 f5 f6) (ho : d.Q e W base ok v xs) (ht : ∀ q, q ∈ e :: d.E → q ≠ 67) : d.Q e W base (fun k => ok k ∧ k ≠ g) v xs := by
  obtain ⟨hb, hg⟩ := h
  exact Kd.Q_types ho hb ht
theorem IsS67.own_neQ {w0 W : World} {g : Nat} {f0 : Int} {f1 : Int} {f2 : Int} {f3 : Int} {f4 : Int} {f5 : Int} {f6 : Int} {α : Type} {d : Kd α} {e : Nat} {base : Nat} {ok : Nat → Prop} {v : Value} {xs : List α} (h : IsS67 w0 W g f0 f1 f2 f3 f4 f5 f6) (ho : d.Q e W base ok v xs) (ht : e ≠ 67) : some g ≠ v.ownBlock := by
  obtain ⟨hb, hg⟩ := h
  exact Kd.Q_ne ho hb ht
theorem IsS67.apartS {w0 W : World} {g : Nat} {f0 : Int} {f1 : Int} {f2 : Int} {f3 : Int} {f4 : Int} {f5 : Int} {f6 : Int} {α : Type} {d : Kd α} {e : Nat} {base : Nat} {ok : Nat → Prop} {v : Value} {xs : List α} (h : IsS67 w0 W g f0 f1 f2 f3 f4 f5 f6) (ho : d.S e W base ok v xs) (ht : ∀ q, q ∈ e :: d.E → q ≠ 67) : d.S e W base (fun k => ok k ∧ k ≠ g) v xs := by
  obtain ⟨hb, hg⟩ := h
  exact Kd.S_types ho hb ht
theorem IsS67.own_neS {w0 W : World} {g : Nat} {f0 : Int} {f1 : Int} {f2 : Int} {f3 : Int} {f4 : Int} {f5 : Int} {f6 : Int} {α : Type} {d : Kd α} {e : Nat} {base : Nat} {ok : Nat → Prop} {v : Value} {xs : List α} (h : IsS67 w0 W g f0 f1 f2 f3 f4 f5 f6) (ho : d.S e W base ok v xs) (ht : e ≠ 67) : some g ≠ v.ownBlock := by
  obtain ⟨hb, hg⟩ := h
  exact Kd.S_ne ho hb ht
theorem IsS67.lt {w0 W : World} {g : Nat} {f0 : Int} {f1 : Int} {f2 : Int} {f3 : Int} {f4 : Int} {f5 : Int} {f6 : Int} (h : IsS67 w0 W g f0 f1 f2 f3 f4 f5 f6) : g < W.heap.size := by
  obtain ⟨hb, hg⟩ := h
  exact blk_lt hb
theorem IsS67.ge {w0 W : World} {g : Nat} {f0 : Int} {f1 : Int} {f2 : Int} {f3 : Int} {f4 : Int} {f5 : Int} {f6 : Int} (h : IsS67 w0 W g f0 f1 f2 f3 f4 f5 f6) : w0.heap.size ≤ g := by
  obtain ⟨hb, hg⟩ := h
  exact hg
theorem IsS67.ne_blk {w0 W : World} {g : Nat} {f0 : Int} {f1 : Int} {f2 : Int} {f3 : Int} {f4 : Int} {f5 : Int} {f6 : Int} {a : Nat} {cs : Array Value} {t : TypeId} {fr : Nat × Nat} (h : IsS67 w0 W g f0 f1 f2 f3 f4 f5 f6) (hb2 : W.heap[a]? = some (.cells cs t fr)) (ht : t ≠ 67) : g ≠ a := by
  obtain ⟨hb, hg⟩ := h
  rintro rfl
  rw [hb] at hb2
  injection hb2 with hb2
  injection hb2 with _ ht2
  exact ht ht2.symm
theorem IsS67.far {w0 W : World} {g : Nat} {f0 : Int} {f1 : Int} {f2 : Int} {f3 : Int} {f4 : Int} {f5 : Int} {f6 : Int} {p : Addr} (h : IsS67 w0 W g f0 f1 f2 f3 f4 f5 f6) (hne : g ≠ p.block) (u : Value) : IsS67 w0 (W.setCell p u) g f0 f1 f2 f3 f4 f5 f6 := by
  obtain ⟨hb, hg⟩ := h
  exact ⟨blk_far hb hne u, hg⟩
theorem cellS67_0 {W : World} {g : Nat} {f0 : Int} {f1 : Int} {f2 : Int} {f3 : Int} {f4 : Int} {f5 : Int} {f6 : Int} (h : W.heap[g]? = some (.cells #[.int .i64 f0, .int .i64 f1, .int .i64 f2, .int .i64 f3, .int .i64 f4, .int .i64 f5, .int .i64 f6] 67 (0, 0))) : W.cell? ⟨g, 0, none⟩ = some (.int .i64 f0) := (blk_cell h 0).trans rfl
theorem IsS67.set_0 {w0 W : World} {g : Nat} {f0 : Int} {f1 : Int} {f2 : Int} {f3 : Int} {f4 : Int} {f5 : Int} {f6 : Int} (h : IsS67 w0 W g f0 f1 f2 f3 f4 f5 f6) (x : Int) : IsS67 w0 (W.setCell ⟨g, 0, none⟩ (.int .i64 x)) g x f1 f2 f3 f4 f5 f6 := by
  obtain ⟨hb, hg⟩ := h
  exact ⟨by simpa using blk_set hb 0 (.int .i64 x), hg⟩
theorem cellS67_1 {W : World} {g : Nat} {f0 : Int} {f1 : Int} {f2 : Int} {f3 : Int} {f4 : Int} {f5 : Int} {f6 : Int} (h : W.heap[g]? = some (.cells #[.int .i64 f0, .int .i64 f1, .int .i64 f2, .int .i64 f3, .int .i64 f4, .int .i64 f5, .int .i64 f6] 67 (0, 0))) : W.cell? ⟨g, 1, none⟩ = some (.int .i64 f1) := (blk_cell h 1).trans rfl
theorem IsS67.set_1 {w0 W : World} {g : Nat} {f0 : Int} {f1 : Int} {f2 : Int} {f3 : Int} {f4 : Int} {f5 : Int} {f6 : Int} (h : IsS67 w0 W g f0 f1 f2 f3 f4 f5 f6) (x : Int) : IsS67 w0 (W.setCell ⟨g, 1, none⟩ (.int .i64 x)) g f0 x f2 f3 f4 f5 f6 := by
  obtain ⟨hb, hg⟩ := h
  exact ⟨by simpa using blk_set hb 1 (.int .i64 x), hg⟩
theorem cellS67_2 {W : World} {g : Nat} {f0 : Int} {f1 : Int} {f2 : Int} {f3 : Int} {f4 : Int} {f5 : Int} {f6 : Int} (h : W.heap[g]? = some (.cells #[.int .i64 f0, .int .i64 f1, .int .i64 f2, .int .i64 f3, .int .i64 f4, .int .i64 f5, .int .i64 f6] 67 (0, 0))) : W.cell? ⟨g, 2, none⟩ = some (.int .i64 f2) := (blk_cell h 2).trans rfl
theorem IsS67.set_2 {w0 W : World} {g : Nat} {f0 : Int} {f1 : Int} {f2 : Int} {f3 : Int} {f4 : Int} {f5 : Int} {f6 : Int} (h : IsS67 w0 W g f0 f1 f2 f3 f4 f5 f6) (x : Int) : IsS67 w0 (W.setCell ⟨g, 2, none⟩ (.int .i64 x)) g f0 f1 x f3 f4 f5 f6 := by
  obtain ⟨hb, hg⟩ := h
  exact ⟨by simpa using blk_set hb 2 (.int .i64 x), hg⟩
theorem cellS67_3 {W : World} {g : Nat} {f0 : Int} {f1 : Int} {f2 : Int} {f3 : Int} {f4 : Int} {f5 : Int} {f6 : Int} (h : W.heap[g]? = some (.cells #[.int .i64 f0, .int .i64 f1, .int .i64 f2, .int .i64 f3, .int .i64 f4, .int .i64 f5, .int .i64 f6] 67 (0, 0))) : W.cell? ⟨g, 3, none⟩ = some (.int .i64 f3) := (blk_cell h 3).trans rfl
theorem IsS67.set_3 {w0 W : World} {g : Nat} {f0 : Int} {f1 : Int} {f2 : Int} {f3 : Int} {f4 : Int} {f5 : Int} {f6 : Int} (h : IsS67 w0 W g f0 f1 f2 f3 f4 f5 f6) (x : Int) : IsS67 w0 (W.setCell ⟨g, 3, none⟩ (.int .i64 x)) g f0 f1 f2 x f4 f5 f6 := by
  obtain ⟨hb, hg⟩ := h
  exact ⟨by simpa using blk_set hb 3 (.int .i64 x), hg⟩
theorem cellS67_4 {W : World} {g : Nat} {f0 : Int} {f1 : Int} {f2 : Int} {f3 : Int} {f4 : Int} {f5 : Int} {f6 : Int} (h : W.heap[g]? = some (.cells #[.int .i64 f0, .int .i64 f1, .int .i64 f2, .int .i64 f3, .int .i64 f4, .int .i64 f5, .int .i64 f6] 67 (0, 0))) : W.cell? ⟨g, 4, none⟩ = some (.int .i64 f4) := (blk_cell h 4).trans rfl
theorem IsS67.set_4 {w0 W : World} {g : Nat} {f0 : Int} {f1 : Int} {f2 : Int} {f3 : Int} {f4 : Int} {f5 : Int} {f6 : Int} (h : IsS67 w0 W g f0 f1 f2 f3 f4 f5 f6) (x : Int) : IsS67 w0 (W.setCell ⟨g, 4, none⟩ (.int .i64 x)) g f0 f1 f2 f3 x f5 f6 := by
  obtain ⟨hb, hg⟩ := h
  exact ⟨by simpa using blk_set hb 4 (.int .i64 x), hg⟩
theorem cellS67_5 {W : World} {g : Nat} {f0 : Int} {f1 : Int} {f2 : Int} {f3 : Int} {f4 : Int} {f5 : Int} {f6 : Int} (h : W.heap[g]? = some (.cells #[.int .i64 f0, .int .i64 f1, .int .i64 f2, .int .i64 f3, .int .i64 f4, .int .i64 f5, .int .i64 f6] 67 (0, 0))) : W.cell? ⟨g, 5, none⟩ = some (.int .i64 f5) := (blk_cell h 5).trans rfl
theorem IsS67.set_5 {w0 W : World} {g : Nat} {f0 : Int} {f1 : Int} {f2 : Int} {f3 : Int} {f4 : Int} {f5 : Int} {f6 : Int} (h : IsS67 w0 W g f0 f1 f2 f3 f4 f5 f6) (x : Int) : IsS67 w0 (W.setCell ⟨g, 5, none⟩ (.int .i64 x)) g f0 f1 f2 f3 f4 x f6 := by
  obtain ⟨hb, hg⟩ := h
  exact ⟨by simpa using blk_set hb 5 (.int .i64 x), hg⟩
theorem cellS67_6 {W : World} {g : Nat} {f0 : Int} {f1 : Int} {f2 : Int} {f3 : Int} {f4 : Int} {f5 : Int} {f6 : Int} (h : W.heap[g]? = some (.cells #[.int .i64 f0, .int .i64 f1, .int .i64 f2, .int .i64 f3, .int .i64 f4, .int .i64 f5, .int .i64 f6] 67 (0, 0))) : W.cell? ⟨g, 6, none⟩ = some (.int .i64 f6) := (blk_cell h 6).trans rfl
theorem IsS67.set_6 {w0 W : World} {g : Nat} {f0 : Int} {f1 : Int} {f2 : Int} {f3 : Int} {f4 : Int} {f5 : Int} {f6 : Int} (h : IsS67 w0 W g f0 f1 f2 f3 f4 f5 f6) (x : Int) : IsS67 w0 (W.setCell ⟨g, 6, none⟩ (.int .i64 x)) g f0 f1 f2 f3 f4 f5 x := by
  obtain ⟨hb, hg⟩ := h
  exact ⟨by simpa using blk_set hb 6 (.int .i64 x), hg⟩
theorem IsS67.new (w0 W : World) (f0 : Int) (f1 : Int) (f2 : Int) (f3 : Int) (f4 : Int) (f5 : Int) (f6 : Int) (hB : Below w0.heap.size w0 W) : IsS67 w0 (W.alloc (.cells #[.int .i64 f0, .int .i64 f1, .int .i64 f2, .int .i64 f3, .int .i64 f4, .int .i64 f5, .int .i64 f6] 67)) W.heap.size f0 f1 f2 f3 f4 f5 f6 := ⟨by simpa using heap_alloc_new W _, hB.size⟩

/-! ### spec_l9Wait: function 56 -/
def spec_l9Wait.j0 : Nat → Bool → Int → Int → Int → Int → Int → Int → Int → Option (Int × Int × Int × Int × Int × Int × Int × Int)
  | 0, _, _, _, _, _, _, _, _ => none
  | k + 1, x29, x1000, x1001, x1002, x1003, x1004, x1005, x1006 => if x29 = true then (some (1, x1000, x1001, x1002, x1003, x1004, x1005, x1006)) else ((spec_l1In.f x1001 0 1000000).bind fun t304 => (if t304 = true then ((spec_l9Node.f x1002).bind fun t305 => (if t305 = true then ((spec_l1In.f x1003 0 1000000).bind fun t306 => (if t306 = true then ((spec_l1In.f x1004 1 9).bind fun t307 => (if t307 = true then ((spec_l9Node.f x1005).bind fun t308 => (if t308 = true then ((spec_l1In.f x1006 0 1000000).bind fun t309 => (if t309 = true then (some (0, x1000, x1001, x1002, x1003, x1004, x1005, x1006)) else (some (3, x1000, x1001, x1002, x1003, x1004, x1005, x1006)))) else (some (3, x1000, x1001, x1002, x1003, x1004, x1005, x1006)))) else (some (3, x1000, x1001, x1002, x1003, x1004, x1005, x1006)))) else (some (3, x1000, x1001, x1002, x1003, x1004, x1005, x1006)))) else (some (3, x1000, x1001, x1002, x1003, x1004, x1005, x1006)))) else (some (3, x1000, x1001, x1002, x1003, x1004, x1005, x1006))))
def spec_l9Wait.f (k : Nat) (s0_0 : Int) (s0_1 : Int) (s0_2 : Int) (s0_3 : Int) (s0_4 : Int) (s0_5 : Int) (s0_6 : Int) : Option (Int × Int × Int × Int × Int × Int × Int × Int) := (spec_l1In.f s0_0 1 4).bind fun t303 => (if t303 = true then (if s0_0 = 4 then (spec_l9Wait.j0 k false s0_0 s0_1 s0_2 s0_3 s0_4 s0_5 s0_6) else (if s0_5 = 0 then (spec_l9Wait.j0 k (s0_6 != 0) s0_0 s0_1 s0_2 s0_3 s0_4 s0_5 s0_6) else (spec_l9Wait.j0 k true s0_0 s0_1 s0_2 s0_3 s0_4 s0_5 s0_6))) else (spec_l9Wait.j0 k true s0_0 s0_1 s0_2 s0_3 s0_4 s0_5 s0_6))
theorem spec_l9Wait.mono_l : ∀ k, (∀ y0 y1 y2 y3 y4 y5 y6 y7, LeO (spec_l9Wait.j0 k y0 y1 y2 y3 y4 y5 y6 y7) (spec_l9Wait.j0 (k + 1) y0 y1 y2 y3 y4 y5 y6 y7))
  | 0 => fun _ _ _ _ _ _ _ _ r h => by simp [spec_l9Wait.j0] at h
  | k + 1 => by
    have ih0 := spec_l9Wait.mono_l k
    · intro y0 y1 y2 y3 y4 y5 y6 y7
      unfold spec_l9Wait.j0
      repeat' first
      | (with_reducible exact ih0 _ _ _ _ _ _ _ _)
      | (with_reducible exact LeO.refl _)
      | (with_reducible exact LeO.none _)
      | (with_reducible refine LeO.ite ?_ ?_)
      | (with_reducible refine LeO.bind ?_ (fun _ => ?_))
      | exact ih0 _ _ _ _ _ _ _ _
      | exact LeO.none _
      | refine LeO.ite ?_ ?_
      | refine LeO.bind ?_ (fun _ => ?_)
theorem spec_l9Wait.mono : ∀ a0 a1 a2 a3 a4 a5 a6 k, LeO (spec_l9Wait.f k a0 a1 a2 a3 a4 a5 a6) (spec_l9Wait.f (k + 1) a0 a1 a2 a3 a4 a5 a6) := by
  intro a0 a1 a2 a3 a4 a5 a6 k
  have ih0 := spec_l9Wait.mono_l k
  unfold spec_l9Wait.f
  repeat' first
      | (with_reducible exact ih0 _ _ _ _ _ _ _ _)
      | (with_reducible exact LeO.refl _)
      | (with_reducible exact LeO.none _)
      | (with_reducible refine LeO.ite ?_ ?_)
      | (with_reducible refine LeO.bind ?_ (fun _ => ?_))
      | exact ih0 _ _ _ _ _ _ _ _
      | exact LeO.none _
      | refine LeO.ite ?_ ?_
      | refine LeO.bind ?_ (fun _ => ?_)
set_option maxHeartbeats 8000000 in
set_option maxRecDepth 100000 in
theorem spec_l9Wait.calls (k : Nat) (g : Nat) (s0_0 : Int) (s0_1 : Int) (s0_2 : Int) (s0_3 : Int) (s0_4 : Int) (s0_5 : Int) (s0_6 : Int) (r1 : Int) (r2 : Int) (r3 : Int) (r4 : Int) (r5 : Int) (r6 : Int) (r7 : Int) (r8 : Int) (w0 w : World) (hI : IsS67 w0 w g s0_0 s0_1 s0_2 s0_3 s0_4 s0_5 s0_6) (hB : Below w0.heap.size w0 w) (h : spec_l9Wait.f k s0_0 s0_1 s0_2 s0_3 s0_4 s0_5 s0_6 = some (r1, r2, r3, r4, r5, r6, r7, r8)) :
    Calls Try.prog 56 #[.pointer (some ⟨g, 0, none⟩)] w fun e w' => e = .returned (.int .i64 r1) ∧ IsS67 w0 w' g r2 r3 r4 r5 r6 r7 r8 ∧ Below w0.heap.size w0 w' ∧ KeepBut w w' g none := by
  have HI0 := Aside0.mk hI
  have HK := Aside0.mk (KeepBut.refl w g none)
  have HL := Aside0.mk hB.size
  clear hI
  have HW0 := Aside0.mk hB.size
  have HB := Aside0.mk hB
  clear hB
  have H : ((spec_l1In.f s0_0 1 4).bind fun t303 => (if t303 = true then (if s0_0 = 4 then (spec_l9Wait.j0 k false s0_0 s0_1 s0_2 s0_3 s0_4 s0_5 s0_6) else (if s0_5 = 0 then (spec_l9Wait.j0 k (s0_6 != 0) s0_0 s0_1 s0_2 s0_3 s0_4 s0_5 s0_6) else (spec_l9Wait.j0 k true s0_0 s0_1 s0_2 s0_3 s0_4 s0_5 s0_6))) else (spec_l9Wait.j0 k true s0_0 s0_1 s0_2 s0_3 s0_4 s0_5 s0_6))) = some (r1, r2, r3, r4, r5, r6, r7, r8) := h
  clear h
  have HC2 := Aside0.mk H
  clear H
  go_enter Try.func56, Try.ntmps56
  go_upto_region 1 with (fail)
  go_cut [29] (fun v29 wc => ∃ (kq : Nat) (x29_1 : Bool), v29 = .bool x29_1 ∧ Aside0 (spec_l9Wait.j0 kq x29_1 s0_0 s0_1 s0_2 s0_3 s0_4 s0_5 s0_6 = some (r1, r2, r3, r4, r5, r6, r7, r8)) ∧ Aside0 (kq ≤ k) ∧ Aside0 (IsS67 w0 wc g s0_0 s0_1 s0_2 s0_3 s0_4 s0_5 s0_6) ∧ Aside0 (KeepBut w wc g none) ∧ Aside0 (Below w0.heap.size w0 wc))
  case first =>
    have H := HC2.out
    clear HC2
    replace H := Option.bind_eq_some_iff.mp H
    obtain ⟨t303, A30, H⟩ := H
    replace H : (if t303 = true then (if s0_0 = 4 then (spec_l9Wait.j0 k false s0_0 s0_1 s0_2 s0_3 s0_4 s0_5 s0_6) else (if s0_5 = 0 then (spec_l9Wait.j0 k (s0_6 != 0) s0_0 s0_1 s0_2 s0_3 s0_4 s0_5 s0_6) else (spec_l9Wait.j0 k true s0_0 s0_1 s0_2 s0_3 s0_4 s0_5 s0_6))) else (spec_l9Wait.j0 k true s0_0 s0_1 s0_2 s0_3 s0_4 s0_5 s0_6)) = some (r1, r2, r3, r4, r5, r6, r7, r8) := H
    have A3 := Aside0.mk A30
    clear A30
    by_cases c4 : t303 = true
    · subst c4
      have H1 : (if s0_0 = 4 then (spec_l9Wait.j0 k false s0_0 s0_1 s0_2 s0_3 s0_4 s0_5 s0_6) else (if s0_5 = 0 then (spec_l9Wait.j0 k (s0_6 != 0) s0_0 s0_1 s0_2 s0_3 s0_4 s0_5 s0_6) else (spec_l9Wait.j0 k true s0_0 s0_1 s0_2 s0_3 s0_4 s0_5 s0_6))) = some (r1, r2, r3, r4, r5, r6, r7, r8) := by rw [if_pos rfl] at H; exact H
      clear H
      have H := H1
      clear H1
      by_cases c5 : s0_0 = 4
      · rw [if_pos c5] at H
        have c5b0 : (s0_0 == 4) = true := beq_iff_eq.mpr c5
        have c5b1 : (s0_0 != 4) = false := bne_eq_false_iff_eq.mpr c5
        clear c5
        (first | rw [c5b0] | (simp only [i64_w, i32_w]; rw [c5b0]) | skip)
        have H' := Aside0.mk H
        clear H
        obtain ⟨HGz6, hgz6⟩ := HI0.out
        have hcz6_0 := cellS67_0 HGz6
        have hcz6_1 := cellS67_1 HGz6
        have hcz6_2 := cellS67_2 HGz6
        have hcz6_3 := cellS67_3 HGz6
        have hcz6_4 := cellS67_4 HGz6
        have hcz6_5 := cellS67_5 HGz6
        have hcz6_6 := cellS67_6 HGz6
        have hfz6_0 := blk_frozen HGz6 0
        have hfz6_1 := blk_frozen HGz6 1
        have hfz6_2 := blk_frozen HGz6 2
        have hfz6_3 := blk_frozen HGz6 3
        have hfz6_4 := blk_frozen HGz6 4
        have hfz6_5 := blk_frozen HGz6 5
        have hfz6_6 := blk_frozen HGz6 6
        clear HGz6 hgz6
        go_wp2_with (first | ((with_reducible refine gate_callee (f := 52) rfl ?_); refine goesL_ (some 7) rfl rfl Try.func52 (by kernel_rfl) rfl #[.int .i64 s0_0, .int .i64 1, .int .i64 4] rfl (by (try simp only [List.map_toArray, List.map_cons, List.map_nil]); first | done | rfl | (simp only [List.length_drop, List.length_take]; rfl)) ?_; (with_reducible refine (spec_l1In.calls s0_0 1 4 true _ A3.out).mono ?_); rintro e w' ⟨rfl, ⟨nd, rfl⟩⟩; refine ⟨_, rfl, ?_⟩))
        go_meet
        case rel => exact ⟨_, (false), (by first | rfl | (simp; done) | (simp [*]; done)), H', ⟨by first | omega | exact Nat.le_refl _⟩, ⟨by repeat (first | (with_reducible first | exact HI0.out | apply IsS67.alloc | apply IsS67.drewN | apply IsS67.drew | apply IsS67.set_0 | apply IsS67.set_1 | apply IsS67.set_2 | apply IsS67.set_3 | apply IsS67.set_4 | apply IsS67.set_5 | apply IsS67.set_6) | exact HI0.out)⟩, ⟨by repeat (first | (with_reducible first | exact HK.out | apply KeepBut.set_ | apply keep_drewN | apply keep_drew | apply keep_alloc) | exact HK.out)⟩, ⟨by repeat (first | (with_reducible first | exact HB.out | apply below_alloc | apply pw_below_drewN | apply below_drew1 | refine below_set ?_ (IsS67.ge HI0.out)) | exact HB.out)⟩⟩
      · rw [if_neg c5] at H
        have c5b0 : (s0_0 == 4) = false := beq_eq_false_iff_ne.mpr c5
        have c5b1 : (s0_0 != 4) = true := bne_iff_ne.mpr c5
        (first | rw [c5b0] | (simp only [i64_w, i32_w]; rw [c5b0]) | skip)
        by_cases c7 : s0_5 = 0
        · rw [if_pos c7] at H
          have c7b0 : (s0_5 == 0) = true := beq_iff_eq.mpr c7
          have c7b1 : (s0_5 != 0) = false := bne_eq_false_iff_eq.mpr c7
          clear c7
          have H' := Aside0.mk H
          clear H
          obtain ⟨HGz8, hgz8⟩ := HI0.out
          have hcz8_0 := cellS67_0 HGz8
          have hcz8_1 := cellS67_1 HGz8
          have hcz8_2 := cellS67_2 HGz8
          have hcz8_3 := cellS67_3 HGz8
          have hcz8_4 := cellS67_4 HGz8
          have hcz8_5 := cellS67_5 HGz8
          have hcz8_6 := cellS67_6 HGz8
          have hfz8_0 := blk_frozen HGz8 0
          have hfz8_1 := blk_frozen HGz8 1
          have hfz8_2 := blk_frozen HGz8 2
          have hfz8_3 := blk_frozen HGz8 3
          have hfz8_4 := blk_frozen HGz8 4
          have hfz8_5 := blk_frozen HGz8 5
          have hfz8_6 := blk_frozen HGz8 6
          clear HGz8 hgz8
          go_wp2_with (first | ((with_reducible refine gate_callee (f := 52) rfl ?_); refine goesL_ (some 7) rfl rfl Try.func52 (by kernel_rfl) rfl #[.int .i64 s0_0, .int .i64 1, .int .i64 4] rfl (by (try simp only [List.map_toArray, List.map_cons, List.map_nil]); first | done | rfl | (simp only [List.length_drop, List.length_take]; rfl)) ?_; (with_reducible refine (spec_l1In.calls s0_0 1 4 true _ A3.out).mono ?_); rintro e w' ⟨rfl, ⟨nd, rfl⟩⟩; refine ⟨_, rfl, ?_⟩))
          go_meet
          case rel => exact ⟨_, ((s0_6 != 0)), (by first | rfl | (simp; done) | (simp [*]; done)), H', ⟨by first | omega | exact Nat.le_refl _⟩, ⟨by repeat (first | (with_reducible first | exact HI0.out | apply IsS67.alloc | apply IsS67.drewN | apply IsS67.drew | apply IsS67.set_0 | apply IsS67.set_1 | apply IsS67.set_2 | apply IsS67.set_3 | apply IsS67.set_4 | apply IsS67.set_5 | apply IsS67.set_6) | exact HI0.out)⟩, ⟨by repeat (first | (with_reducible first | exact HK.out | apply KeepBut.set_ | apply keep_drewN | apply keep_drew | apply keep_alloc) | exact HK.out)⟩, ⟨by repeat (first | (with_reducible first | exact HB.out | apply below_alloc | apply pw_below_drewN | apply below_drew1 | refine below_set ?_ (IsS67.ge HI0.out)) | exact HB.out)⟩⟩
        · rw [if_neg c7] at H
          have c7b0 : (s0_5 == 0) = false := beq_eq_false_iff_ne.mpr c7
          have c7b1 : (s0_5 != 0) = true := bne_iff_ne.mpr c7
          have H' := Aside0.mk H
          clear H
          obtain ⟨HGz9, hgz9⟩ := HI0.out
          have hcz9_0 := cellS67_0 HGz9
          have hcz9_1 := cellS67_1 HGz9
          have hcz9_2 := cellS67_2 HGz9
          have hcz9_3 := cellS67_3 HGz9
          have hcz9_4 := cellS67_4 HGz9
          have hcz9_5 := cellS67_5 HGz9
          have hcz9_6 := cellS67_6 HGz9
          have hfz9_0 := blk_frozen HGz9 0
          have hfz9_1 := blk_frozen HGz9 1
          have hfz9_2 := blk_frozen HGz9 2
          have hfz9_3 := blk_frozen HGz9 3
          have hfz9_4 := blk_frozen HGz9 4
          have hfz9_5 := blk_frozen HGz9 5
          have hfz9_6 := blk_frozen HGz9 6
          clear HGz9 hgz9
          go_wp2_with (first | ((with_reducible refine gate_callee (f := 52) rfl ?_); refine goesL_ (some 7) rfl rfl Try.func52 (by kernel_rfl) rfl #[.int .i64 s0_0, .int .i64 1, .int .i64 4] rfl (by (try simp only [List.map_toArray, List.map_cons, List.map_nil]); first | done | rfl | (simp only [List.length_drop, List.length_take]; rfl)) ?_; (with_reducible refine (spec_l1In.calls s0_0 1 4 true _ A3.out).mono ?_); rintro e w' ⟨rfl, ⟨nd, rfl⟩⟩; refine ⟨_, rfl, ?_⟩))
          go_meet
          case rel => exact ⟨_, (true), (by first | rfl | (simp; done) | (simp [*]; done)), H', ⟨by first | omega | exact Nat.le_refl _⟩, ⟨by repeat (first | (with_reducible first | exact HI0.out | apply IsS67.alloc | apply IsS67.drewN | apply IsS67.drew | apply IsS67.set_0 | apply IsS67.set_1 | apply IsS67.set_2 | apply IsS67.set_3 | apply IsS67.set_4 | apply IsS67.set_5 | apply IsS67.set_6) | exact HI0.out)⟩, ⟨by repeat (first | (with_reducible first | exact HK.out | apply KeepBut.set_ | apply keep_drewN | apply keep_drew | apply keep_alloc) | exact HK.out)⟩, ⟨by repeat (first | (with_reducible first | exact HB.out | apply below_alloc | apply pw_below_drewN | apply below_drew1 | refine below_set ?_ (IsS67.ge HI0.out)) | exact HB.out)⟩⟩
    · replace c4 := Bool.eq_false_iff.mpr c4
      subst c4
      have H1 : (spec_l9Wait.j0 k true s0_0 s0_1 s0_2 s0_3 s0_4 s0_5 s0_6) = some (r1, r2, r3, r4, r5, r6, r7, r8) := by rw [if_neg (show ¬ (false = true) by decide)] at H; exact H
      clear H
      have H := H1
      clear H1
      have H' := Aside0.mk H
      clear H
      obtain ⟨HGz10, hgz10⟩ := HI0.out
      have hcz10_0 := cellS67_0 HGz10
      have hcz10_1 := cellS67_1 HGz10
      have hcz10_2 := cellS67_2 HGz10
      have hcz10_3 := cellS67_3 HGz10
      have hcz10_4 := cellS67_4 HGz10
      have hcz10_5 := cellS67_5 HGz10
      have hcz10_6 := cellS67_6 HGz10
      have hfz10_0 := blk_frozen HGz10 0
      have hfz10_1 := blk_frozen HGz10 1
      have hfz10_2 := blk_frozen HGz10 2
      have hfz10_3 := blk_frozen HGz10 3
      have hfz10_4 := blk_frozen HGz10 4
      have hfz10_5 := blk_frozen HGz10 5
      have hfz10_6 := blk_frozen HGz10 6
      clear HGz10 hgz10
      go_wp2_with (first | ((with_reducible refine gate_callee (f := 52) rfl ?_); refine goesL_ (some 7) rfl rfl Try.func52 (by kernel_rfl) rfl #[.int .i64 s0_0, .int .i64 1, .int .i64 4] rfl (by (try simp only [List.map_toArray, List.map_cons, List.map_nil]); first | done | rfl | (simp only [List.length_drop, List.length_take]; rfl)) ?_; (with_reducible refine (spec_l1In.calls s0_0 1 4 false _ A3.out).mono ?_); rintro e w' ⟨rfl, ⟨nd, rfl⟩⟩; refine ⟨_, rfl, ?_⟩))
      go_meet
      case rel => exact ⟨_, (true), (by first | rfl | (simp; done) | (simp [*]; done)), H', ⟨by first | omega | exact Nat.le_refl _⟩, ⟨by repeat (first | (with_reducible first | exact HI0.out | apply IsS67.alloc | apply IsS67.drewN | apply IsS67.drew | apply IsS67.set_0 | apply IsS67.set_1 | apply IsS67.set_2 | apply IsS67.set_3 | apply IsS67.set_4 | apply IsS67.set_5 | apply IsS67.set_6) | exact HI0.out)⟩, ⟨by repeat (first | (with_reducible first | exact HK.out | apply KeepBut.set_ | apply keep_drewN | apply keep_drew | apply keep_alloc) | exact HK.out)⟩, ⟨by repeat (first | (with_reducible first | exact HB.out | apply below_alloc | apply pw_below_drewN | apply below_drew1 | refine below_set ?_ (IsS67.ge HI0.out)) | exact HB.out)⟩⟩
  case rest =>
    clear HC2
    try clear p2
    try clear c4
    try clear c5
    try clear c5b0
    try clear c5b1
    try clear c7
    try clear c7b0
    try clear c7b1
    try clear hcz10_0
    try clear hcz10_1
    try clear hcz10_2
    try clear hcz10_3
    try clear hcz10_4
    try clear hcz10_5
    try clear hcz10_6
    try clear hcz6_0
    try clear hcz6_1
    try clear hcz6_2
    try clear hcz6_3
    try clear hcz6_4
    try clear hcz6_5
    try clear hcz6_6
    try clear hcz8_0
    try clear hcz8_1
    try clear hcz8_2
    try clear hcz8_3
    try clear hcz8_4
    try clear hcz8_5
    try clear hcz8_6
    try clear hcz9_0
    try clear hcz9_1
    try clear hcz9_2
    try clear hcz9_3
    try clear hcz9_4
    try clear hcz9_5
    try clear hcz9_6
    try clear hfz10_0
    try clear hfz10_1
    try clear hfz10_2
    try clear hfz10_3
    try clear hfz10_4
    try clear hfz10_5
    try clear hfz10_6
    try clear hfz6_0
    try clear hfz6_1
    try clear hfz6_2
    try clear hfz6_3
    try clear hfz6_4
    try clear hfz6_5
    try clear hfz6_6
    try clear hfz8_0
    try clear hfz8_1
    try clear hfz8_2
    try clear hfz8_3
    try clear hfz8_4
    try clear hfz8_5
    try clear hfz8_6
    try clear hfz9_0
    try clear hfz9_1
    try clear hfz9_2
    try clear hfz9_3
    try clear hfz9_4
    try clear hfz9_5
    try clear hfz9_6
    obtain ⟨kq, x29_1, rfl, HA, HJ1, HI0, HK, HB⟩ := hcut
    cases kq with
    | zero => exact absurd HA.out (by simp [spec_l9Wait.j0])
    | succ kj1 =>
      have H := HA.out
      clear HA
      simp only [spec_l9Wait.j0] at H
      by_cases c11 : x29_1 = true
      · subst c11
        have H1 : (some (1, s0_0, s0_1, s0_2, s0_3, s0_4, s0_5, s0_6)) = some (r1, r2, r3, r4, r5, r6, r7, r8) := by rw [if_pos rfl] at H; exact H
        clear H
        have H := H1
        clear H1
        simp only [Option.some.injEq, Prod.mk.injEq] at H
        obtain ⟨rfl, rfl, rfl, rfl, rfl, rfl, rfl, rfl⟩ := H
        go_wp2
        go_ret
        exact ⟨by first | rfl | (simp [errW_none, errW_some] <;> rfl) | (simp [*, errW_none, errW_some] <;> rfl), by repeat (first | (with_reducible first | exact HI0.out | apply IsS67.alloc | apply IsS67.drewN | apply IsS67.drew | apply IsS67.set_0 | apply IsS67.set_1 | apply IsS67.set_2 | apply IsS67.set_3 | apply IsS67.set_4 | apply IsS67.set_5 | apply IsS67.set_6) | exact HI0.out), by repeat (first | (with_reducible first | exact HB.out | apply below_alloc | apply pw_below_drewN | apply below_drew1 | refine below_set ?_ (IsS67.ge HI0.out)) | exact HB.out), by repeat (first | (with_reducible first | exact HK.out | apply KeepBut.set_ | apply keep_drewN | apply keep_drew | apply keep_alloc) | exact HK.out)⟩
      · replace c11 := Bool.eq_false_iff.mpr c11
        subst c11
        have H1 : ((spec_l1In.f s0_1 0 1000000).bind fun t304 => (if t304 = true then ((spec_l9Node.f s0_2).bind fun t305 => (if t305 = true then ((spec_l1In.f s0_3 0 1000000).bind fun t306 => (if t306 = true then ((spec_l1In.f s0_4 1 9).bind fun t307 => (if t307 = true then ((spec_l9Node.f s0_5).bind fun t308 => (if t308 = true then ((spec_l1In.f s0_6 0 1000000).bind fun t309 => (if t309 = true then (some (0, s0_0, s0_1, s0_2, s0_3, s0_4, s0_5, s0_6)) else (some (3, s0_0, s0_1, s0_2, s0_3, s0_4, s0_5, s0_6)))) else (some (3, s0_0, s0_1, s0_2, s0_3, s0_4, s0_5, s0_6)))) else (some (3, s0_0, s0_1, s0_2, s0_3, s0_4, s0_5, s0_6)))) else (some (3, s0_0, s0_1, s0_2, s0_3, s0_4, s0_5, s0_6)))) else (some (3, s0_0, s0_1, s0_2, s0_3, s0_4, s0_5, s0_6)))) else (some (3, s0_0, s0_1, s0_2, s0_3, s0_4, s0_5, s0_6)))) = some (r1, r2, r3, r4, r5, r6, r7, r8) := by rw [if_neg (show ¬ (false = true) by decide)] at H; exact H
        clear H
        have H := H1
        clear H1
        replace H := Option.bind_eq_some_iff.mp H
        obtain ⟨t304, A120, H⟩ := H
        replace H : (if t304 = true then ((spec_l9Node.f s0_2).bind fun t305 => (if t305 = true then ((spec_l1In.f s0_3 0 1000000).bind fun t306 => (if t306 = true then ((spec_l1In.f s0_4 1 9).bind fun t307 => (if t307 = true then ((spec_l9Node.f s0_5).bind fun t308 => (if t308 = true then ((spec_l1In.f s0_6 0 1000000).bind fun t309 => (if t309 = true then (some (0, s0_0, s0_1, s0_2, s0_3, s0_4, s0_5, s0_6)) else (some (3, s0_0, s0_1, s0_2, s0_3, s0_4, s0_5, s0_6)))) else (some (3, s0_0, s0_1, s0_2, s0_3, s0_4, s0_5, s0_6)))) else (some (3, s0_0, s0_1, s0_2, s0_3, s0_4, s0_5, s0_6)))) else (some (3, s0_0, s0_1, s0_2, s0_3, s0_4, s0_5, s0_6)))) else (some (3, s0_0, s0_1, s0_2, s0_3, s0_4, s0_5, s0_6)))) else (some (3, s0_0, s0_1, s0_2, s0_3, s0_4, s0_5, s0_6))) = some (r1, r2, r3, r4, r5, r6, r7, r8) := H
        have A12 := Aside0.mk A120
        clear A120
        by_cases c13 : t304 = true
        · subst c13
          have H1 : ((spec_l9Node.f s0_2).bind fun t305 => (if t305 = true then ((spec_l1In.f s0_3 0 1000000).bind fun t306 => (if t306 = true then ((spec_l1In.f s0_4 1 9).bind fun t307 => (if t307 = true then ((spec_l9Node.f s0_5).bind fun t308 => (if t308 = true then ((spec_l1In.f s0_6 0 1000000).bind fun t309 => (if t309 = true then (some (0, s0_0, s0_1, s0_2, s0_3, s0_4, s0_5, s0_6)) else (some (3, s0_0, s0_1, s0_2, s0_3, s0_4, s0_5, s0_6)))) else (some (3, s0_0, s0_1, s0_2, s0_3, s0_4, s0_5, s0_6)))) else (some (3, s0_0, s0_1, s0_2, s0_3, s0_4, s0_5, s0_6)))) else (some (3, s0_0, s0_1, s0_2, s0_3, s0_4, s0_5, s0_6)))) else (some (3, s0_0, s0_1, s0_2, s0_3, s0_4, s0_5, s0_6)))) = some (r1, r2, r3, r4, r5, r6, r7, r8) := by rw [if_pos rfl] at H; exact H
          clear H
          have H := H1
          clear H1
          replace H := Option.bind_eq_some_iff.mp H
          obtain ⟨t305, A140, H⟩ := H
          replace H : (if t305 = true then ((spec_l1In.f s0_3 0 1000000).bind fun t306 => (if t306 = true then ((spec_l1In.f s0_4 1 9).bind fun t307 => (if t307 = true then ((spec_l9Node.f s0_5).bind fun t308 => (if t308 = true then ((spec_l1In.f s0_6 0 1000000).bind fun t309 => (if t309 = true then (some (0, s0_0, s0_1, s0_2, s0_3, s0_4, s0_5, s0_6)) else (some (3, s0_0, s0_1, s0_2, s0_3, s0_4, s0_5, s0_6)))) else (some (3, s0_0, s0_1, s0_2, s0_3, s0_4, s0_5, s0_6)))) else (some (3, s0_0, s0_1, s0_2, s0_3, s0_4, s0_5, s0_6)))) else (some (3, s0_0, s0_1, s0_2, s0_3, s0_4, s0_5, s0_6)))) else (some (3, s0_0, s0_1, s0_2, s0_3, s0_4, s0_5, s0_6))) = some (r1, r2, r3, r4, r5, r6, r7, r8) := H
          have A14 := Aside0.mk A140
          clear A140
          by_cases c15 : t305 = true
          · subst c15
            have H1 : ((spec_l1In.f s0_3 0 1000000).bind fun t306 => (if t306 = true then ((spec_l1In.f s0_4 1 9).bind fun t307 => (if t307 = true then ((spec_l9Node.f s0_5).bind fun t308 => (if t308 = true then ((spec_l1In.f s0_6 0 1000000).bind fun t309 => (if t309 = true then (some (0, s0_0, s0_1, s0_2, s0_3, s0_4, s0_5, s0_6)) else (some (3, s0_0, s0_1, s0_2, s0_3, s0_4, s0_5, s0_6)))) else (some (3, s0_0, s0_1, s0_2, s0_3, s0_4, s0_5, s0_6)))) else (some (3, s0_0, s0_1, s0_2, s0_3, s0_4, s0_5, s0_6)))) else (some (3, s0_0, s0_1, s0_2, s0_3, s0_4, s0_5, s0_6)))) = some (r1, r2, r3, r4, r5, r6, r7, r8) := by rw [if_pos rfl] at H; exact H
            clear H
            have H := H1
            clear H1
            replace H := Option.bind_eq_some_iff.mp H
            obtain ⟨t306, A160, H⟩ := H
            replace H : (if t306 = true then ((spec_l1In.f s0_4 1 9).bind fun t307 => (if t307 = true then ((spec_l9Node.f s0_5).bind fun t308 => (if t308 = true then ((spec_l1In.f s0_6 0 1000000).bind fun t309 => (if t309 = true then (some (0, s0_0, s0_1, s0_2, s0_3, s0_4, s0_5, s0_6)) else (some (3, s0_0, s0_1, s0_2, s0_3, s0_4, s0_5, s0_6)))) else (some (3, s0_0, s0_1, s0_2, s0_3, s0_4, s0_5, s0_6)))) else (some (3, s0_0, s0_1, s0_2, s0_3, s0_4, s0_5, s0_6)))) else (some (3, s0_0, s0_1, s0_2, s0_3, s0_4, s0_5, s0_6))) = some (r1, r2, r3, r4, r5, r6, r7, r8) := H
            have A16 := Aside0.mk A160
            clear A160
            by_cases c17 : t306 = true
            · subst c17
              have H1 : ((spec_l1In.f s0_4 1 9).bind fun t307 => (if t307 = true then ((spec_l9Node.f s0_5).bind fun t308 => (if t308 = true then ((spec_l1In.f s0_6 0 1000000).bind fun t309 => (if t309 = true then (some (0, s0_0, s0_1, s0_2, s0_3, s0_4, s0_5, s0_6)) else (some (3, s0_0, s0_1, s0_2, s0_3, s0_4, s0_5, s0_6)))) else (some (3, s0_0, s0_1, s0_2, s0_3, s0_4, s0_5, s0_6)))) else (some (3, s0_0, s0_1, s0_2, s0_3, s0_4, s0_5, s0_6)))) = some (r1, r2, r3, r4, r5, r6, r7, r8) := by rw [if_pos rfl] at H; exact H
              clear H
              have H := H1
              clear H1
              replace H := Option.bind_eq_some_iff.mp H
              obtain ⟨t307, A180, H⟩ := H
              replace H : (if t307 = true then ((spec_l9Node.f s0_5).bind fun t308 => (if t308 = true then ((spec_l1In.f s0_6 0 1000000).bind fun t309 => (if t309 = true then (some (0, s0_0, s0_1, s0_2, s0_3, s0_4, s0_5, s0_6)) else (some (3, s0_0, s0_1, s0_2, s0_3, s0_4, s0_5, s0_6)))) else (some (3, s0_0, s0_1, s0_2, s0_3, s0_4, s0_5, s0_6)))) else (some (3, s0_0, s0_1, s0_2, s0_3, s0_4, s0_5, s0_6))) = some (r1, r2, r3, r4, r5, r6, r7, r8) := H
              have A18 := Aside0.mk A180
              clear A180
              by_cases c19 : t307 = true
              · subst c19
                have H1 : ((spec_l9Node.f s0_5).bind fun t308 => (if t308 = true then ((spec_l1In.f s0_6 0 1000000).bind fun t309 => (if t309 = true then (some (0, s0_0, s0_1, s0_2, s0_3, s0_4, s0_5, s0_6)) else (some (3, s0_0, s0_1, s0_2, s0_3, s0_4, s0_5, s0_6)))) else (some (3, s0_0, s0_1, s0_2, s0_3, s0_4, s0_5, s0_6)))) = some (r1, r2, r3, r4, r5, r6, r7, r8) := by rw [if_pos rfl] at H; exact H
                clear H
                have H := H1
                clear H1
                replace H := Option.bind_eq_some_iff.mp H
                obtain ⟨t308, A200, H⟩ := H
                replace H : (if t308 = true then ((spec_l1In.f s0_6 0 1000000).bind fun t309 => (if t309 = true then (some (0, s0_0, s0_1, s0_2, s0_3, s0_4, s0_5, s0_6)) else (some (3, s0_0, s0_1, s0_2, s0_3, s0_4, s0_5, s0_6)))) else (some (3, s0_0, s0_1, s0_2, s0_3, s0_4, s0_5, s0_6))) = some (r1, r2, r3, r4, r5, r6, r7, r8) := H
                have A20 := Aside0.mk A200
                clear A200
                by_cases c21 : t308 = true
                · subst c21
                  have H1 : ((spec_l1In.f s0_6 0 1000000).bind fun t309 => (if t309 = true then (some (0, s0_0, s0_1, s0_2, s0_3, s0_4, s0_5, s0_6)) else (some (3, s0_0, s0_1, s0_2, s0_3, s0_4, s0_5, s0_6)))) = some (r1, r2, r3, r4, r5, r6, r7, r8) := by rw [if_pos rfl] at H; exact H
                  clear H
                  have H := H1
                  clear H1
                  replace H := Option.bind_eq_some_iff.mp H
                  obtain ⟨t309, A220, H⟩ := H
                  replace H : (if t309 = true then (some (0, s0_0, s0_1, s0_2, s0_3, s0_4, s0_5, s0_6)) else (some (3, s0_0, s0_1, s0_2, s0_3, s0_4, s0_5, s0_6))) = some (r1, r2, r3, r4, r5, r6, r7, r8) := H
                  have A22 := Aside0.mk A220
                  clear A220
                  by_cases c23 : t309 = true
                  · subst c23
                    have H1 : (some (0, s0_0, s0_1, s0_2, s0_3, s0_4, s0_5, s0_6)) = some (r1, r2, r3, r4, r5, r6, r7, r8) := by rw [if_pos rfl] at H; exact H
                    clear H
                    have H := H1
                    clear H1
                    simp only [Option.some.injEq, Prod.mk.injEq] at H
                    obtain ⟨rfl, rfl, rfl, rfl, rfl, rfl, rfl, rfl⟩ := H
                    obtain ⟨HGz24, hgz24⟩ := HI0.out
                    have hcz24_0 := cellS67_0 HGz24
                    have hcz24_1 := cellS67_1 HGz24
                    have hcz24_2 := cellS67_2 HGz24
                    have hcz24_3 := cellS67_3 HGz24
                    have hcz24_4 := cellS67_4 HGz24
                    have hcz24_5 := cellS67_5 HGz24
                    have hcz24_6 := cellS67_6 HGz24
                    have hfz24_0 := blk_frozen HGz24 0
                    have hfz24_1 := blk_frozen HGz24 1
                    have hfz24_2 := blk_frozen HGz24 2
                    have hfz24_3 := blk_frozen HGz24 3
                    have hfz24_4 := blk_frozen HGz24 4
                    have hfz24_5 := blk_frozen HGz24 5
                    have hfz24_6 := blk_frozen HGz24 6
                    clear HGz24 hgz24
                    go_wp2_with (first | ((with_reducible refine gate_callee (f := 52) rfl ?_); refine goesL_ (some 34) rfl rfl Try.func52 (by kernel_rfl) rfl #[.int .i64 s0_1, .int .i64 0, .int .i64 1000000] rfl (by (try simp only [List.map_toArray, List.map_cons, List.map_nil]); first | done | rfl | (simp only [List.length_drop, List.length_take]; rfl)) ?_; (with_reducible refine (spec_l1In.calls s0_1 0 1000000 true _ A12.out).mono ?_); rintro e w' ⟨rfl, ⟨nd, rfl⟩⟩; refine ⟨_, rfl, ?_⟩) | (go_at_call 69; (with_reducible refine (spec_l9Node.calls s0_2 true _ A14.out).mono ?_); rintro e w' ⟨rfl, ⟨nd, rfl⟩⟩) | (go_at_call 52; (with_reducible refine (spec_l1In.calls s0_3 0 1000000 true _ A16.out).mono ?_); rintro e w' ⟨rfl, ⟨nd, rfl⟩⟩) | (go_at_call 52; (with_reducible refine (spec_l1In.calls s0_4 1 9 true _ A18.out).mono ?_); rintro e w' ⟨rfl, ⟨nd, rfl⟩⟩) | (go_at_call 69; (with_reducible refine (spec_l9Node.calls s0_5 true _ A20.out).mono ?_); rintro e w' ⟨rfl, ⟨nd, rfl⟩⟩) | (go_at_call 52; (with_reducible refine (spec_l1In.calls s0_6 0 1000000 true _ A22.out).mono ?_); rintro e w' ⟨rfl, ⟨nd, rfl⟩⟩))
                    go_ret
                    exact ⟨by first | rfl | (simp [errW_none, errW_some] <;> rfl) | (simp [*, errW_none, errW_some] <;> rfl), by repeat (first | (with_reducible first | exact HI0.out | apply IsS67.alloc | apply IsS67.drewN | apply IsS67.drew | apply IsS67.set_0 | apply IsS67.set_1 | apply IsS67.set_2 | apply IsS67.set_3 | apply IsS67.set_4 | apply IsS67.set_5 | apply IsS67.set_6) | exact HI0.out), by repeat (first | (with_reducible first | exact HB.out | apply below_alloc | apply pw_below_drewN | apply below_drew1 | refine below_set ?_ (IsS67.ge HI0.out)) | exact HB.out), by repeat (first | (with_reducible first | exact HK.out | apply KeepBut.set_ | apply keep_drewN | apply keep_drew | apply keep_alloc) | exact HK.out)⟩
                  · replace c23 := Bool.eq_false_iff.mpr c23
                    subst c23
                    have H1 : (some (3, s0_0, s0_1, s0_2, s0_3, s0_4, s0_5, s0_6)) = some (r1, r2, r3, r4, r5, r6, r7, r8) := by rw [if_neg (show ¬ (false = true) by decide)] at H; exact H
                    clear H
                    have H := H1
                    clear H1
                    simp only [Option.some.injEq, Prod.mk.injEq] at H
                    obtain ⟨rfl, rfl, rfl, rfl, rfl, rfl, rfl, rfl⟩ := H
                    obtain ⟨HGz25, hgz25⟩ := HI0.out
                    have hcz25_0 := cellS67_0 HGz25
                    have hcz25_1 := cellS67_1 HGz25
                    have hcz25_2 := cellS67_2 HGz25
                    have hcz25_3 := cellS67_3 HGz25
                    have hcz25_4 := cellS67_4 HGz25
                    have hcz25_5 := cellS67_5 HGz25
                    have hcz25_6 := cellS67_6 HGz25
                    have hfz25_0 := blk_frozen HGz25 0
                    have hfz25_1 := blk_frozen HGz25 1
                    have hfz25_2 := blk_frozen HGz25 2
                    have hfz25_3 := blk_frozen HGz25 3
                    have hfz25_4 := blk_frozen HGz25 4
                    have hfz25_5 := blk_frozen HGz25 5
                    have hfz25_6 := blk_frozen HGz25 6
                    clear HGz25 hgz25
                    go_wp2_with (first | ((with_reducible refine gate_callee (f := 52) rfl ?_); refine goesL_ (some 34) rfl rfl Try.func52 (by kernel_rfl) rfl #[.int .i64 s0_1, .int .i64 0, .int .i64 1000000] rfl (by (try simp only [List.map_toArray, List.map_cons, List.map_nil]); first | done | rfl | (simp only [List.length_drop, List.length_take]; rfl)) ?_; (with_reducible refine (spec_l1In.calls s0_1 0 1000000 true _ A12.out).mono ?_); rintro e w' ⟨rfl, ⟨nd, rfl⟩⟩; refine ⟨_, rfl, ?_⟩) | (go_at_call 69; (with_reducible refine (spec_l9Node.calls s0_2 true _ A14.out).mono ?_); rintro e w' ⟨rfl, ⟨nd, rfl⟩⟩) | (go_at_call 52; (with_reducible refine (spec_l1In.calls s0_3 0 1000000 true _ A16.out).mono ?_); rintro e w' ⟨rfl, ⟨nd, rfl⟩⟩) | (go_at_call 52; (with_reducible refine (spec_l1In.calls s0_4 1 9 true _ A18.out).mono ?_); rintro e w' ⟨rfl, ⟨nd, rfl⟩⟩) | (go_at_call 69; (with_reducible refine (spec_l9Node.calls s0_5 true _ A20.out).mono ?_); rintro e w' ⟨rfl, ⟨nd, rfl⟩⟩) | (go_at_call 52; (with_reducible refine (spec_l1In.calls s0_6 0 1000000 false _ A22.out).mono ?_); rintro e w' ⟨rfl, ⟨nd, rfl⟩⟩))
                    go_ret
                    exact ⟨by first | rfl | (simp [errW_none, errW_some] <;> rfl) | (simp [*, errW_none, errW_some] <;> rfl), by repeat (first | (with_reducible first | exact HI0.out | apply IsS67.alloc | apply IsS67.drewN | apply IsS67.drew | apply IsS67.set_0 | apply IsS67.set_1 | apply IsS67.set_2 | apply IsS67.set_3 | apply IsS67.set_4 | apply IsS67.set_5 | apply IsS67.set_6) | exact HI0.out), by repeat (first | (with_reducible first | exact HB.out | apply below_alloc | apply pw_below_drewN | apply below_drew1 | refine below_set ?_ (IsS67.ge HI0.out)) | exact HB.out), by repeat (first | (with_reducible first | exact HK.out | apply KeepBut.set_ | apply keep_drewN | apply keep_drew | apply keep_alloc) | exact HK.out)⟩
                · replace c21 := Bool.eq_false_iff.mpr c21
                  subst c21
                  have H1 : (some (3, s0_0, s0_1, s0_2, s0_3, s0_4, s0_5, s0_6)) = some (r1, r2, r3, r4, r5, r6, r7, r8) := by rw [if_neg (show ¬ (false = true) by decide)] at H; exact H
                  clear H
                  have H := H1
                  clear H1
                  simp only [Option.some.injEq, Prod.mk.injEq] at H
                  obtain ⟨rfl, rfl, rfl, rfl, rfl, rfl, rfl, rfl⟩ := H
                  obtain ⟨HGz26, hgz26⟩ := HI0.out
                  have hcz26_0 := cellS67_0 HGz26
                  have hcz26_1 := cellS67_1 HGz26
                  have hcz26_2 := cellS67_2 HGz26
                  have hcz26_3 := cellS67_3 HGz26
                  have hcz26_4 := cellS67_4 HGz26
                  have hcz26_5 := cellS67_5 HGz26
                  have hcz26_6 := cellS67_6 HGz26
                  have hfz26_0 := blk_frozen HGz26 0
                  have hfz26_1 := blk_frozen HGz26 1
                  have hfz26_2 := blk_frozen HGz26 2
                  have hfz26_3 := blk_frozen HGz26 3
                  have hfz26_4 := blk_frozen HGz26 4
                  have hfz26_5 := blk_frozen HGz26 5
                  have hfz26_6 := blk_frozen HGz26 6
                  clear HGz26 hgz26
                  go_wp2_with (first | ((with_reducible refine gate_callee (f := 52) rfl ?_); refine goesL_ (some 34) rfl rfl Try.func52 (by kernel_rfl) rfl #[.int .i64 s0_1, .int .i64 0, .int .i64 1000000] rfl (by (try simp only [List.map_toArray, List.map_cons, List.map_nil]); first | done | rfl | (simp only [List.length_drop, List.length_take]; rfl)) ?_; (with_reducible refine (spec_l1In.calls s0_1 0 1000000 true _ A12.out).mono ?_); rintro e w' ⟨rfl, ⟨nd, rfl⟩⟩; refine ⟨_, rfl, ?_⟩) | (go_at_call 69; (with_reducible refine (spec_l9Node.calls s0_2 true _ A14.out).mono ?_); rintro e w' ⟨rfl, ⟨nd, rfl⟩⟩) | (go_at_call 52; (with_reducible refine (spec_l1In.calls s0_3 0 1000000 true _ A16.out).mono ?_); rintro e w' ⟨rfl, ⟨nd, rfl⟩⟩) | (go_at_call 52; (with_reducible refine (spec_l1In.calls s0_4 1 9 true _ A18.out).mono ?_); rintro e w' ⟨rfl, ⟨nd, rfl⟩⟩) | (go_at_call 69; (with_reducible refine (spec_l9Node.calls s0_5 false _ A20.out).mono ?_); rintro e w' ⟨rfl, ⟨nd, rfl⟩⟩))
                  go_ret
                  exact ⟨by first | rfl | (simp [errW_none, errW_some] <;> rfl) | (simp [*, errW_none, errW_some] <;> rfl), by repeat (first | (with_reducible first | exact HI0.out | apply IsS67.alloc | apply IsS67.drewN | apply IsS67.drew | apply IsS67.set_0 | apply IsS67.set_1 | apply IsS67.set_2 | apply IsS67.set_3 | apply IsS67.set_4 | apply IsS67.set_5 | apply IsS67.set_6) | exact HI0.out), by repeat (first | (with_reducible first | exact HB.out | apply below_alloc | apply pw_below_drewN | apply below_drew1 | refine below_set ?_ (IsS67.ge HI0.out)) | exact HB.out), by repeat (first | (with_reducible first | exact HK.out | apply KeepBut.set_ | apply keep_drewN | apply keep_drew | apply keep_alloc) | exact HK.out)⟩
              · replace c19 := Bool.eq_false_iff.mpr c19
                subst c19
                have H1 : (some (3, s0_0, s0_1, s0_2, s0_3, s0_4, s0_5, s0_6)) = some (r1, r2, r3, r4, r5, r6, r7, r8) := by rw [if_neg (show ¬ (false = true) by decide)] at H; exact H
                clear H
                have H := H1
                clear H1
                simp only [Option.some.injEq, Prod.mk.injEq] at H
                obtain ⟨rfl, rfl, rfl, rfl, rfl, rfl, rfl, rfl⟩ := H
                obtain ⟨HGz27, hgz27⟩ := HI0.out
                have hcz27_0 := cellS67_0 HGz27
                have hcz27_1 := cellS67_1 HGz27
                have hcz27_2 := cellS67_2 HGz27
                have hcz27_3 := cellS67_3 HGz27
                have hcz27_4 := cellS67_4 HGz27
                have hcz27_5 := cellS67_5 HGz27
                have hcz27_6 := cellS67_6 HGz27
                have hfz27_0 := blk_frozen HGz27 0
                have hfz27_1 := blk_frozen HGz27 1
                have hfz27_2 := blk_frozen HGz27 2
                have hfz27_3 := blk_frozen HGz27 3
                have hfz27_4 := blk_frozen HGz27 4
                have hfz27_5 := blk_frozen HGz27 5
                have hfz27_6 := blk_frozen HGz27 6
                clear HGz27 hgz27
                go_wp2_with (first | ((with_reducible refine gate_callee (f := 52) rfl ?_); refine goesL_ (some 34) rfl rfl Try.func52 (by kernel_rfl) rfl #[.int .i64 s0_1, .int .i64 0, .int .i64 1000000] rfl (by (try simp only [List.map_toArray, List.map_cons, List.map_nil]); first | done | rfl | (simp only [List.length_drop, List.length_take]; rfl)) ?_; (with_reducible refine (spec_l1In.calls s0_1 0 1000000 true _ A12.out).mono ?_); rintro e w' ⟨rfl, ⟨nd, rfl⟩⟩; refine ⟨_, rfl, ?_⟩) | (go_at_call 69; (with_reducible refine (spec_l9Node.calls s0_2 true _ A14.out).mono ?_); rintro e w' ⟨rfl, ⟨nd, rfl⟩⟩) | (go_at_call 52; (with_reducible refine (spec_l1In.calls s0_3 0 1000000 true _ A16.out).mono ?_); rintro e w' ⟨rfl, ⟨nd, rfl⟩⟩) | (go_at_call 52; (with_reducible refine (spec_l1In.calls s0_4 1 9 false _ A18.out).mono ?_); rintro e w' ⟨rfl, ⟨nd, rfl⟩⟩))
                go_ret
                exact ⟨by first | rfl | (simp [errW_none, errW_some] <;> rfl) | (simp [*, errW_none, errW_some] <;> rfl), by repeat (first | (with_reducible first | exact HI0.out | apply IsS67.alloc | apply IsS67.drewN | apply IsS67.drew | apply IsS67.set_0 | apply IsS67.set_1 | apply IsS67.set_2 | apply IsS67.set_3 | apply IsS67.set_4 | apply IsS67.set_5 | apply IsS67.set_6) | exact HI0.out), by repeat (first | (with_reducible first | exact HB.out | apply below_alloc | apply pw_below_drewN | apply below_drew1 | refine below_set ?_ (IsS67.ge HI0.out)) | exact HB.out), by repeat (first | (with_reducible first | exact HK.out | apply KeepBut.set_ | apply keep_drewN | apply keep_drew | apply keep_alloc) | exact HK.out)⟩
            · replace c17 := Bool.eq_false_iff.mpr c17
              subst c17
              have H1 : (some (3, s0_0, s0_1, s0_2, s0_3, s0_4, s0_5, s0_6)) = some (r1, r2, r3, r4, r5, r6, r7, r8) := by rw [if_neg (show ¬ (false = true) by decide)] at H; exact H
              clear H
              have H := H1
              clear H1
              simp only [Option.some.injEq, Prod.mk.injEq] at H
              obtain ⟨rfl, rfl, rfl, rfl, rfl, rfl, rfl, rfl⟩ := H
              obtain ⟨HGz28, hgz28⟩ := HI0.out
              have hcz28_0 := cellS67_0 HGz28
              have hcz28_1 := cellS67_1 HGz28
              have hcz28_2 := cellS67_2 HGz28
              have hcz28_3 := cellS67_3 HGz28
              have hcz28_4 := cellS67_4 HGz28
              have hcz28_5 := cellS67_5 HGz28
              have hcz28_6 := cellS67_6 HGz28
              have hfz28_0 := blk_frozen HGz28 0
              have hfz28_1 := blk_frozen HGz28 1
              have hfz28_2 := blk_frozen HGz28 2
              have hfz28_3 := blk_frozen HGz28 3
              have hfz28_4 := blk_frozen HGz28 4
              have hfz28_5 := blk_frozen HGz28 5
              have hfz28_6 := blk_frozen HGz28 6
              clear HGz28 hgz28
              go_wp2_with (first | ((with_reducible refine gate_callee (f := 52) rfl ?_); refine goesL_ (some 34) rfl rfl Try.func52 (by kernel_rfl) rfl #[.int .i64 s0_1, .int .i64 0, .int .i64 1000000] rfl (by (try simp only [List.map_toArray, List.map_cons, List.map_nil]); first | done | rfl | (simp only [List.length_drop, List.length_take]; rfl)) ?_; (with_reducible refine (spec_l1In.calls s0_1 0 1000000 true _ A12.out).mono ?_); rintro e w' ⟨rfl, ⟨nd, rfl⟩⟩; refine ⟨_, rfl, ?_⟩) | (go_at_call 69; (with_reducible refine (spec_l9Node.calls s0_2 true _ A14.out).mono ?_); rintro e w' ⟨rfl, ⟨nd, rfl⟩⟩) | (go_at_call 52; (with_reducible refine (spec_l1In.calls s0_3 0 1000000 false _ A16.out).mono ?_); rintro e w' ⟨rfl, ⟨nd, rfl⟩⟩))
              go_ret
              exact ⟨by first | rfl | (simp [errW_none, errW_some] <;> rfl) | (simp [*, errW_none, errW_some] <;> rfl), by repeat (first | (with_reducible first | exact HI0.out | apply IsS67.alloc | apply IsS67.drewN | apply IsS67.drew | apply IsS67.set_0 | apply IsS67.set_1 | apply IsS67.set_2 | apply IsS67.set_3 | apply IsS67.set_4 | apply IsS67.set_5 | apply IsS67.set_6) | exact HI0.out), by repeat (first | (with_reducible first | exact HB.out | apply below_alloc | apply pw_below_drewN | apply below_drew1 | refine below_set ?_ (IsS67.ge HI0.out)) | exact HB.out), by repeat (first | (with_reducible first | exact HK.out | apply KeepBut.set_ | apply keep_drewN | apply keep_drew | apply keep_alloc) | exact HK.out)⟩
          · replace c15 := Bool.eq_false_iff.mpr c15
            subst c15
            have H1 : (some (3, s0_0, s0_1, s0_2, s0_3, s0_4, s0_5, s0_6)) = some (r1, r2, r3, r4, r5, r6, r7, r8) := by rw [if_neg (show ¬ (false = true) by decide)] at H; exact H
            clear H
            have H := H1
            clear H1
            simp only [Option.some.injEq, Prod.mk.injEq] at H
            obtain ⟨rfl, rfl, rfl, rfl, rfl, rfl, rfl, rfl⟩ := H
            obtain ⟨HGz29, hgz29⟩ := HI0.out
            have hcz29_0 := cellS67_0 HGz29
            have hcz29_1 := cellS67_1 HGz29
            have hcz29_2 := cellS67_2 HGz29
            have hcz29_3 := cellS67_3 HGz29
            have hcz29_4 := cellS67_4 HGz29
            have hcz29_5 := cellS67_5 HGz29
            have hcz29_6 := cellS67_6 HGz29
            have hfz29_0 := blk_frozen HGz29 0
            have hfz29_1 := blk_frozen HGz29 1
            have hfz29_2 := blk_frozen HGz29 2
            have hfz29_3 := blk_frozen HGz29 3
            have hfz29_4 := blk_frozen HGz29 4
            have hfz29_5 := blk_frozen HGz29 5
            have hfz29_6 := blk_frozen HGz29 6
            clear HGz29 hgz29
            go_wp2_with (first | ((with_reducible refine gate_callee (f := 52) rfl ?_); refine goesL_ (some 34) rfl rfl Try.func52 (by kernel_rfl) rfl #[.int .i64 s0_1, .int .i64 0, .int .i64 1000000] rfl (by (try simp only [List.map_toArray, List.map_cons, List.map_nil]); first | done | rfl | (simp only [List.length_drop, List.length_take]; rfl)) ?_; (with_reducible refine (spec_l1In.calls s0_1 0 1000000 true _ A12.out).mono ?_); rintro e w' ⟨rfl, ⟨nd, rfl⟩⟩; refine ⟨_, rfl, ?_⟩) | (go_at_call 69; (with_reducible refine (spec_l9Node.calls s0_2 false _ A14.out).mono ?_); rintro e w' ⟨rfl, ⟨nd, rfl⟩⟩))
            go_ret
            exact ⟨by first | rfl | (simp [errW_none, errW_some] <;> rfl) | (simp [*, errW_none, errW_some] <;> rfl), by repeat (first | (with_reducible first | exact HI0.out | apply IsS67.alloc | apply IsS67.drewN | apply IsS67.drew | apply IsS67.set_0 | apply IsS67.set_1 | apply IsS67.set_2 | apply IsS67.set_3 | apply IsS67.set_4 | apply IsS67.set_5 | apply IsS67.set_6) | exact HI0.out), by repeat (first | (with_reducible first | exact HB.out | apply below_alloc | apply pw_below_drewN | apply below_drew1 | refine below_set ?_ (IsS67.ge HI0.out)) | exact HB.out), by repeat (first | (with_reducible first | exact HK.out | apply KeepBut.set_ | apply keep_drewN | apply keep_drew | apply keep_alloc) | exact HK.out)⟩
        · replace c13 := Bool.eq_false_iff.mpr c13
          subst c13
          have H1 : (some (3, s0_0, s0_1, s0_2, s0_3, s0_4, s0_5, s0_6)) = some (r1, r2, r3, r4, r5, r6, r7, r8) := by rw [if_neg (show ¬ (false = true) by decide)] at H; exact H
          clear H
          have H := H1
          clear H1
          simp only [Option.some.injEq, Prod.mk.injEq] at H
          obtain ⟨rfl, rfl, rfl, rfl, rfl, rfl, rfl, rfl⟩ := H
          obtain ⟨HGz30, hgz30⟩ := HI0.out
          have hcz30_0 := cellS67_0 HGz30
          have hcz30_1 := cellS67_1 HGz30
          have hcz30_2 := cellS67_2 HGz30
          have hcz30_3 := cellS67_3 HGz30
          have hcz30_4 := cellS67_4 HGz30
          have hcz30_5 := cellS67_5 HGz30
          have hcz30_6 := cellS67_6 HGz30
          have hfz30_0 := blk_frozen HGz30 0
          have hfz30_1 := blk_frozen HGz30 1
          have hfz30_2 := blk_frozen HGz30 2
          have hfz30_3 := blk_frozen HGz30 3
          have hfz30_4 := blk_frozen HGz30 4
          have hfz30_5 := blk_frozen HGz30 5
          have hfz30_6 := blk_frozen HGz30 6
          clear HGz30 hgz30
          go_wp2_with (first | ((with_reducible refine gate_callee (f := 52) rfl ?_); refine goesL_ (some 34) rfl rfl Try.func52 (by kernel_rfl) rfl #[.int .i64 s0_1, .int .i64 0, .int .i64 1000000] rfl (by (try simp only [List.map_toArray, List.map_cons, List.map_nil]); first | done | rfl | (simp only [List.length_drop, List.length_take]; rfl)) ?_; (with_reducible refine (spec_l1In.calls s0_1 0 1000000 false _ A12.out).mono ?_); rintro e w' ⟨rfl, ⟨nd, rfl⟩⟩; refine ⟨_, rfl, ?_⟩))
          go_ret
          exact ⟨by first | rfl | (simp [errW_none, errW_some] <;> rfl) | (simp [*, errW_none, errW_some] <;> rfl), by repeat (first | (with_reducible first | exact HI0.out | apply IsS67.alloc | apply IsS67.drewN | apply IsS67.drew | apply IsS67.set_0 | apply IsS67.set_1 | apply IsS67.set_2 | apply IsS67.set_3 | apply IsS67.set_4 | apply IsS67.set_5 | apply IsS67.set_6) | exact HI0.out), by repeat (first | (with_reducible first | exact HB.out | apply below_alloc | apply pw_below_drewN | apply below_drew1 | refine below_set ?_ (IsS67.ge HI0.out)) | exact HB.out), by repeat (first | (with_reducible first | exact HK.out | apply KeepBut.set_ | apply keep_drewN | apply keep_drew | apply keep_alloc) | exact HK.out)⟩

def At67 (w0 W : World) (p : Addr) (f0 : Int) (f1 : Int) (f2 : Int) (f3 : Int) (f4 : Int) (f5 : Int) (f6 : Int) : Prop := W.cell? p = some (.int .i64 f0) ∧ W.cell? ⟨p.block, p.off + 1, none⟩ = some (.int .i64 f1) ∧ W.cell? ⟨p.block, p.off + 2, none⟩ = some (.int .i64 f2) ∧ W.cell? ⟨p.block, p.off + 3, none⟩ = some (.int .i64 f3) ∧ W.cell? ⟨p.block, p.off + 4, none⟩ = some (.int .i64 f4) ∧ W.cell? ⟨p.block, p.off + 5, none⟩ = some (.int .i64 f5) ∧ W.cell? ⟨p.block, p.off + 6, none⟩ = some (.int .i64 f6)
theorem cellAt67_0 {w0 W : World} {p : Addr} {f0 : Int} {f1 : Int} {f2 : Int} {f3 : Int} {f4 : Int} {f5 : Int} {f6 : Int} (h : At67 w0 W p f0 f1 f2 f3 f4 f5 f6) : W.cell? p = some (.int .i64 f0) := h.1
theorem cellAt67_1 {w0 W : World} {p : Addr} {f0 : Int} {f1 : Int} {f2 : Int} {f3 : Int} {f4 : Int} {f5 : Int} {f6 : Int} (h : At67 w0 W p f0 f1 f2 f3 f4 f5 f6) : W.cell? ⟨p.block, p.off + 1, none⟩ = some (.int .i64 f1) := h.2.1
theorem cellAt67_2 {w0 W : World} {p : Addr} {f0 : Int} {f1 : Int} {f2 : Int} {f3 : Int} {f4 : Int} {f5 : Int} {f6 : Int} (h : At67 w0 W p f0 f1 f2 f3 f4 f5 f6) : W.cell? ⟨p.block, p.off + 2, none⟩ = some (.int .i64 f2) := h.2.2.1
theorem cellAt67_3 {w0 W : World} {p : Addr} {f0 : Int} {f1 : Int} {f2 : Int} {f3 : Int} {f4 : Int} {f5 : Int} {f6 : Int} (h : At67 w0 W p f0 f1 f2 f3 f4 f5 f6) : W.cell? ⟨p.block, p.off + 3, none⟩ = some (.int .i64 f3) := h.2.2.2.1
theorem cellAt67_4 {w0 W : World} {p : Addr} {f0 : Int} {f1 : Int} {f2 : Int} {f3 : Int} {f4 : Int} {f5 : Int} {f6 : Int} (h : At67 w0 W p f0 f1 f2 f3 f4 f5 f6) : W.cell? ⟨p.block, p.off + 4, none⟩ = some (.int .i64 f4) := h.2.2.2.2.1
theorem cellAt67_5 {w0 W : World} {p : Addr} {f0 : Int} {f1 : Int} {f2 : Int} {f3 : Int} {f4 : Int} {f5 : Int} {f6 : Int} (h : At67 w0 W p f0 f1 f2 f3 f4 f5 f6) : W.cell? ⟨p.block, p.off + 5, none⟩ = some (.int .i64 f5) := h.2.2.2.2.2.1
theorem cellAt67_6 {w0 W : World} {p : Addr} {f0 : Int} {f1 : Int} {f2 : Int} {f3 : Int} {f4 : Int} {f5 : Int} {f6 : Int} (h : At67 w0 W p f0 f1 f2 f3 f4 f5 f6) : W.cell? ⟨p.block, p.off + 6, none⟩ = some (.int .i64 f6) := h.2.2.2.2.2.2
theorem At67.below {w0 W W' : World} {p : Addr} {f0 : Int} {f1 : Int} {f2 : Int} {f3 : Int} {f4 : Int} {f5 : Int} {f6 : Int} (h : At67 w0 W p f0 f1 f2 f3 f4 f5 f6) (hB : Below W.heap.size W W') : At67 w0 W' p f0 f1 f2 f3 f4 f5 f6 := ⟨(hB.cell (World.block_lt_of_cell? W _ h.1)).trans h.1, (hB.cell (World.block_lt_of_cell? W _ h.2.1)).trans h.2.1, (hB.cell (World.block_lt_of_cell? W _ h.2.2.1)).trans h.2.2.1, (hB.cell (World.block_lt_of_cell? W _ h.2.2.2.1)).trans h.2.2.2.1, (hB.cell (World.block_lt_of_cell? W _ h.2.2.2.2.1)).trans h.2.2.2.2.1, (hB.cell (World.block_lt_of_cell? W _ h.2.2.2.2.2.1)).trans h.2.2.2.2.2.1, (hB.cell (World.block_lt_of_cell? W _ h.2.2.2.2.2.2)).trans h.2.2.2.2.2.2⟩
theorem At67.alloc {w0 W : World} {p : Addr} {f0 : Int} {f1 : Int} {f2 : Int} {f3 : Int} {f4 : Int} {f5 : Int} {f6 : Int} (h : At67 w0 W p f0 f1 f2 f3 f4 f5 f6) (o : Obj) : At67 w0 (W.alloc o) p f0 f1 f2 f3 f4 f5 f6 := h.below (below_alloc (Below.refl _ _) o)
theorem At67.drewN {w0 W : World} {p : Addr} {f0 : Int} {f1 : Int} {f2 : Int} {f3 : Int} {f4 : Int} {f5 : Int} {f6 : Int} (h : At67 w0 W p f0 f1 f2 f3 f4 f5 f6) (m : Nat) : At67 w0 (W.drewN m) p f0 f1 f2 f3 f4 f5 f6 := h
theorem At67.drew {w0 W : World} {p : Addr} {f0 : Int} {f1 : Int} {f2 : Int} {f3 : Int} {f4 : Int} {f5 : Int} {f6 : Int} (h : At67 w0 W p f0 f1 f2 f3 f4 f5 f6) : At67 w0 W.drew p f0 f1 f2 f3 f4 f5 f6 := h
def KeepAt (_ _ : World) (_ : Addr) (_ : Option Nat) : Prop := True
set_option maxHeartbeats 8000000 in
set_option maxRecDepth 100000 in
theorem spec_l9Wait.callsAt (k : Nat) (p : Addr) (s0_0 : Int) (s0_1 : Int) (s0_2 : Int) (s0_3 : Int) (s0_4 : Int) (s0_5 : Int) (s0_6 : Int) (r1 : Int) (r2 : Int) (r3 : Int) (r4 : Int) (r5 : Int) (r6 : Int) (r7 : Int) (r8 : Int) (w0 w : World) (hI : At67 w0 w p s0_0 s0_1 s0_2 s0_3 s0_4 s0_5 s0_6) (hB : Below w0.heap.size w0 w) (h : spec_l9Wait.f k s0_0 s0_1 s0_2 s0_3 s0_4 s0_5 s0_6 = some (r1, r2, r3, r4, r5, r6, r7, r8)) :
    Calls Try.prog 56 #[.pointer (some p)] w fun e w' => e = .returned (.int .i64 r1) ∧ At67 w0 w' p r2 r3 r4 r5 r6 r7 r8 ∧ Below w0.heap.size w0 w' ∧ KeepAt w w' p none := by
  have HI0 := Aside0.mk hI
  have HK := Aside0.mk (show KeepAt w w p none from trivial)
  have HL := Aside0.mk hB.size
  clear hI
  have HW0 := Aside0.mk hB.size
  have HB := Aside0.mk hB
  clear hB
  have H : ((spec_l1In.f s0_0 1 4).bind fun t303 => (if t303 = true then (if s0_0 = 4 then (spec_l9Wait.j0 k false s0_0 s0_1 s0_2 s0_3 s0_4 s0_5 s0_6) else (if s0_5 = 0 then (spec_l9Wait.j0 k (s0_6 != 0) s0_0 s0_1 s0_2 s0_3 s0_4 s0_5 s0_6) else (spec_l9Wait.j0 k true s0_0 s0_1 s0_2 s0_3 s0_4 s0_5 s0_6))) else (spec_l9Wait.j0 k true s0_0 s0_1 s0_2 s0_3 s0_4 s0_5 s0_6))) = some (r1, r2, r3, r4, r5, r6, r7, r8) := h
  clear h
  have HC2 := Aside0.mk H
  clear H
  go_enter Try.func56, Try.ntmps56
  go_upto_region 1 with (fail)
  go_cut [29] (fun v29 wc => ∃ (kq : Nat) (x29_1 : Bool), v29 = .bool x29_1 ∧ Aside0 (spec_l9Wait.j0 kq x29_1 s0_0 s0_1 s0_2 s0_3 s0_4 s0_5 s0_6 = some (r1, r2, r3, r4, r5, r6, r7, r8)) ∧ Aside0 (kq ≤ k) ∧ Aside0 (At67 w0 wc p s0_0 s0_1 s0_2 s0_3 s0_4 s0_5 s0_6) ∧ Aside0 (KeepAt w wc p none) ∧ Aside0 (Below w0.heap.size w0 wc))
  case first =>
    have H := HC2.out
    clear HC2
    replace H := Option.bind_eq_some_iff.mp H
    obtain ⟨t303, A30, H⟩ := H
    replace H : (if t303 = true then (if s0_0 = 4 then (spec_l9Wait.j0 k false s0_0 s0_1 s0_2 s0_3 s0_4 s0_5 s0_6) else (if s0_5 = 0 then (spec_l9Wait.j0 k (s0_6 != 0) s0_0 s0_1 s0_2 s0_3 s0_4 s0_5 s0_6) else (spec_l9Wait.j0 k true s0_0 s0_1 s0_2 s0_3 s0_4 s0_5 s0_6))) else (spec_l9Wait.j0 k true s0_0 s0_1 s0_2 s0_3 s0_4 s0_5 s0_6)) = some (r1, r2, r3, r4, r5, r6, r7, r8) := H
    have A3 := Aside0.mk A30
    clear A30
    by_cases c4 : t303 = true
    · subst c4
      have H1 : (if s0_0 = 4 then (spec_l9Wait.j0 k false s0_0 s0_1 s0_2 s0_3 s0_4 s0_5 s0_6) else (if s0_5 = 0 then (spec_l9Wait.j0 k (s0_6 != 0) s0_0 s0_1 s0_2 s0_3 s0_4 s0_5 s0_6) else (spec_l9Wait.j0 k true s0_0 s0_1 s0_2 s0_3 s0_4 s0_5 s0_6))) = some (r1, r2, r3, r4, r5, r6, r7, r8) := by rw [if_pos rfl] at H; exact H
      clear H
      have H := H1
      clear H1
      by_cases c5 : s0_0 = 4
      · rw [if_pos c5] at H
        have c5b0 : (s0_0 == 4) = true := beq_iff_eq.mpr c5
        have c5b1 : (s0_0 != 4) = false := bne_eq_false_iff_eq.mpr c5
        clear c5
        (first | rw [c5b0] | (simp only [i64_w, i32_w]; rw [c5b0]) | skip)
        have H' := Aside0.mk H
        clear H
        have HGz6 := HI0.out
        have hcz6_0 := cellAt67_0 HGz6
        have hcz6_1 := cellAt67_1 HGz6
        have hcz6_2 := cellAt67_2 HGz6
        have hcz6_3 := cellAt67_3 HGz6
        have hcz6_4 := cellAt67_4 HGz6
        have hcz6_5 := cellAt67_5 HGz6
        have hcz6_6 := cellAt67_6 HGz6
        clear HGz6
        go_wp2_with (first | ((with_reducible refine gate_callee (f := 52) rfl ?_); refine goesL_ (some 7) rfl rfl Try.func52 (by kernel_rfl) rfl #[.int .i64 s0_0, .int .i64 1, .int .i64 4] rfl (by (try simp only [List.map_toArray, List.map_cons, List.map_nil]); first | done | rfl | (simp only [List.length_drop, List.length_take]; rfl)) ?_; (with_reducible refine (spec_l1In.calls s0_0 1 4 true _ A3.out).mono ?_); rintro e w' ⟨rfl, ⟨nd, rfl⟩⟩; refine ⟨_, rfl, ?_⟩))
        go_meet
        case rel => exact ⟨_, (false), (by first | rfl | (simp; done) | (simp [*]; done)), H', ⟨by first | omega | exact Nat.le_refl _⟩, ⟨by repeat (first | (with_reducible first | exact HI0.out | apply At67.alloc | apply At67.drewN | apply At67.drew | apply At67.set_0 | apply At67.set_1 | apply At67.set_2 | apply At67.set_3 | apply At67.set_4 | apply At67.set_5 | apply At67.set_6) | exact HI0.out)⟩, ⟨by repeat (first | (with_reducible first | exact HK.out | apply KeepBut.set_ | apply keep_drewN | apply keep_drew | apply keep_alloc) | exact HK.out)⟩, ⟨by repeat (first | (with_reducible first | exact HB.out | apply below_alloc | apply pw_below_drewN | apply below_drew1 | refine below_set ?_ (At67.ge HI0.out)) | exact HB.out)⟩⟩
      · rw [if_neg c5] at H
        have c5b0 : (s0_0 == 4) = false := beq_eq_false_iff_ne.mpr c5
        have c5b1 : (s0_0 != 4) = true := bne_iff_ne.mpr c5
        (first | rw [c5b0] | (simp only [i64_w, i32_w]; rw [c5b0]) | skip)
        by_cases c7 : s0_5 = 0
        · rw [if_pos c7] at H
          have c7b0 : (s0_5 == 0) = true := beq_iff_eq.mpr c7
          have c7b1 : (s0_5 != 0) = false := bne_eq_false_iff_eq.mpr c7
          clear c7
          have H' := Aside0.mk H
          clear H
          have HGz8 := HI0.out
          have hcz8_0 := cellAt67_0 HGz8
          have hcz8_1 := cellAt67_1 HGz8
          have hcz8_2 := cellAt67_2 HGz8
          have hcz8_3 := cellAt67_3 HGz8
          have hcz8_4 := cellAt67_4 HGz8
          have hcz8_5 := cellAt67_5 HGz8
          have hcz8_6 := cellAt67_6 HGz8
          clear HGz8
          go_wp2_with (first | ((with_reducible refine gate_callee (f := 52) rfl ?_); refine goesL_ (some 7) rfl rfl Try.func52 (by kernel_rfl) rfl #[.int .i64 s0_0, .int .i64 1, .int .i64 4] rfl (by (try simp only [List.map_toArray, List.map_cons, List.map_nil]); first | done | rfl | (simp only [List.length_drop, List.length_take]; rfl)) ?_; (with_reducible refine (spec_l1In.calls s0_0 1 4 true _ A3.out).mono ?_); rintro e w' ⟨rfl, ⟨nd, rfl⟩⟩; refine ⟨_, rfl, ?_⟩))
          go_meet
          case rel => exact ⟨_, ((s0_6 != 0)), (by first | rfl | (simp; done) | (simp [*]; done)), H', ⟨by first | omega | exact Nat.le_refl _⟩, ⟨by repeat (first | (with_reducible first | exact HI0.out | apply At67.alloc | apply At67.drewN | apply At67.drew | apply At67.set_0 | apply At67.set_1 | apply At67.set_2 | apply At67.set_3 | apply At67.set_4 | apply At67.set_5 | apply At67.set_6) | exact HI0.out)⟩, ⟨by repeat (first | (with_reducible first | exact HK.out | apply KeepBut.set_ | apply keep_drewN | apply keep_drew | apply keep_alloc) | exact HK.out)⟩, ⟨by repeat (first | (with_reducible first | exact HB.out | apply below_alloc | apply pw_below_drewN | apply below_drew1 | refine below_set ?_ (At67.ge HI0.out)) | exact HB.out)⟩⟩
        · rw [if_neg c7] at H
          have c7b0 : (s0_5 == 0) = false := beq_eq_false_iff_ne.mpr c7
          have c7b1 : (s0_5 != 0) = true := bne_iff_ne.mpr c7
          have H' := Aside0.mk H
          clear H
          have HGz9 := HI0.out
          have hcz9_0 := cellAt67_0 HGz9
          have hcz9_1 := cellAt67_1 HGz9
          have hcz9_2 := cellAt67_2 HGz9
          have hcz9_3 := cellAt67_3 HGz9
          have hcz9_4 := cellAt67_4 HGz9
          have hcz9_5 := cellAt67_5 HGz9
          have hcz9_6 := cellAt67_6 HGz9
          clear HGz9
          go_wp2_with (first | ((with_reducible refine gate_callee (f := 52) rfl ?_); refine goesL_ (some 7) rfl rfl Try.func52 (by kernel_rfl) rfl #[.int .i64 s0_0, .int .i64 1, .int .i64 4] rfl (by (try simp only [List.map_toArray, List.map_cons, List.map_nil]); first | done | rfl | (simp only [List.length_drop, List.length_take]; rfl)) ?_; (with_reducible refine (spec_l1In.calls s0_0 1 4 true _ A3.out).mono ?_); rintro e w' ⟨rfl, ⟨nd, rfl⟩⟩; refine ⟨_, rfl, ?_⟩))
          go_meet
          case rel => exact ⟨_, (true), (by first | rfl | (simp; done) | (simp [*]; done)), H', ⟨by first | omega | exact Nat.le_refl _⟩, ⟨by repeat (first | (with_reducible first | exact HI0.out | apply At67.alloc | apply At67.drewN | apply At67.drew | apply At67.set_0 | apply At67.set_1 | apply At67.set_2 | apply At67.set_3 | apply At67.set_4 | apply At67.set_5 | apply At67.set_6) | exact HI0.out)⟩, ⟨by repeat (first | (with_reducible first | exact HK.out | apply KeepBut.set_ | apply keep_drewN | apply keep_drew | apply keep_alloc) | exact HK.out)⟩, ⟨by repeat (first | (with_reducible first | exact HB.out | apply below_alloc | apply pw_below_drewN | apply below_drew1 | refine below_set ?_ (At67.ge HI0.out)) | exact HB.out)⟩⟩
    · replace c4 := Bool.eq_false_iff.mpr c4
      subst c4
      have H1 : (spec_l9Wait.j0 k true s0_0 s0_1 s0_2 s0_3 s0_4 s0_5 s0_6) = some (r1, r2, r3, r4, r5, r6, r7, r8) := by rw [if_neg (show ¬ (false = true) by decide)] at H; exact H
      clear H
      have H := H1
      clear H1
      have H' := Aside0.mk H
      clear H
      have HGz10 := HI0.out
      have hcz10_0 := cellAt67_0 HGz10
      have hcz10_1 := cellAt67_1 HGz10
      have hcz10_2 := cellAt67_2 HGz10
      have hcz10_3 := cellAt67_3 HGz10
      have hcz10_4 := cellAt67_4 HGz10
      have hcz10_5 := cellAt67_5 HGz10
      have hcz10_6 := cellAt67_6 HGz10
      clear HGz10
      go_wp2_with (first | ((with_reducible refine gate_callee (f := 52) rfl ?_); refine goesL_ (some 7) rfl rfl Try.func52 (by kernel_rfl) rfl #[.int .i64 s0_0, .int .i64 1, .int .i64 4] rfl (by (try simp only [List.map_toArray, List.map_cons, List.map_nil]); first | done | rfl | (simp only [List.length_drop, List.length_take]; rfl)) ?_; (with_reducible refine (spec_l1In.calls s0_0 1 4 false _ A3.out).mono ?_); rintro e w' ⟨rfl, ⟨nd, rfl⟩⟩; refine ⟨_, rfl, ?_⟩))
      go_meet
      case rel => exact ⟨_, (true), (by first | rfl | (simp; done) | (simp [*]; done)), H', ⟨by first | omega | exact Nat.le_refl _⟩, ⟨by repeat (first | (with_reducible first | exact HI0.out | apply At67.alloc | apply At67.drewN | apply At67.drew | apply At67.set_0 | apply At67.set_1 | apply At67.set_2 | apply At67.set_3 | apply At67.set_4 | apply At67.set_5 | apply At67.set_6) | exact HI0.out)⟩, ⟨by repeat (first | (with_reducible first | exact HK.out | apply KeepBut.set_ | apply keep_drewN | apply keep_drew | apply keep_alloc) | exact HK.out)⟩, ⟨by repeat (first | (with_reducible first | exact HB.out | apply below_alloc | apply pw_below_drewN | apply below_drew1 | refine below_set ?_ (At67.ge HI0.out)) | exact HB.out)⟩⟩
  case rest =>
    clear HC2
    try clear p2
    try clear c4
    try clear c5
    try clear c5b0
    try clear c5b1
    try clear c7
    try clear c7b0
    try clear c7b1
    try clear hcz10_0
    try clear hcz10_1
    try clear hcz10_2
    try clear hcz10_3
    try clear hcz10_4
    try clear hcz10_5
    try clear hcz10_6
    try clear hcz6_0
    try clear hcz6_1
    try clear hcz6_2
    try clear hcz6_3
    try clear hcz6_4
    try clear hcz6_5
    try clear hcz6_6
    try clear hcz8_0
    try clear hcz8_1
    try clear hcz8_2
    try clear hcz8_3
    try clear hcz8_4
    try clear hcz8_5
    try clear hcz8_6
    try clear hcz9_0
    try clear hcz9_1
    try clear hcz9_2
    try clear hcz9_3
    try clear hcz9_4
    try clear hcz9_5
    try clear hcz9_6
    try clear hfz10_0
    try clear hfz10_1
    try clear hfz10_2
    try clear hfz10_3
    try clear hfz10_4
    try clear hfz10_5
    try clear hfz10_6
    try clear hfz6_0
    try clear hfz6_1
    try clear hfz6_2
    try clear hfz6_3
    try clear hfz6_4
    try clear hfz6_5
    try clear hfz6_6
    try clear hfz8_0
    try clear hfz8_1
    try clear hfz8_2
    try clear hfz8_3
    try clear hfz8_4
    try clear hfz8_5
    try clear hfz8_6
    try clear hfz9_0
    try clear hfz9_1
    try clear hfz9_2
    try clear hfz9_3
    try clear hfz9_4
    try clear hfz9_5
    try clear hfz9_6
    obtain ⟨kq, x29_1, rfl, HA, HJ1, HI0, HK, HB⟩ := hcut
    cases kq with
    | zero => exact absurd HA.out (by simp [spec_l9Wait.j0])
    | succ kj1 =>
      have H := HA.out
      clear HA
      simp only [spec_l9Wait.j0] at H
      by_cases c11 : x29_1 = true
      · subst c11
        have H1 : (some (1, s0_0, s0_1, s0_2, s0_3, s0_4, s0_5, s0_6)) = some (r1, r2, r3, r4, r5, r6, r7, r8) := by rw [if_pos rfl] at H; exact H
        clear H
        have H := H1
        clear H1
        simp only [Option.some.injEq, Prod.mk.injEq] at H
        obtain ⟨rfl, rfl, rfl, rfl, rfl, rfl, rfl, rfl⟩ := H
        go_wp2
        go_ret
        exact ⟨by first | rfl | (simp [errW_none, errW_some] <;> rfl) | (simp [*, errW_none, errW_some] <;> rfl), by repeat (first | (with_reducible first | exact HI0.out | apply At67.alloc | apply At67.drewN | apply At67.drew | apply At67.set_0 | apply At67.set_1 | apply At67.set_2 | apply At67.set_3 | apply At67.set_4 | apply At67.set_5 | apply At67.set_6) | exact HI0.out), by repeat (first | (with_reducible first | exact HB.out | apply below_alloc | apply pw_below_drewN | apply below_drew1 | refine below_set ?_ (At67.ge HI0.out)) | exact HB.out), by repeat (first | (with_reducible first | exact HK.out | apply KeepBut.set_ | apply keep_drewN | apply keep_drew | apply keep_alloc) | exact HK.out)⟩
      · replace c11 := Bool.eq_false_iff.mpr c11
        subst c11
        have H1 : ((spec_l1In.f s0_1 0 1000000).bind fun t304 => (if t304 = true then ((spec_l9Node.f s0_2).bind fun t305 => (if t305 = true then ((spec_l1In.f s0_3 0 1000000).bind fun t306 => (if t306 = true then ((spec_l1In.f s0_4 1 9).bind fun t307 => (if t307 = true then ((spec_l9Node.f s0_5).bind fun t308 => (if t308 = true then ((spec_l1In.f s0_6 0 1000000).bind fun t309 => (if t309 = true then (some (0, s0_0, s0_1, s0_2, s0_3, s0_4, s0_5, s0_6)) else (some (3, s0_0, s0_1, s0_2, s0_3, s0_4, s0_5, s0_6)))) else (some (3, s0_0, s0_1, s0_2, s0_3, s0_4, s0_5, s0_6)))) else (some (3, s0_0, s0_1, s0_2, s0_3, s0_4, s0_5, s0_6)))) else (some (3, s0_0, s0_1, s0_2, s0_3, s0_4, s0_5, s0_6)))) else (some (3, s0_0, s0_1, s0_2, s0_3, s0_4, s0_5, s0_6)))) else (some (3, s0_0, s0_1, s0_2, s0_3, s0_4, s0_5, s0_6)))) = some (r1, r2, r3, r4, r5, r6, r7, r8) := by rw [if_neg (show ¬ (false = true) by decide)] at H; exact H
        clear H
        have H := H1
        clear H1
        replace H := Option.bind_eq_some_iff.mp H
        obtain ⟨t304, A120, H⟩ := H
        replace H : (if t304 = true then ((spec_l9Node.f s0_2).bind fun t305 => (if t305 = true then ((spec_l1In.f s0_3 0 1000000).bind fun t306 => (if t306 = true then ((spec_l1In.f s0_4 1 9).bind fun t307 => (if t307 = true then ((spec_l9Node.f s0_5).bind fun t308 => (if t308 = true then ((spec_l1In.f s0_6 0 1000000).bind fun t309 => (if t309 = true then (some (0, s0_0, s0_1, s0_2, s0_3, s0_4, s0_5, s0_6)) else (some (3, s0_0, s0_1, s0_2, s0_3, s0_4, s0_5, s0_6)))) else (some (3, s0_0, s0_1, s0_2, s0_3, s0_4, s0_5, s0_6)))) else (some (3, s0_0, s0_1, s0_2, s0_3, s0_4, s0_5, s0_6)))) else (some (3, s0_0, s0_1, s0_2, s0_3, s0_4, s0_5, s0_6)))) else (some (3, s0_0, s0_1, s0_2, s0_3, s0_4, s0_5, s0_6)))) else (some (3, s0_0, s0_1, s0_2, s0_3, s0_4, s0_5, s0_6))) = some (r1, r2, r3, r4, r5, r6, r7, r8) := H
        have A12 := Aside0.mk A120
        clear A120
        by_cases c13 : t304 = true
        · subst c13
          have H1 : ((spec_l9Node.f s0_2).bind fun t305 => (if t305 = true then ((spec_l1In.f s0_3 0 1000000).bind fun t306 => (if t306 = true then ((spec_l1In.f s0_4 1 9).bind fun t307 => (if t307 = true then ((spec_l9Node.f s0_5).bind fun t308 => (if t308 = true then ((spec_l1In.f s0_6 0 1000000).bind fun t309 => (if t309 = true then (some (0, s0_0, s0_1, s0_2, s0_3, s0_4, s0_5, s0_6)) else (some (3, s0_0, s0_1, s0_2, s0_3, s0_4, s0_5, s0_6)))) else (some (3, s0_0, s0_1, s0_2, s0_3, s0_4, s0_5, s0_6)))) else (some (3, s0_0, s0_1, s0_2, s0_3, s0_4, s0_5, s0_6)))) else (some (3, s0_0, s0_1, s0_2, s0_3, s0_4, s0_5, s0_6)))) else (some (3, s0_0, s0_1, s0_2, s0_3, s0_4, s0_5, s0_6)))) = some (r1, r2, r3, r4, r5, r6, r7, r8) := by rw [if_pos rfl] at H; exact H
          clear H
          have H := H1
          clear H1
          replace H := Option.bind_eq_some_iff.mp H
          obtain ⟨t305, A140, H⟩ := H
          replace H : (if t305 = true then ((spec_l1In.f s0_3 0 1000000).bind fun t306 => (if t306 = true then ((spec_l1In.f s0_4 1 9).bind fun t307 => (if t307 = true then ((spec_l9Node.f s0_5).bind fun t308 => (if t308 = true then ((spec_l1In.f s0_6 0 1000000).bind fun t309 => (if t309 = true then (some (0, s0_0, s0_1, s0_2, s0_3, s0_4, s0_5, s0_6)) else (some (3, s0_0, s0_1, s0_2, s0_3, s0_4, s0_5, s0_6)))) else (some (3, s0_0, s0_1, s0_2, s0_3, s0_4, s0_5, s0_6)))) else (some (3, s0_0, s0_1, s0_2, s0_3, s0_4, s0_5, s0_6)))) else (some (3, s0_0, s0_1, s0_2, s0_3, s0_4, s0_5, s0_6)))) else (some (3, s0_0, s0_1, s0_2, s0_3, s0_4, s0_5, s0_6))) = some (r1, r2, r3, r4, r5, r6, r7, r8) := H
          have A14 := Aside0.mk A140
          clear A140
          by_cases c15 : t305 = true
          · subst c15
            have H1 : ((spec_l1In.f s0_3 0 1000000).bind fun t306 => (if t306 = true then ((spec_l1In.f s0_4 1 9).bind fun t307 => (if t307 = true then ((spec_l9Node.f s0_5).bind fun t308 => (if t308 = true then ((spec_l1In.f s0_6 0 1000000).bind fun t309 => (if t309 = true then (some (0, s0_0, s0_1, s0_2, s0_3, s0_4, s0_5, s0_6)) else (some (3, s0_0, s0_1, s0_2, s0_3, s0_4, s0_5, s0_6)))) else (some (3, s0_0, s0_1, s0_2, s0_3, s0_4, s0_5, s0_6)))) else (some (3, s0_0, s0_1, s0_2, s0_3, s0_4, s0_5, s0_6)))) else (some (3, s0_0, s0_1, s0_2, s0_3, s0_4, s0_5, s0_6)))) = some (r1, r2, r3, r4, r5, r6, r7, r8) := by rw [if_pos rfl] at H; exact H
            clear H
            have H := H1
            clear H1
            replace H := Option.bind_eq_some_iff.mp H
            obtain ⟨t306, A160, H⟩ := H
            replace H : (if t306 = true then ((spec_l1In.f s0_4 1 9).bind fun t307 => (if t307 = true then ((spec_l9Node.f s0_5).bind fun t308 => (if t308 = true then ((spec_l1In.f s0_6 0 1000000).bind fun t309 => (if t309 = true then (some (0, s0_0, s0_1, s0_2, s0_3, s0_4, s0_5, s0_6)) else (some (3, s0_0, s0_1, s0_2, s0_3, s0_4, s0_5, s0_6)))) else (some (3, s0_0, s0_1, s0_2, s0_3, s0_4, s0_5, s0_6)))) else (some (3, s0_0, s0_1, s0_2, s0_3, s0_4, s0_5, s0_6)))) else (some (3, s0_0, s0_1, s0_2, s0_3, s0_4, s0_5, s0_6))) = some (r1, r2, r3, r4, r5, r6, r7, r8) := H
            have A16 := Aside0.mk A160
            clear A160
            by_cases c17 : t306 = true
            · subst c17
              have H1 : ((spec_l1In.f s0_4 1 9).bind fun t307 => (if t307 = true then ((spec_l9Node.f s0_5).bind fun t308 => (if t308 = true then ((spec_l1In.f s0_6 0 1000000).bind fun t309 => (if t309 = true then (some (0, s0_0, s0_1, s0_2, s0_3, s0_4, s0_5, s0_6)) else (some (3, s0_0, s0_1, s0_2, s0_3, s0_4, s0_5, s0_6)))) else (some (3, s0_0, s0_1, s0_2, s0_3, s0_4, s0_5, s0_6)))) else (some (3, s0_0, s0_1, s0_2, s0_3, s0_4, s0_5, s0_6)))) = some (r1, r2, r3, r4, r5, r6, r7, r8) := by rw [if_pos rfl] at H; exact H
              clear H
              have H := H1
              clear H1
              replace H := Option.bind_eq_some_iff.mp H
              obtain ⟨t307, A180, H⟩ := H
              replace H : (if t307 = true then ((spec_l9Node.f s0_5).bind fun t308 => (if t308 = true then ((spec_l1In.f s0_6 0 1000000).bind fun t309 => (if t309 = true then (some (0, s0_0, s0_1, s0_2, s0_3, s0_4, s0_5, s0_6)) else (some (3, s0_0, s0_1, s0_2, s0_3, s0_4, s0_5, s0_6)))) else (some (3, s0_0, s0_1, s0_2, s0_3, s0_4, s0_5, s0_6)))) else (some (3, s0_0, s0_1, s0_2, s0_3, s0_4, s0_5, s0_6))) = some (r1, r2, r3, r4, r5, r6, r7, r8) := H
              have A18 := Aside0.mk A180
              clear A180
              by_cases c19 : t307 = true
              · subst c19
                have H1 : ((spec_l9Node.f s0_5).bind fun t308 => (if t308 = true then ((spec_l1In.f s0_6 0 1000000).bind fun t309 => (if t309 = true then (some (0, s0_0, s0_1, s0_2, s0_3, s0_4, s0_5, s0_6)) else (some (3, s0_0, s0_1, s0_2, s0_3, s0_4, s0_5, s0_6)))) else (some (3, s0_0, s0_1, s0_2, s0_3, s0_4, s0_5, s0_6)))) = some (r1, r2, r3, r4, r5, r6, r7, r8) := by rw [if_pos rfl] at H; exact H
                clear H
                have H := H1
                clear H1
                replace H := Option.bind_eq_some_iff.mp H
                obtain ⟨t308, A200, H⟩ := H
                replace H : (if t308 = true then ((spec_l1In.f s0_6 0 1000000).bind fun t309 => (if t309 = true then (some (0, s0_0, s0_1, s0_2, s0_3, s0_4, s0_5, s0_6)) else (some (3, s0_0, s0_1, s0_2, s0_3, s0_4, s0_5, s0_6)))) else (some (3, s0_0, s0_1, s0_2, s0_3, s0_4, s0_5, s0_6))) = some (r1, r2, r3, r4, r5, r6, r7, r8) := H
                have A20 := Aside0.mk A200
                clear A200
                by_cases c21 : t308 = true
                · subst c21
                  have H1 : ((spec_l1In.f s0_6 0 1000000).bind fun t309 => (if t309 = true then (some (0, s0_0, s0_1, s0_2, s0_3, s0_4, s0_5, s0_6)) else (some (3, s0_0, s0_1, s0_2, s0_3, s0_4, s0_5, s0_6)))) = some (r1, r2, r3, r4, r5, r6, r7, r8) := by rw [if_pos rfl] at H; exact H
                  clear H
                  have H := H1
                  clear H1
                  replace H := Option.bind_eq_some_iff.mp H
                  obtain ⟨t309, A220, H⟩ := H
                  replace H : (if t309 = true then (some (0, s0_0, s0_1, s0_2, s0_3, s0_4, s0_5, s0_6)) else (some (3, s0_0, s0_1, s0_2, s0_3, s0_4, s0_5, s0_6))) = some (r1, r2, r3, r4, r5, r6, r7, r8) := H
                  have A22 := Aside0.mk A220
                  clear A220
                  by_cases c23 : t309 = true
                  · subst c23
                    have H1 : (some (0, s0_0, s0_1, s0_2, s0_3, s0_4, s0_5, s0_6)) = some (r1, r2, r3, r4, r5, r6, r7, r8) := by rw [if_pos rfl] at H; exact H
                    clear H
                    have H := H1
                    clear H1
                    simp only [Option.some.injEq, Prod.mk.injEq] at H
                    obtain ⟨rfl, rfl, rfl, rfl, rfl, rfl, rfl, rfl⟩ := H
                    have HGz24 := HI0.out
                    have hcz24_0 := cellAt67_0 HGz24
                    have hcz24_1 := cellAt67_1 HGz24
                    have hcz24_2 := cellAt67_2 HGz24
                    have hcz24_3 := cellAt67_3 HGz24
                    have hcz24_4 := cellAt67_4 HGz24
                    have hcz24_5 := cellAt67_5 HGz24
                    have hcz24_6 := cellAt67_6 HGz24
                    clear HGz24
                    go_wp2_with (first | ((with_reducible refine gate_callee (f := 52) rfl ?_); refine goesL_ (some 34) rfl rfl Try.func52 (by kernel_rfl) rfl #[.int .i64 s0_1, .int .i64 0, .int .i64 1000000] rfl (by (try simp only [List.map_toArray, List.map_cons, List.map_nil]); first | done | rfl | (simp only [List.length_drop, List.length_take]; rfl)) ?_; (with_reducible refine (spec_l1In.calls s0_1 0 1000000 true _ A12.out).mono ?_); rintro e w' ⟨rfl, ⟨nd, rfl⟩⟩; refine ⟨_, rfl, ?_⟩) | (go_at_call 69; (with_reducible refine (spec_l9Node.calls s0_2 true _ A14.out).mono ?_); rintro e w' ⟨rfl, ⟨nd, rfl⟩⟩) | (go_at_call 52; (with_reducible refine (spec_l1In.calls s0_3 0 1000000 true _ A16.out).mono ?_); rintro e w' ⟨rfl, ⟨nd, rfl⟩⟩) | (go_at_call 52; (with_reducible refine (spec_l1In.calls s0_4 1 9 true _ A18.out).mono ?_); rintro e w' ⟨rfl, ⟨nd, rfl⟩⟩) | (go_at_call 69; (with_reducible refine (spec_l9Node.calls s0_5 true _ A20.out).mono ?_); rintro e w' ⟨rfl, ⟨nd, rfl⟩⟩) | (go_at_call 52; (with_reducible refine (spec_l1In.calls s0_6 0 1000000 true _ A22.out).mono ?_); rintro e w' ⟨rfl, ⟨nd, rfl⟩⟩))
                    go_ret
                    exact ⟨by first | rfl | (simp [errW_none, errW_some] <;> rfl) | (simp [*, errW_none, errW_some] <;> rfl), by repeat (first | (with_reducible first | exact HI0.out | apply At67.alloc | apply At67.drewN | apply At67.drew | apply At67.set_0 | apply At67.set_1 | apply At67.set_2 | apply At67.set_3 | apply At67.set_4 | apply At67.set_5 | apply At67.set_6) | exact HI0.out), by repeat (first | (with_reducible first | exact HB.out | apply below_alloc | apply pw_below_drewN | apply below_drew1 | refine below_set ?_ (At67.ge HI0.out)) | exact HB.out), by repeat (first | (with_reducible first | exact HK.out | apply KeepBut.set_ | apply keep_drewN | apply keep_drew | apply keep_alloc) | exact HK.out)⟩
                  · replace c23 := Bool.eq_false_iff.mpr c23
                    subst c23
                    have H1 : (some (3, s0_0, s0_1, s0_2, s0_3, s0_4, s0_5, s0_6)) = some (r1, r2, r3, r4, r5, r6, r7, r8) := by rw [if_neg (show ¬ (false = true) by decide)] at H; exact H
                    clear H
                    have H := H1
                    clear H1
                    simp only [Option.some.injEq, Prod.mk.injEq] at H
                    obtain ⟨rfl, rfl, rfl, rfl, rfl, rfl, rfl, rfl⟩ := H
                    have HGz25 := HI0.out
                    have hcz25_0 := cellAt67_0 HGz25
                    have hcz25_1 := cellAt67_1 HGz25
                    have hcz25_2 := cellAt67_2 HGz25
                    have hcz25_3 := cellAt67_3 HGz25
                    have hcz25_4 := cellAt67_4 HGz25
                    have hcz25_5 := cellAt67_5 HGz25
                    have hcz25_6 := cellAt67_6 HGz25
                    clear HGz25
                    go_wp2_with (first | ((with_reducible refine gate_callee (f := 52) rfl ?_); refine goesL_ (some 34) rfl rfl Try.func52 (by kernel_rfl) rfl #[.int .i64 s0_1, .int .i64 0, .int .i64 1000000] rfl (by (try simp only [List.map_toArray, List.map_cons, List.map_nil]); first | done | rfl | (simp only [List.length_drop, List.length_take]; rfl)) ?_; (with_reducible refine (spec_l1In.calls s0_1 0 1000000 true _ A12.out).mono ?_); rintro e w' ⟨rfl, ⟨nd, rfl⟩⟩; refine ⟨_, rfl, ?_⟩) | (go_at_call 69; (with_reducible refine (spec_l9Node.calls s0_2 true _ A14.out).mono ?_); rintro e w' ⟨rfl, ⟨nd, rfl⟩⟩) | (go_at_call 52; (with_reducible refine (spec_l1In.calls s0_3 0 1000000 true _ A16.out).mono ?_); rintro e w' ⟨rfl, ⟨nd, rfl⟩⟩) | (go_at_call 52; (with_reducible refine (spec_l1In.calls s0_4 1 9 true _ A18.out).mono ?_); rintro e w' ⟨rfl, ⟨nd, rfl⟩⟩) | (go_at_call 69; (with_reducible refine (spec_l9Node.calls s0_5 true _ A20.out).mono ?_); rintro e w' ⟨rfl, ⟨nd, rfl⟩⟩) | (go_at_call 52; (with_reducible refine (spec_l1In.calls s0_6 0 1000000 false _ A22.out).mono ?_); rintro e w' ⟨rfl, ⟨nd, rfl⟩⟩))
                    go_ret
                    exact ⟨by first | rfl | (simp [errW_none, errW_some] <;> rfl) | (simp [*, errW_none, errW_some] <;> rfl), by repeat (first | (with_reducible first | exact HI0.out | apply At67.alloc | apply At67.drewN | apply At67.drew | apply At67.set_0 | apply At67.set_1 | apply At67.set_2 | apply At67.set_3 | apply At67.set_4 | apply At67.set_5 | apply At67.set_6) | exact HI0.out), by repeat (first | (with_reducible first | exact HB.out | apply below_alloc | apply pw_below_drewN | apply below_drew1 | refine below_set ?_ (At67.ge HI0.out)) | exact HB.out), by repeat (first | (with_reducible first | exact HK.out | apply KeepBut.set_ | apply keep_drewN | apply keep_drew | apply keep_alloc) | exact HK.out)⟩
                · replace c21 := Bool.eq_false_iff.mpr c21
                  subst c21
                  have H1 : (some (3, s0_0, s0_1, s0_2, s0_3, s0_4, s0_5, s0_6)) = some (r1, r2, r3, r4, r5, r6, r7, r8) := by rw [if_neg (show ¬ (false = true) by decide)] at H; exact H
                  clear H
                  have H := H1
                  clear H1
                  simp only [Option.some.injEq, Prod.mk.injEq] at H
                  obtain ⟨rfl, rfl, rfl, rfl, rfl, rfl, rfl, rfl⟩ := H
                  have HGz26 := HI0.out
                  have hcz26_0 := cellAt67_0 HGz26
                  have hcz26_1 := cellAt67_1 HGz26
                  have hcz26_2 := cellAt67_2 HGz26
                  have hcz26_3 := cellAt67_3 HGz26
                  have hcz26_4 := cellAt67_4 HGz26
                  have hcz26_5 := cellAt67_5 HGz26
                  have hcz26_6 := cellAt67_6 HGz26
                  clear HGz26
                  go_wp2_with (first | ((with_reducible refine gate_callee (f := 52) rfl ?_); refine goesL_ (some 34) rfl rfl Try.func52 (by kernel_rfl) rfl #[.int .i64 s0_1, .int .i64 0, .int .i64 1000000] rfl (by (try simp only [List.map_toArray, List.map_cons, List.map_nil]); first | done | rfl | (simp only [List.length_drop, List.length_take]; rfl)) ?_; (with_reducible refine (spec_l1In.calls s0_1 0 1000000 true _ A12.out).mono ?_); rintro e w' ⟨rfl, ⟨nd, rfl⟩⟩; refine ⟨_, rfl, ?_⟩) | (go_at_call 69; (with_reducible refine (spec_l9Node.calls s0_2 true _ A14.out).mono ?_); rintro e w' ⟨rfl, ⟨nd, rfl⟩⟩) | (go_at_call 52; (with_reducible refine (spec_l1In.calls s0_3 0 1000000 true _ A16.out).mono ?_); rintro e w' ⟨rfl, ⟨nd, rfl⟩⟩) | (go_at_call 52; (with_reducible refine (spec_l1In.calls s0_4 1 9 true _ A18.out).mono ?_); rintro e w' ⟨rfl, ⟨nd, rfl⟩⟩) | (go_at_call 69; (with_reducible refine (spec_l9Node.calls s0_5 false _ A20.out).mono ?_); rintro e w' ⟨rfl, ⟨nd, rfl⟩⟩))
                  go_ret
                  exact ⟨by first | rfl | (simp [errW_none, errW_some] <;> rfl) | (simp [*, errW_none, errW_some] <;> rfl), by repeat (first | (with_reducible first | exact HI0.out | apply At67.alloc | apply At67.drewN | apply At67.drew | apply At67.set_0 | apply At67.set_1 | apply At67.set_2 | apply At67.set_3 | apply At67.set_4 | apply At67.set_5 | apply At67.set_6) | exact HI0.out), by repeat (first | (with_reducible first | exact HB.out | apply below_alloc | apply pw_below_drewN | apply below_drew1 | refine below_set ?_ (At67.ge HI0.out)) | exact HB.out), by repeat (first | (with_reducible first | exact HK.out | apply KeepBut.set_ | apply keep_drewN | apply keep_drew | apply keep_alloc) | exact HK.out)⟩
              · replace c19 := Bool.eq_false_iff.mpr c19
                subst c19
                have H1 : (some (3, s0_0, s0_1, s0_2, s0_3, s0_4, s0_5, s0_6)) = some (r1, r2, r3, r4, r5, r6, r7, r8) := by rw [if_neg (show ¬ (false = true) by decide)] at H; exact H
                clear H
                have H := H1
                clear H1
                simp only [Option.some.injEq, Prod.mk.injEq] at H
                obtain ⟨rfl, rfl, rfl, rfl, rfl, rfl, rfl, rfl⟩ := H
                have HGz27 := HI0.out
                have hcz27_0 := cellAt67_0 HGz27
                have hcz27_1 := cellAt67_1 HGz27
                have hcz27_2 := cellAt67_2 HGz27
                have hcz27_3 := cellAt67_3 HGz27
                have hcz27_4 := cellAt67_4 HGz27
                have hcz27_5 := cellAt67_5 HGz27
                have hcz27_6 := cellAt67_6 HGz27
                clear HGz27
                go_wp2_with (first | ((with_reducible refine gate_callee (f := 52) rfl ?_); refine goesL_ (some 34) rfl rfl Try.func52 (by kernel_rfl) rfl #[.int .i64 s0_1, .int .i64 0, .int .i64 1000000] rfl (by (try simp only [List.map_toArray, List.map_cons, List.map_nil]); first | done | rfl | (simp only [List.length_drop, List.length_take]; rfl)) ?_; (with_reducible refine (spec_l1In.calls s0_1 0 1000000 true _ A12.out).mono ?_); rintro e w' ⟨rfl, ⟨nd, rfl⟩⟩; refine ⟨_, rfl, ?_⟩) | (go_at_call 69; (with_reducible refine (spec_l9Node.calls s0_2 true _ A14.out).mono ?_); rintro e w' ⟨rfl, ⟨nd, rfl⟩⟩) | (go_at_call 52; (with_reducible refine (spec_l1In.calls s0_3 0 1000000 true _ A16.out).mono ?_); rintro e w' ⟨rfl, ⟨nd, rfl⟩⟩) | (go_at_call 52; (with_reducible refine (spec_l1In.calls s0_4 1 9 false _ A18.out).mono ?_); rintro e w' ⟨rfl, ⟨nd, rfl⟩⟩))
                go_ret
                exact ⟨by first | rfl | (simp [errW_none, errW_some] <;> rfl) | (simp [*, errW_none, errW_some] <;> rfl), by repeat (first | (with_reducible first | exact HI0.out | apply At67.alloc | apply At67.drewN | apply At67.drew | apply At67.set_0 | apply At67.set_1 | apply At67.set_2 | apply At67.set_3 | apply At67.set_4 | apply At67.set_5 | apply At67.set_6) | exact HI0.out), by repeat (first | (with_reducible first | exact HB.out | apply below_alloc | apply pw_below_drewN | apply below_drew1 | refine below_set ?_ (At67.ge HI0.out)) | exact HB.out), by repeat (first | (with_reducible first | exact HK.out | apply KeepBut.set_ | apply keep_drewN | apply keep_drew | apply keep_alloc) | exact HK.out)⟩
            · replace c17 := Bool.eq_false_iff.mpr c17
              subst c17
              have H1 : (some (3, s0_0, s0_1, s0_2, s0_3, s0_4, s0_5, s0_6)) = some (r1, r2, r3, r4, r5, r6, r7, r8) := by rw [if_neg (show ¬ (false = true) by decide)] at H; exact H
              clear H
              have H := H1
              clear H1
              simp only [Option.some.injEq, Prod.mk.injEq] at H
              obtain ⟨rfl, rfl, rfl, rfl, rfl, rfl, rfl, rfl⟩ := H
              have HGz28 := HI0.out
              have hcz28_0 := cellAt67_0 HGz28
              have hcz28_1 := cellAt67_1 HGz28
              have hcz28_2 := cellAt67_2 HGz28
              have hcz28_3 := cellAt67_3 HGz28
              have hcz28_4 := cellAt67_4 HGz28
              have hcz28_5 := cellAt67_5 HGz28
              have hcz28_6 := cellAt67_6 HGz28
              clear HGz28
              go_wp2_with (first | ((with_reducible refine gate_callee (f := 52) rfl ?_); refine goesL_ (some 34) rfl rfl Try.func52 (by kernel_rfl) rfl #[.int .i64 s0_1, .int .i64 0, .int .i64 1000000] rfl (by (try simp only [List.map_toArray, List.map_cons, List.map_nil]); first | done | rfl | (simp only [List.length_drop, List.length_take]; rfl)) ?_; (with_reducible refine (spec_l1In.calls s0_1 0 1000000 true _ A12.out).mono ?_); rintro e w' ⟨rfl, ⟨nd, rfl⟩⟩; refine ⟨_, rfl, ?_⟩) | (go_at_call 69; (with_reducible refine (spec_l9Node.calls s0_2 true _ A14.out).mono ?_); rintro e w' ⟨rfl, ⟨nd, rfl⟩⟩) | (go_at_call 52; (with_reducible refine (spec_l1In.calls s0_3 0 1000000 false _ A16.out).mono ?_); rintro e w' ⟨rfl, ⟨nd, rfl⟩⟩))
              go_ret
              exact ⟨by first | rfl | (simp [errW_none, errW_some] <;> rfl) | (simp [*, errW_none, errW_some] <;> rfl), by repeat (first | (with_reducible first | exact HI0.out | apply At67.alloc | apply At67.drewN | apply At67.drew | apply At67.set_0 | apply At67.set_1 | apply At67.set_2 | apply At67.set_3 | apply At67.set_4 | apply At67.set_5 | apply At67.set_6) | exact HI0.out), by repeat (first | (with_reducible first | exact HB.out | apply below_alloc | apply pw_below_drewN | apply below_drew1 | refine below_set ?_ (At67.ge HI0.out)) | exact HB.out), by repeat (first | (with_reducible first | exact HK.out | apply KeepBut.set_ | apply keep_drewN | apply keep_drew | apply keep_alloc) | exact HK.out)⟩
          · replace c15 := Bool.eq_false_iff.mpr c15
            subst c15
            have H1 : (some (3, s0_0, s0_1, s0_2, s0_3, s0_4, s0_5, s0_6)) = some (r1, r2, r3, r4, r5, r6, r7, r8) := by rw [if_neg (show ¬ (false = true) by decide)] at H; exact H
            clear H
            have H := H1
            clear H1
            simp only [Option.some.injEq, Prod.mk.injEq] at H
            obtain ⟨rfl, rfl, rfl, rfl, rfl, rfl, rfl, rfl⟩ := H
            have HGz29 := HI0.out
            have hcz29_0 := cellAt67_0 HGz29
            have hcz29_1 := cellAt67_1 HGz29
            have hcz29_2 := cellAt67_2 HGz29
            have hcz29_3 := cellAt67_3 HGz29
            have hcz29_4 := cellAt67_4 HGz29
            have hcz29_5 := cellAt67_5 HGz29
            have hcz29_6 := cellAt67_6 HGz29
            clear HGz29
            go_wp2_with (first | ((with_reducible refine gate_callee (f := 52) rfl ?_); refine goesL_ (some 34) rfl rfl Try.func52 (by kernel_rfl) rfl #[.int .i64 s0_1, .int .i64 0, .int .i64 1000000] rfl (by (try simp only [List.map_toArray, List.map_cons, List.map_nil]); first | done | rfl | (simp only [List.length_drop, List.length_take]; rfl)) ?_; (with_reducible refine (spec_l1In.calls s0_1 0 1000000 true _ A12.out).mono ?_); rintro e w' ⟨rfl, ⟨nd, rfl⟩⟩; refine ⟨_, rfl, ?_⟩) | (go_at_call 69; (with_reducible refine (spec_l9Node.calls s0_2 false _ A14.out).mono ?_); rintro e w' ⟨rfl, ⟨nd, rfl⟩⟩))
            go_ret
            exact ⟨by first | rfl | (simp [errW_none, errW_some] <;> rfl) | (simp [*, errW_none, errW_some] <;> rfl), by repeat (first | (with_reducible first | exact HI0.out | apply At67.alloc | apply At67.drewN | apply At67.drew | apply At67.set_0 | apply At67.set_1 | apply At67.set_2 | apply At67.set_3 | apply At67.set_4 | apply At67.set_5 | apply At67.set_6) | exact HI0.out), by repeat (first | (with_reducible first | exact HB.out | apply below_alloc | apply pw_below_drewN | apply below_drew1 | refine below_set ?_ (At67.ge HI0.out)) | exact HB.out), by repeat (first | (with_reducible first | exact HK.out | apply KeepBut.set_ | apply keep_drewN | apply keep_drew | apply keep_alloc) | exact HK.out)⟩
        · replace c13 := Bool.eq_false_iff.mpr c13
          subst c13
          have H1 : (some (3, s0_0, s0_1, s0_2, s0_3, s0_4, s0_5, s0_6)) = some (r1, r2, r3, r4, r5, r6, r7, r8) := by rw [if_neg (show ¬ (false = true) by decide)] at H; exact H
          clear H
          have H := H1
          clear H1
          simp only [Option.some.injEq, Prod.mk.injEq] at H
          obtain ⟨rfl, rfl, rfl, rfl, rfl, rfl, rfl, rfl⟩ := H
          have HGz30 := HI0.out
          have hcz30_0 := cellAt67_0 HGz30
          have hcz30_1 := cellAt67_1 HGz30
          have hcz30_2 := cellAt67_2 HGz30
          have hcz30_3 := cellAt67_3 HGz30
          have hcz30_4 := cellAt67_4 HGz30
          have hcz30_5 := cellAt67_5 HGz30
          have hcz30_6 := cellAt67_6 HGz30
          clear HGz30
          go_wp2_with (first | ((with_reducible refine gate_callee (f := 52) rfl ?_); refine goesL_ (some 34) rfl rfl Try.func52 (by kernel_rfl) rfl #[.int .i64 s0_1, .int .i64 0, .int .i64 1000000] rfl (by (try simp only [List.map_toArray, List.map_cons, List.map_nil]); first | done | rfl | (simp only [List.length_drop, List.length_take]; rfl)) ?_; (with_reducible refine (spec_l1In.calls s0_1 0 1000000 false _ A12.out).mono ?_); rintro e w' ⟨rfl, ⟨nd, rfl⟩⟩; refine ⟨_, rfl, ?_⟩))
          go_ret
          exact ⟨by first | rfl | (simp [errW_none, errW_some] <;> rfl) | (simp [*, errW_none, errW_some] <;> rfl), by repeat (first | (with_reducible first | exact HI0.out | apply At67.alloc | apply At67.drewN | apply At67.drew | apply At67.set_0 | apply At67.set_1 | apply At67.set_2 | apply At67.set_3 | apply At67.set_4 | apply At67.set_5 | apply At67.set_6) | exact HI0.out), by repeat (first | (with_reducible first | exact HB.out | apply below_alloc | apply pw_below_drewN | apply below_drew1 | refine below_set ?_ (At67.ge HI0.out)) | exact HB.out), by repeat (first | (with_reducible first | exact HK.out | apply KeepBut.set_ | apply keep_drewN | apply keep_drew | apply keep_alloc) | exact HK.out)⟩

def spec_l9WaitAt.f (k : Nat) (f0 : Int) (f1 : Int) (f2 : Int) (f3 : Int) (f4 : Int) (f5 : Int) (f6 : Int) : Option (Int) := (spec_l9Wait.f k f0 f1 f2 f3 f4 f5 f6).bind fun z => some z.1
theorem spec_l9WaitAt.mono : ∀ a0 a1 a2 a3 a4 a5 a6 k, LeO (spec_l9WaitAt.f k a0 a1 a2 a3 a4 a5 a6) (spec_l9WaitAt.f (k + 1) a0 a1 a2 a3 a4 a5 a6) := fun a0 a1 a2 a3 a4 a5 a6 k => LeO.bind (spec_l9Wait.mono a0 a1 a2 a3 a4 a5 a6 k) (fun _ => LeO.refl _)
theorem spec_l9WaitAt.calls (k : Nat) (f0 : Int) (f1 : Int) (f2 : Int) (f3 : Int) (f4 : Int) (f5 : Int) (f6 : Int) (r : Int) {p : Addr} (w : World) (hx0 : w.cell? p = some (.int .i64 f0)) (hx1 : w.cell? ⟨p.block, p.off + 1, none⟩ = some (.int .i64 f1)) (hx2 : w.cell? ⟨p.block, p.off + 2, none⟩ = some (.int .i64 f2)) (hx3 : w.cell? ⟨p.block, p.off + 3, none⟩ = some (.int .i64 f3)) (hx4 : w.cell? ⟨p.block, p.off + 4, none⟩ = some (.int .i64 f4)) (hx5 : w.cell? ⟨p.block, p.off + 5, none⟩ = some (.int .i64 f5)) (hx6 : w.cell? ⟨p.block, p.off + 6, none⟩ = some (.int .i64 f6)) (h : spec_l9WaitAt.f k f0 f1 f2 f3 f4 f5 f6 = some r) : Calls Try.prog 56 #[.pointer (some p)] w fun e w' => e = .returned (.int .i64 r) ∧ Below w.heap.size w w' := by
  obtain ⟨⟨q0, q1, q2, q3, q4, q5, q6, q7⟩, h1, h2⟩ := Option.bind_eq_some_iff.mp h
  obtain rfl := Option.some.inj h2
  refine (spec_l9Wait.callsAt k p f0 f1 f2 f3 f4 f5 f6 q0 q1 q2 q3 q4 q5 q6 q7 w w ⟨hx0, hx1, hx2, hx3, hx4, hx5, hx6⟩ (Below.refl _ _) h1).mono ?_
  rintro e w' ⟨rfl, _, hb, _⟩
  exact ⟨rfl, hb⟩
end Go.Proofs.Ytpinapnhohjipaa.MFnWaits
