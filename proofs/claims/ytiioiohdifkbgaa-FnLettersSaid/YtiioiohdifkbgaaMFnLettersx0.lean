-- Laid by a program of this session (the kit's print, turned where it falls short; the texts of functions that it does not take are proved by hand).
import Derived.Test.YtiioiohdifkbgaaProg
import Derived.Below
import Derived.Deep.Draws
import Derived.Deep.AppendLies
import Derived.Maps.AppendAt
import Derived.OwnWalk
import Derived.Laws.BytesArg
import Derived.Laws.MakeOwn
import Derived.Laws.OwnMore
import Derived.Deep.OwnRows
import Derived.Tactics
import Derived.Lib.ConvBytes
import Derived.Laws.Slices
import Derived.WalkKit
import Derived.KernelRfl
import Derived.RowKit3
import Derived.Deep.LoopGhost
import Derived.Deep.QuietTactic
import Derived.BigQuiet
import Derived.WideLaws
import Derived.Deep.DeepCutAuto
import Derived.Deep.CutBlock
import Derived.Deep.RegionHeld3
import Derived.Laws.Rows
import Derived.Lib.AppendStr
import Derived.ArgAppend
import Derived.Laws.IdiomCopy
import Derived.OrdersHeld
import Derived.Laws.BitsLemmas
import Derived.RowKit
import Derived.Lib.AppendZerosOnto
import Derived.Lib.SliceRun
import Derived.Lib.Overlaps
import Derived.Laws.Externs
import Derived.Laws.NewBlocks
import Derived.Deep.RegionLaw
import Derived.Deep.MidRow
import Derived.Deep.WholeRow
import Derived.StillTailTactics
import Derived.Test.YtiioiohdifkbgaaZFnLetters
namespace Go.Proofs.Ytiioiohdifkbgaa.MFnLetters
open Go.RowKit Go.Proofs.YtiioiohdifkbgaaW.PrintWords Go.Proofs.YtiioiohdifkbgaaW.PrintLast Go.Proofs.YtiioiohdifkbgaaW.PrintMore
attribute [local go_sem] max2_int min2_int max_two min_two max_three min_three max_four min_four   -- for this text's walks alone
set_option linter.unusedVariables false
set_option linter.unusedSimpArgs false
def errW : Option Int → Value
  | none => .nilIface
  | some c => .iface 0 (.int .i64 c)
theorem errW_none : errW none = .nilIface := rfl
theorem errW_some (c : Int) : errW (some c) = .iface 0 (.int .i64 c) := rfl
theorem N_append_self {P : Program} {ops : Array Oper} {rest : List Oper} {o : Oper} {a : Act} {Q : Exit → Act → World → Prop} {α : Type} (d : Kd α) {w0 W : World} (base : Nat) (hgd : o.guard = none) (s x : Operand) (t e : TypeId) (z : Value) (bytes : Nat)
    (ho : o.op = .call { callee := .builtin .append, args := #[s, x], argTypes := #[t, t] })
    (ht : P.underlying t = some (.slice e)) (hinfo : (P.info? e).map (fun i => (i.zero, i.size, i.bytes)) = some (some z, d.sz, bytes)) (hz : z.cells.size = d.sz) (hs0 : 0 < d.sz) (hb0 : 0 < bytes)
    (v : Value) (xs : List α) (ok : Nat → Prop) (hs : a.eval s = v) (hx : a.eval x = v)
    (HO : Kd.N d e W base ok v xs) (hfresh : ∀ k, W.heap.size ≤ k → ok k)
    (HB : Below base w0 W) (hbase : base ≤ W.heap.size) (hl : (xs.length + xs.length) * bytes ≤ 140737488355328)
    (h : ∀ v1 w1, Kd.N d e w1 base ok v1 (xs ++ xs) → Below base w0 w1 → W.grownBy w1 v.ownBlock → (v1.ownBlock = v.ownBlock ∨ ∃ b, v1.ownBlock = some b ∧ W.heap.size ≤ b) → wpList P ops Q rest (a.put o.dst v1) w1) :
    wpList P ops Q (o :: rest) a W := by
  obtain ⟨h0, rows, hlr, hR, hf⟩ := HO
  obtain ⟨A, c, rfl⟩ := Kd.R_slice hR
  refine Kd.R_append_rows (Kd.raw d.sz) base hgd s x t e z bytes ho ht hinfo hz hs0 hb0 (.slice A rows.length c) rows rows A rows.length c (fun _ => True) (fun _ => False) hs hx (Kd.raw_any hR) (Kd.R_reads' hR).2.2 (fun _ _ hk => hk) (fun _ hk => hk.elim) (fun _ _ => trivial) HB hbase (by rw [hlr]; exact hl) ?_
  intro v1 w1 hr hb hg hat
  exact h v1 w1 (Kd.N_appended h0 hlr hf hlr hf (fun _ hk => hk) hfresh hr hg hat) hb hg hat
theorem isSome_setCell (w : World) (p a : Addr) (v : Value) : ((w.setCell p v).cell? a).isSome = (w.cell? a).isSome := by
  by_cases h : p = a
  · subst h
    cases hc : w.cell? p with
    | some u => rw [World.cell?_setCell_same _ _ _ hc]; rfl
    | none =>
      simp only [World.setCell, World.cell?, Array.getElem?_modify, ↓reduceIte] at *
      cases hb : w.heap[p.block]? with
      | none => simp
      | some o =>
        rw [hb] at hc
        cases o <;> simp_all
  · rw [World.cell?_setCell_other _ _ _ _ h]
theorem run_field30_0 (c0_ c1_ c2_ c3_ c4_ : Value) (w : World) : Sem.run Try.prog (Instr.field 30 (.agg #[c0_, c1_, c2_, c3_, c4_]) 0) w = Result.ok c0_ w := by kernel_rfl
theorem run_field30_1 (c0_ c1_ c2_ c3_ c4_ : Value) (w : World) : Sem.run Try.prog (Instr.field 30 (.agg #[c0_, c1_, c2_, c3_, c4_]) 1) w = Result.ok (.agg #[c1_, c2_, c3_, c4_]) w := by kernel_rfl
theorem run_field34_1 (c0_ c1_ : Value) (w : World) : Sem.run Try.prog (Instr.field 34 (.agg #[c0_, c1_]) 1) w = Result.ok c1_ w := by kernel_rfl
theorem run_field48_0 (c0_ c1_ : Value) (w : World) : Sem.run Try.prog (Instr.field 48 (.agg #[c0_, c1_]) 0) w = Result.ok c0_ w := by kernel_rfl
theorem run_field48_1 (c0_ c1_ : Value) (w : World) : Sem.run Try.prog (Instr.field 48 (.agg #[c0_, c1_]) 1) w = Result.ok c1_ w := by kernel_rfl
theorem run_field61_1 (c0_ c1_ c2_ : Value) (w : World) : Sem.run Try.prog (Instr.field 61 (.agg #[c0_, c1_, c2_]) 1) w = Result.ok (.agg #[c1_, c2_]) w := by kernel_rfl
theorem setCell_drewN_ (w : World) (n : Nat) (a : Addr) (v : Value) : (w.drewN n).setCell a v = (w.setCell a v).drewN n := rfl
theorem own_map (A : Option Addr) (n c : Nat) : (Value.slice A n c).ownBlock = A.map Addr.block := by cases A <;> rfl
def rb_ : Bool → List Nat → List Bool
  | _, [] => []
  | b, n :: t => List.replicate n b ++ rb_ (!b) t
def rl_ (r : List Nat) : Array Bool := (rb_ true r).toArray
theorem far4_ {w : World} {g : Nat} {a : Addr} {o0 o1 o2 o3 : Nat} {v0 v1 v2 v3 : Value} (h : a.block ≠ g) : ((((w.setCell ⟨g, o0, none⟩ v0).setCell ⟨g, o1, none⟩ v1).setCell ⟨g, o2, none⟩ v2).setCell ⟨g, o3, none⟩ v3).cell? a = w.cell? a := (cell_far (p := ⟨g, o3, none⟩) h v3).trans ((cell_far (p := ⟨g, o2, none⟩) h v2).trans ((cell_far (p := ⟨g, o1, none⟩) h v1).trans ((cell_far (p := ⟨g, o0, none⟩) h v0).trans (rfl))))
theorem far5_ {w : World} {g : Nat} {a : Addr} {o0 o1 o2 o3 o4 : Nat} {v0 v1 v2 v3 v4 : Value} (h : a.block ≠ g) : (((((w.setCell ⟨g, o0, none⟩ v0).setCell ⟨g, o1, none⟩ v1).setCell ⟨g, o2, none⟩ v2).setCell ⟨g, o3, none⟩ v3).setCell ⟨g, o4, none⟩ v4).cell? a = w.cell? a := (cell_far (p := ⟨g, o4, none⟩) h v4).trans ((cell_far (p := ⟨g, o3, none⟩) h v3).trans ((cell_far (p := ⟨g, o2, none⟩) h v2).trans ((cell_far (p := ⟨g, o1, none⟩) h v1).trans ((cell_far (p := ⟨g, o0, none⟩) h v0).trans (rfl)))))
theorem below_a {n : Nat} {w W : World} (h : Below n w W := by repeat (first | (with_reducible first | exact HB.out | apply below_alloc | apply pw_below_drewN | apply below_drew1 | refine below_set ?_ (Aside0.out (by assumption))) | exact HB.out)) : Below n w W := h
theorem blk_far_ {w : World} {g : Nat} {t : TypeId} {cs : Array Value} {p : Addr} {u : Value} (h : w.heap[g]? = some (.cells cs t (0, 0))) (hp : g ≠ p.block) : (w.setCell p u).heap[g]? = some (.cells cs t (0, 0)) := blk_far h hp u
theorem blk_a {W : World} {g : Nat} {t : TypeId} {cs : Array Value} (h : W.heap[g]? = some (.cells cs t (0, 0)) := by repeat (first | (with_reducible exact Aside0.out (by assumption)) | (with_reducible first | refine blk_drewN ?_ _ | refine blk_drew ?_ | refine blk_alloc ?_ _) | (with_reducible apply blk_put) | (with_reducible apply blk_far_) | rfl)) : W.heap[g]? = some (.cells cs t (0, 0)) := h
theorem blk_c {W : World} {g : Nat} {o : Obj} (h : W.heap[g]? = some o := by repeat (first | (with_reducible exact Aside0.out (by assumption)) | (with_reducible first | apply blk_drewN | apply blk_drew | apply blk_alloc) | (with_reducible apply blk_far_))) : W.heap[g]? = some o := h
theorem bne_ {W : World} {g g' : Nat} {o : Obj} (hg : g' = W.heap.size) (h : W.heap[g]? = some o := by repeat (first | (with_reducible exact Aside0.out (by assumption)) | (with_reducible first | apply blk_drewN | apply blk_drew | apply blk_alloc) | (with_reducible apply blk_put) | (with_reducible apply blk_far_) | rfl)) : g ≠ g' := by rw [hg]; exact Nat.ne_of_lt (blk_lt h)
theorem bsz_ {w W : World} {g : Nat} (hg : g = W.heap.size) (h : Below w.heap.size w W := by repeat (first | (with_reducible first | exact HB.out | apply below_alloc | apply pw_below_drewN | apply below_drew1 | refine below_set ?_ (Aside0.out (by assumption))) | exact HB.out)) : w.heap.size ≤ g := by rw [hg]; exact below_size h
theorem R_a {α : Type} {d : Kd α} {e : Nat} {W W' : World} {base : Nat} {ok : Nat → Prop} {v : Value} {xs : List α} (h : d.R e W base ok v xs) (m : Below W.heap.size W W' := by with_reducible repeat (first | exact Below.refl _ _ | apply below_alloc | apply pw_below_drewN | apply below_drew1)) : d.R e W' base ok v xs := Kd.R_below h m
theorem eq_a {α : Type} {a b : α} (h : a = b := by first | rfl | (simp [errW_none, errW_some] <;> rfl) | (simp [*, errW_none, errW_some] <;> rfl)) : a = b := h
theorem eq_b {α : Type} {a b : α} (h : a = b := by first | rfl | (simp; done) | (simp [*]; done)) : a = b := h
theorem args_a {α : Type} {a b : α} (h : a = b := by (try simp only [List.map_toArray, List.map_cons, List.map_nil]); first | done | rfl | (simp only [List.length_drop, List.length_take]; rfl)) : a = b := h
abbrev Y' : Bool := true
abbrev Z' : Bool := false
theorem bc2_ {W : World} {g : Nat} {t : TypeId} {a0 a1 : Value} (h : W.heap[g]? = some (.cells #[a0, a1] t (0, 0))) : W.cell? ⟨g, 0, none⟩ = some a0 ∧ W.cell? ⟨g, 1, none⟩ = some a1 ∧ W.frozen? ⟨g, 0, none⟩ = false ∧ W.frozen? ⟨g, 1, none⟩ = false := ⟨(blk_cell h 0).trans rfl, (blk_cell h 1).trans rfl, blk_frozen h 0, blk_frozen h 1⟩
theorem bc3_ {W : World} {g : Nat} {t : TypeId} {a0 a1 a2 : Value} (h : W.heap[g]? = some (.cells #[a0, a1, a2] t (0, 0))) : W.cell? ⟨g, 0, none⟩ = some a0 ∧ W.cell? ⟨g, 1, none⟩ = some a1 ∧ W.cell? ⟨g, 2, none⟩ = some a2 ∧ W.frozen? ⟨g, 0, none⟩ = false ∧ W.frozen? ⟨g, 1, none⟩ = false ∧ W.frozen? ⟨g, 2, none⟩ = false := ⟨(blk_cell h 0).trans rfl, (blk_cell h 1).trans rfl, (blk_cell h 2).trans rfl, blk_frozen h 0, blk_frozen h 1, blk_frozen h 2⟩
theorem bc4_ {W : World} {g : Nat} {t : TypeId} {a0 a1 a2 a3 : Value} (h : W.heap[g]? = some (.cells #[a0, a1, a2, a3] t (0, 0))) : W.cell? ⟨g, 0, none⟩ = some a0 ∧ W.cell? ⟨g, 1, none⟩ = some a1 ∧ W.cell? ⟨g, 2, none⟩ = some a2 ∧ W.cell? ⟨g, 3, none⟩ = some a3 ∧ W.frozen? ⟨g, 0, none⟩ = false ∧ W.frozen? ⟨g, 1, none⟩ = false ∧ W.frozen? ⟨g, 2, none⟩ = false ∧ W.frozen? ⟨g, 3, none⟩ = false := ⟨(blk_cell h 0).trans rfl, (blk_cell h 1).trans rfl, (blk_cell h 2).trans rfl, (blk_cell h 3).trans rfl, blk_frozen h 0, blk_frozen h 1, blk_frozen h 2, blk_frozen h 3⟩
theorem bc5_ {W : World} {g : Nat} {t : TypeId} {a0 a1 a2 a3 a4 : Value} (h : W.heap[g]? = some (.cells #[a0, a1, a2, a3, a4] t (0, 0))) : W.cell? ⟨g, 0, none⟩ = some a0 ∧ W.cell? ⟨g, 1, none⟩ = some a1 ∧ W.cell? ⟨g, 2, none⟩ = some a2 ∧ W.cell? ⟨g, 3, none⟩ = some a3 ∧ W.cell? ⟨g, 4, none⟩ = some a4 ∧ W.frozen? ⟨g, 0, none⟩ = false ∧ W.frozen? ⟨g, 1, none⟩ = false ∧ W.frozen? ⟨g, 2, none⟩ = false ∧ W.frozen? ⟨g, 3, none⟩ = false ∧ W.frozen? ⟨g, 4, none⟩ = false := ⟨(blk_cell h 0).trans rfl, (blk_cell h 1).trans rfl, (blk_cell h 2).trans rfl, (blk_cell h 3).trans rfl, (blk_cell h 4).trans rfl, blk_frozen h 0, blk_frozen h 1, blk_frozen h 2, blk_frozen h 3, blk_frozen h 4⟩
theorem info5 : (Try.prog.info? 5).map (fun i => (i.zero, i.size, i.bytes)) = some (some (.int .u8 0), 1, 1) := by kernel_rfl
theorem info59 : (Try.prog.info? 59).map (fun i => (i.zero, i.size, i.bytes)) = some (some (.agg #[(.int .i64 0), (.slice none 0 0)]), 2, 32) := by kernel_rfl
def rd_L2 (xs : List (List Int)) (i : Int) : (List Int) := xs.getD i.toNat ([] : List Int)
theorem at_L2 {w : World} {A : Option Addr} {n : Nat} {xs : List (List Int)} (h : Kd.C (Kd.slice 5 (Kd.int .u8)) w A n xs) (i : Int) (h0 : 0 ≤ i) (h1 : i < n) : ∃ ad A0 c0, A = some ad ∧ w.cell? (ad.add i.toNat) = some (.slice A0 (rd_L2 xs i).length c0) ∧ (rd_L2 xs i).length ≤ c0 ∧ (Kd.int .u8).C w A0 (rd_L2 xs i).length (rd_L2 xs i) := by
  obtain ⟨ad, c, e, _, hK, Aa⟩ := Kd.C_get h ([] : List Int) i h0 h1
  have hc : ∀ j u, c[j]? = some u → w.cell? (ad.add (i.toNat * 1 + j)) = some u := Aa
  obtain ⟨A0, c0, rfl, l0, g0⟩ := hK
  exact ⟨ad, A0, c0, e, by have hq := hc 0 _ rfl; rwa [Nat.mul_one, Nat.add_zero] at hq, l0, g0⟩
structure S59 where
  f0 : Int
  f1 : (List Int)
def z59 : S59 := ⟨(0 : Int), ([] : List Int)⟩
def k59 : Kd S59 := Kd.iso (Kd.pair (Kd.int .i64) (Kd.slice 5 (Kd.int .u8))) (fun x : S59 => (x.f0, x.f1))
theorem k59_open {w : World} {x : S59} {cs : List Value} (h : k59.K w x cs) : ∃ A1 c1, cs = [.int .i64 x.f0, .slice A1 x.f1.length c1] ∧ x.f1.length ≤ c1 ∧ (Kd.int .u8).C w A1 x.f1.length x.f1 := by
  obtain ⟨_, _, rfl, rfl, ⟨A1, c1, rfl, l1, g1⟩⟩ := h
  exact ⟨A1, c1, rfl, l1, g1⟩
theorem k59_openM {w : World} {base : Nat} {ok : Nat → Prop} {x : S59} {cs : List Value} (h : k59.M w base ok x cs) : ∃ v1, cs = [.int .i64 x.f0, v1] ∧ (Kd.int .u8).R 5 w base ok v1 x.f1 := by
  obtain ⟨_, _, rfl, rfl, ⟨v1, rfl, g1⟩⟩ := h
  exact ⟨v1, rfl, g1⟩
theorem k59_mk (w : World) (x : S59) {A1 : Option Addr} {c1 : Nat} (l1 : x.f1.length ≤ c1) (g1 : (Kd.int .u8).C w A1 x.f1.length x.f1) : k59.K w x [.int .i64 x.f0, .slice A1 x.f1.length c1] := ⟨[.int .i64 x.f0], [.slice A1 x.f1.length c1], rfl, rfl, ⟨A1, c1, rfl, l1, g1⟩⟩
theorem k59_mkM (w : World) (base : Nat) (ok : Nat → Prop) (x : S59) {v1 : Value} (g1 : (Kd.int .u8).R 5 w base ok v1 x.f1) : k59.M w base ok x [.int .i64 x.f0, v1] := ⟨[.int .i64 x.f0], [v1], rfl, rfl, ⟨v1, rfl, g1⟩⟩
theorem k59_openF {W : World} {ok : Nat → Prop} {x : S59} {cs : List Value} (h : Kd.FK k59 W ok x cs) : ∃ A1 c1, cs = [.int .i64 x.f0, .slice A1 x.f1.length c1] ∧ x.f1.length ≤ c1 ∧ Kd.F (Kd.int .u8) W ok A1 x.f1.length x.f1 := by
  obtain ⟨A1, c1, rfl, l1, _⟩ := k59_open (Kd.FK_now h)
  exact ⟨A1, c1, rfl, l1, (fun W' hW => by obtain ⟨A1_, c1_, he, l1_, g1_⟩ := k59_open (h W' hW); injection (Option.some.inj (show some (Value.slice A1 x.f1.length c1) = some (Value.slice A1_ x.f1.length c1_) from congrArg (fun l => l[1]?) he)) with ha_ _ _; rw [ha_]; exact g1_)⟩
theorem k59_mkF (W : World) (ok : Nat → Prop) (x : S59) {A1 : Option Addr} {c1 : Nat} (l1 : x.f1.length ≤ c1) (g1 : Kd.F (Kd.int .u8) W ok A1 x.f1.length x.f1) : Kd.FK k59 W ok x [.int .i64 x.f0, .slice A1 x.f1.length c1] := fun W2 hW => k59_mk W2 x l1 (g1 W2 hW)
def rd_T59 (xs : List S59) (i : Int) : S59 := xs.getD i.toNat z59
theorem at_T59 {w : World} {A : Option Addr} {n : Nat} {xs : List S59} (h : Kd.C k59 w A n xs) (i : Int) (h0 : 0 ≤ i) (h1 : i < n) : ∃ ad A1 c1, A = some ad ∧ w.cell? (ad.add (i.toNat * 2)) = some (.int .i64 (rd_T59 xs i).f0) ∧ w.cell? ⟨(ad.add (i.toNat * 2)).block, (ad.add (i.toNat * 2)).off + 1, none⟩ = some (.slice A1 (rd_T59 xs i).f1.length c1) ∧ (rd_T59 xs i).f1.length ≤ c1 ∧ (Kd.int .u8).C w A1 (rd_T59 xs i).f1.length (rd_T59 xs i).f1 := by
  obtain ⟨ad, c, e, _, hK, Aa⟩ := Kd.C_get h z59 i h0 h1
  have hc : ∀ j u, c[j]? = some u → w.cell? (ad.add (i.toNat * 2 + j)) = some u := Aa
  obtain ⟨A1, c1, rfl, l1, g1⟩ := k59_open hK
  exact ⟨ad, A1, c1, e, hc 0 _ rfl, by rw [← add_field _ _ 1 (by omega)]; exact hc 1 _ rfl, l1, g1⟩
structure S34 where
  f0 : Int
  f1 : (List S59)
structure S48 where
  f0 : Int
  f1 : (List Int)
theorem P4_ : (∀ (a : Act) (n : Nat) (v : Value), a.put (some n) v = { a with tmps := a.tmps.setIfInBounds n v }) ∧ (∀ (a : Act) (v : Value), a.put none v = a) ∧ (∀ (l : List Value) (i : Nat) (x : Value), l.toArray.setIfInBounds i x = (l.set i x).toArray) ∧ (∀ (x y : Value) (l : List Value), (x :: l).set 0 y = y :: l) ∧ (∀ (x y : Value) (l : List Value) (i : Nat), (x :: l).set (i + 1) y = x :: l.set i y) ∧ (∀ n : Int, IntKind.i64.wrap n = wrap64 n) ∧ (∀ n : Int, IntKind.i32.wrap n = wrap32 n) := ⟨fun _ _ _ => rfl, fun _ _ => rfl, fun l i x => List.setIfInBounds_toArray l i x, fun _ _ _ => rfl, fun _ _ _ _ => rfl, i64_w, i32_w⟩
theorem bw_ (g : Nat) {w w1 : World} {o : Obj} (hb : Below w.heap.size w w1) (h : w.heap[g]? = some o := by exact blk_c) : Aside0 (w1.heap[g]? = some o) := ⟨blk_below h hb⟩
theorem bs_ {w W w2 : World} (k : Below W.heap.size W w2) (h : Below w.heap.size w W := by exact below_a) : Aside0 (Below w.heap.size w w2) := ⟨below_step h k⟩
theorem ca_ {α : Type} {d : Kd α} {w w' : World} {A : Option Addr} {n : Nat} {xs : List α} (h : d.C w A n xs) (hb : Below w.heap.size w w' := by repeat (first | (with_reducible exact Below.refl _ _) | apply below_alloc | apply pw_below_drewN | apply below_drew1)) : d.C w' A n xs := Kd.C_below h hb
theorem nf_ {w : World} {a b : Addr} {v : Value} {g : Nat} (h : w.cell? a = some v) (hg : w.heap.size ≤ g) (e : b.block = a.block := by first | rfl | (simp only [add_block]; done)) : b.block ≠ g := by rw [e]; exact Nat.ne_of_lt (Nat.lt_of_lt_of_le (World.block_lt_of_cell? _ _ h) hg)
theorem bi_ {α β : Type} {o : Option α} {f : α → Option β} {b : β} (h : o.bind f = some b) : ∃ a, o = some a ∧ f a = some b := Option.bind_eq_some_iff.mp h
theorem pw_ {P : Program} {ops : Array Oper} {Q : Exit → Act → World → Prop} {md : Region.Mode} {S : World → Prop} {ds : List Nat} (i n : Nat) (v : Value) {oi : Oper} {fuel : Nat} {l : Array Bool} {a : Act} {w : World} (l' : Array Bool) {T : Bool × List (List Nat × List Nat)} (hT : Aside0 (rtab md ops = T)) (hi : ops[i]? = some oi) (hN : oi.dst = some n) (hc : anyT T l.toList l'.toList i = true) (hy : ∀ w, (execOp a.eval oi).run P w = .ok (.value v) w) (a' : Act) (ha : a.put (some n) v = a') (h : wpAnyLast P md ops Q S ds fuel l' a' w)
    (hQ : ∀ c a w, Q (.panic c) (a.put oi.dst v) w → Q (.panic c) a w := by exact fun _ _ _ h => h) (hw : Region.wanted oi (yielded ops a.tmps) = true := by rfl) : wpAnyLast P md ops Q S ds (fuel + 1) l a w := pure_ l' hi hN (any_of hT.out hc) hQ (.inl ⟨hw, hy⟩) ha h
theorem od_ {p : Prop} [Decidable p] (h : decide p = true := by first | (with_reducible assumption) | assumption) : p := of_decide_eq_true h
theorem hc_ {w W : World} {a : Addr} {v : Value} (h : Aside0 (Below w.heap.size w W)) (hx : w.cell? a = some v) : W.cell? a = some v := (h.out.cell (World.block_lt_of_cell? w _ hx)).trans hx
theorem os_ {α β : Type} {a : α} {f : α → Option β} {b : Option β} (h : (some a).bind f = b) : f a = b := (Option.bind_some _ _).symm.trans h
theorem gw_ {w W : World} {g : Nat} (hg : g = W.heap.size) (h : w.heap.size ≤ g := by exact bsz_ hg) : Aside0 (w.heap.size ≤ g) := ⟨h⟩
theorem re_ {α : Type} {d : Kd α} {e base : Nat} {W W' w1 : World} {ok : Nat → Prop} {u v : Value} {xs : List α} (h : Aside0 (d.R e W base ok u xs)) (hb : Below W'.heap.size W' w1) (hbase : ∀ k, v.ownBlock = some k → W'.heap.size ≤ k) (m : Below W.heap.size W W' := by with_reducible repeat (first | exact Below.refl _ _ | apply below_alloc | apply pw_below_drewN | apply below_drew1)) : Aside0 (d.R e w1 base (fun k => ok k ∧ some k ≠ v.ownBlock) u xs) := ⟨Kd.R_elder' (Kd.R_below h.out m) hbase hb⟩
theorem A_ {p : Prop} (h : p) : Aside0 p := ⟨h⟩
theorem bx_ {P : Program} {ops : Array Oper} {rest : List Oper} {o : Oper} {a : Act} {Q : Exit → Act → World → Prop} {W : World} (N : Tmp) (cs : Array Value) (t : TypeId) (hgd : o.guard = none) (hd : o.dst = some N) (hrun : (execOp a.eval o).run P W = .ok (.value (.pointer (some ⟨W.heap.size, 0, none⟩))) (W.alloc (.cells cs t (0, 0))))
    (h : ∀ g, g = W.heap.size → ∀ w1, w1.heap[g]? = some (.cells cs t (0, 0)) → Below W.heap.size W w1 → wpList P ops Q rest (a.put o.dst (.pointer (some ⟨g, 0, none⟩))) w1) : wpList P ops Q (o :: rest) a W := box_event hgd hd hrun h
theorem bp5_ {w : World} {g : Nat} {t : TypeId} {cs cs' : Array Value} {v0 v1 v2 v3 v4 : Value} (h : w.heap[g]? = some (.cells cs t (0, 0))) (e : ((((cs.setIfInBounds 0 v0).setIfInBounds 1 v1).setIfInBounds 2 v2).setIfInBounds 3 v3).setIfInBounds 4 v4 = cs') : (((((w.setCell ⟨g, 0, none⟩ v0).setCell ⟨g, 1, none⟩ v1).setCell ⟨g, 2, none⟩ v2).setCell ⟨g, 3, none⟩ v3).setCell ⟨g, 4, none⟩ v4).heap[g]? = some (.cells cs' t (0, 0)) := blk_put (blk_put (blk_put (blk_put (blk_put h 0 v0 rfl) 1 v1 rfl) 2 v2 rfl) 3 v3 rfl) 4 v4 e
theorem bl_ {w w' : World} {g : Nat} {o : Obj} (h : w.heap[g]? = some o) (m : Below w.heap.size w w' := by with_reducible repeat (first | exact Below.refl _ _ | apply below_alloc | apply pw_below_drewN | apply below_drew1)) : w'.heap[g]? = some o := blk_below h m
theorem ff_ : ¬ (false = true) := by decide
theorem be_ {α : Type} [BEq α] [LawfulBEq α] {a b : α} (h : a = b) : (a == b) = true ∧ (a != b) = false := ⟨beq_iff_eq.mpr h, bne_eq_false_iff_eq.mpr h⟩
theorem nb_ {α : Type} [BEq α] [LawfulBEq α] {a b : α} (h : ¬ a = b) : (a == b) = false ∧ (a != b) = true := ⟨beq_eq_false_iff_ne.mpr h, bne_iff_ne.mpr h⟩
theorem dt_ {a b : Int} (h : a > b) : decide (b < a) = true := decide_eq_true h
theorem df_ {a b : Int} (h : ¬ a > b) : decide (b < a) = false := decide_eq_false h
theorem keep_j {w W0 W : World} {g : Nat} {row : Option Nat} (k : Aside0 (KeepBut w W0 g row)) (h : KeepBut w W g row := by repeat (first | (with_reducible first | exact HK.out | apply KeepBut.set_ | apply keep_drewN | apply keep_drew | apply keep_alloc | refine keep_far ?_ (Aside0.out (by assumption)) _) | exact HK.out)) : KeepBut w W g row := h
theorem keep_i {w W : World} {g : Nat} {row : Option Nat} (h : KeepBut w W g row := by exact keep_j HK) : KeepBut w W g row := h
def ht_ (W : World) (g t : Nat) : Prop := ∃ cs : Array Value, W.heap[g]? = some (.cells cs t (0, 0))
theorem ht_f {W : World} {g t : Nat} {cs : Array Value} (h : Aside0 (W.heap[g]? = some (.cells cs t (0, 0)))) : ht_ W g t := ⟨cs, h.out⟩
theorem ht_l {W : World} {g t : Nat} (o : Obj) (h : ht_ W g t) : ht_ (W.alloc o) g t := h.elim fun cs h => ⟨cs, blk_alloc h o⟩
theorem ht_d {W : World} {g t : Nat} (h : ht_ W g t) : ht_ W.drew g t := h.elim fun cs h => ⟨cs, blk_drew h⟩
theorem ht_n {W : World} {g t : Nat} (n : Nat) (h : ht_ W g t) : ht_ (W.drewN n) g t := h.elim fun cs h => ⟨cs, blk_drewN h n⟩
theorem ht_s {W : World} {g t : Nat} (p : Addr) (u : Value) (h : ht_ W g t) : ht_ (W.setCell p u) g t := by
  obtain ⟨cs, h⟩ := h
  simp only [ht_, World.setCell, Array.getElem?_modify, h]
  split
  · exact ⟨_, rfl⟩
  · exact ⟨cs, rfl⟩
theorem ht_a {W : World} {g t : Nat} (h : ht_ W g t := by repeat (first | (with_reducible exact ht_f (by assumption)) | (with_reducible first | apply ht_l | apply ht_n | apply ht_d | apply ht_s))) : ht_ W g t := h
def rs_ {α : Type} (d : Kd α) (e : Nat) (W W' : World) : Prop := ∀ (base : Nat) (ok : Nat → Prop) (u : Value) (xs : List α), d.R e W base ok u xs → d.R e W' base ok u xs
theorem rs_r {α : Type} {d : Kd α} {e : Nat} {W : World} : rs_ d e W W := fun _ _ _ _ h => h
theorem rs_l {α : Type} {d : Kd α} {e : Nat} {W W' : World} (o : Obj) (h : rs_ d e W W') : rs_ d e W (W'.alloc o) := fun _ _ _ _ x => Kd.R_alloc (h _ _ _ _ x) o
theorem rs_d {α : Type} {d : Kd α} {e : Nat} {W W' : World} (h : rs_ d e W W') : rs_ d e W W'.drew := fun _ _ _ _ x => Kd.R_drew (h _ _ _ _ x)
theorem rs_n {α : Type} {d : Kd α} {e : Nat} {W W' : World} (n : Nat) (h : rs_ d e W W') : rs_ d e W (W'.drewN n) := fun _ _ _ _ x => Kd.R_drewN (h _ _ _ _ x) n
theorem rs_s {α : Type} {d : Kd α} {e : Nat} {W W' : World} {g o t : Nat} {v : Value} (h : rs_ d e W W') (hb : ht_ W' g t) (ht : ∀ q, q ∈ e :: d.E → q ≠ t) : rs_ d e W (W'.setCell ⟨g, o, none⟩ v) := fun _ _ _ _ x => hb.elim fun _ hb => Kd.R_mono (Kd.R_far (Kd.R_types (h _ _ _ _ x) hb ht) (fun _ hk => hk.2) v) (fun _ h_ => h_.1)
theorem rs_a {α : Type} {d : Kd α} {e : Nat} {W W' : World} (h : rs_ d e W W' := by with_reducible repeat (first | exact rs_r | apply rs_l | apply rs_n | apply rs_d | refine rs_s ?_ ht_a (by decide))) : rs_ d e W W' := h
theorem rp_ {α : Type} {d : Kd α} {e base : Nat} {W W' : World} {ok ok' : Nat → Prop} {u : Value} {xs : List α} (h : Aside0 (d.R e W base ok u xs)) (s : rs_ d e W W' := by exact rs_a) (k : ∀ k, ok k → ok' k := by first | exact fun _ h_ => h_ | exact fun _ _ => trivial | (intro k_ hk_; and_intros <;> first | exact hk_ | exact hk_.1 | exact hk_.2 | exact hk_.1.1 | exact hk_.1.2 | exact hk_.2.1 | exact hk_.2.2 | simp [hk_])) : d.R e W' base ok' u xs := Kd.R_mono (s _ _ _ _ h.out) k
theorem rv_ {α : Type} {d : Kd α} {e base : Nat} {W W' w1 : World} {ok : Nat → Prop} {u : Value} {xs : List α} (h : Aside0 (d.R e W base ok u xs)) (hb : Below W'.heap.size W' w1) (s : rs_ d e W W' := by exact rs_a) : Aside0 (d.R e w1 base ok u xs) := ⟨Kd.R_below (s _ _ _ _ h.out) hb⟩
def ns_ {α : Type} (d : Kd α) (e : Nat) (ok : Nat → Prop) (W W' : World) : Prop := ∀ (base : Nat) (u : Value) (xs : List α), d.N e W base ok u xs → d.N e W' base ok u xs
theorem ns_r {α : Type} {d : Kd α} {e : Nat} {ok : Nat → Prop} {W : World} : ns_ d e ok W W := fun _ _ _ h => h
theorem ns_l {α : Type} {d : Kd α} {e : Nat} {ok : Nat → Prop} {W W' : World} (o : Obj) (h : ns_ d e ok W W') : ns_ d e ok W (W'.alloc o) := fun _ _ _ x => Kd.N_alloc (h _ _ _ x) o
theorem ns_d {α : Type} {d : Kd α} {e : Nat} {ok : Nat → Prop} {W W' : World} (h : ns_ d e ok W W') : ns_ d e ok W W'.drew := fun _ _ _ x => Kd.N_drew (h _ _ _ x)
theorem ns_n {α : Type} {d : Kd α} {e : Nat} {ok : Nat → Prop} {W W' : World} (n : Nat) (h : ns_ d e ok W W') : ns_ d e ok W (W'.drewN n) := fun _ _ _ x => Kd.N_drewN (h _ _ _ x) n
theorem ns_s {α : Type} {d : Kd α} {e : Nat} {ok : Nat → Prop} {W W' : World} {g o : Nat} {v : Value} (h : ns_ d e ok W W') (hok : ∀ k, ok k → k ≠ g) : ns_ d e ok W (W'.setCell ⟨g, o, none⟩ v) := fun _ _ _ x => Kd.N_far (h _ _ _ x) (p := ⟨g, o, none⟩) hok v
theorem ns_a {α : Type} {d : Kd α} {e : Nat} {ok : Nat → Prop} {W W' : World} (h : ns_ d e ok W W' := by repeat (first | (with_reducible exact ns_r) | (with_reducible first | apply ns_l | apply ns_n | apply ns_d) | (with_reducible refine ns_s ?_ ?hok_; case hok_ => first | (intro k_ hk_; (repeat (first | exact hk_.1 | exact hk_ | replace hk_ := hk_.2)); done) | (intro k_ hk_; (try dsimp only at hk_); simp only [hk_, ne_eq, not_false_eq_true]; done)))) : ns_ d e ok W W' := h
theorem np_ {α : Type} {d : Kd α} {e base : Nat} {W W' : World} {ok ok' : Nat → Prop} {u : Value} {xs : List α} (h : Aside0 (d.N e W base ok u xs)) (s : ns_ d e ok W W' := by exact ns_a) (k : ∀ k, ok k → ok' k := by first | exact fun _ h_ => h_ | exact fun _ _ => trivial | (intro k_ hk_; and_intros <;> first | exact hk_ | exact hk_.1 | exact hk_.2 | exact hk_.1.1 | exact hk_.1.2 | exact hk_.2.1 | exact hk_.2.2 | simp [hk_])) : d.N e W' base ok' u xs := Kd.N_mono (s _ _ _ h.out) k
theorem nv_ {α : Type} {d : Kd α} {e base : Nat} {W W' w1 : World} {ok : Nat → Prop} {u : Value} {xs : List α} (h : Aside0 (d.N e W base ok u xs)) (hb : Below W'.heap.size W' w1) (s : ns_ d e ok W W' := by exact ns_a) : Aside0 (d.N e w1 base ok u xs) := ⟨Kd.N_below (s _ _ _ h.out) hb⟩
theorem bt_p {w : World} {g : Nat} {t : TypeId} {cs : Array Value} {i : Nat} {u : Value} (h : w.heap[g]? = some (.cells cs t (0, 0))) : (w.setCell ⟨g, i, none⟩ u).heap[g]? = some (.cells (cs.setIfInBounds i u) t (0, 0)) := blk_put h i u rfl
theorem bk_a {W : World} {g : Nat} {t : TypeId} {cs cs' : Array Value} (h : W.heap[g]? = some (.cells cs t (0, 0)) := by repeat (first | (with_reducible exact Aside0.out (by assumption)) | (with_reducible first | apply blk_drewN | apply blk_drew | apply blk_alloc | apply bt_p | apply blk_far_))) (e : cs = cs' := by rfl) : W.heap[g]? = some (.cells cs' t (0, 0)) := e ▸ h
theorem cr_ {α : Type} {d : Kd α} {e base n c : Nat} {W W' : World} {ok : Nat → Prop} {A : Option Addr} {xs : List α} (h : Aside0 (d.R e W base ok (.slice A n c) xs)) (m : Below W.heap.size W W' := by with_reducible repeat (first | exact Below.refl _ _ | apply below_alloc | apply pw_below_drewN | apply below_drew1)) : d.C W' A xs.length xs := Kd.C_below (Kd.R_reads' h.out).2.2 m
theorem cl_ {α : Type} {d : Kd α} {e base n c : Nat} {W : World} {ok : Nat → Prop} {A : Option Addr} {xs : List α} (h : Aside0 (d.R e W base ok (.slice A n c) xs)) : n ≤ c := (Kd.R_reads' h.out).2.1
theorem nn_ {a b : Nat} (h : Aside0 (a ≠ b)) : a ≠ b ∧ b ≠ a := ⟨h.out, h.out.symm⟩
theorem bd_ {w : World} {g : Nat} {o : Obj} (h : Aside0 (w.heap[g]? = some o)) : Aside0 (w.drew.heap[g]? = some o) := ⟨blk_drew h.out⟩
theorem hd_ {α : Type} {d : Kd α} {e base : Nat} {W : World} {ok : Nat → Prop} {u : Value} {xs : List α} (h : Aside0 (d.R e W base ok u xs)) : Aside0 (d.R e W.drew base ok u xs) := ⟨Kd.R_drew h.out⟩
theorem g1_ {α : Type} {d : Kd α} {e base : Nat} {W W1 W' : World} {ok : Nat → Prop} {u : Value} {xs : List α} (q : W1 = W') (h : Aside0 (d.R e W base ok u xs)) (s : rs_ d e W W1 := by exact rs_a) : Aside0 (d.R e W' base ok u xs) := q ▸ ⟨s _ _ _ _ h.out⟩
theorem g2_ {α : Type} {d : Kd α} {e base : Nat} {W W1 W' : World} {ok : Nat → Prop} {u : Value} {xs : List α} (q : W1 = W') (h : Aside0 (d.N e W base ok u xs)) (s : ns_ d e ok W W1 := by exact ns_a) : Aside0 (d.N e W' base ok u xs) := q ▸ ⟨s _ _ _ h.out⟩
theorem gb_ {W W1 W' : World} {g t : Nat} {cs : Array Value} (q : W1 = W') (h : Aside0 (W.heap[g]? = some (.cells cs t (0, 0)))) (k : W1.heap[g]? = some (.cells cs t (0, 0)) := by exact bk_a) : Aside0 (W'.heap[g]? = some (.cells cs t (0, 0))) := q ▸ ⟨k⟩
theorem kt_ {w W w1 : World} {g : Nat} {row row1 : Option Nat} (k : KeepBut W w1 g row1) (h : KeepBut w W g row := by exact keep_i) (hr : row1 = row ∨ ∃ b, row1 = some b ∧ w.heap.size ≤ b := by exact .inl rfl) : Aside0 (KeepBut w w1 g row) := ⟨KeepBut.trans h k hr⟩
theorem kb_ (g' : Nat) {W w1 : World} {g : Nat} {o : Obj} (hk : KeepBut W w1 g none) (h : W.heap[g']? = some o := by exact blk_c) (hne : g' ≠ g := by exact Aside0.out (by assumption)) : Aside0 (w1.heap[g']? = some o) := ⟨KeepBut.blk hk h hne (by simp)⟩
theorem by_ {P : Program} {ops : Array Oper} {rest : List Oper} {o : Oper} {a : Act} {Q : Exit → Act → World → Prop} {W : World} (N : Tmp) (cs : Array Value) (t : TypeId)
    (h : ∀ g, g = W.heap.size → ∀ w1, w1.heap[g]? = some (.cells cs t (0, 0)) → Below W.heap.size W w1 → wpList P ops Q rest (a.put o.dst (.pointer (some ⟨g, 0, none⟩))) w1) (hgd : o.guard = none := by rfl) (hd : o.dst = some N := by rfl) (hrun : (execOp a.eval o).run P W = .ok (.value (.pointer (some ⟨W.heap.size, 0, none⟩))) (W.alloc (.cells cs t (0, 0))) := by go_simp <;> rfl) : wpList P ops Q (o :: rest) a W := box_event hgd hd hrun h
theorem gl_ {P : Program} {ops : Array Oper} {rest : List Oper} {oi : Oper} {a : Act} {w : World} {Q : Exit → Act → World → Prop} (N : Option Tmp) {f : FuncId} {fn : Func} (hf : P.funcs[f]? = some fn) {ar : Array Operand} {ts : Array TypeId} (xs : Array Value)
    (h : Calls P f xs w fun e w' => ∃ v, e = .returned v ∧ wpList P ops Q rest (a.put N v) w') (hd : oi.dst = N := by rfl) (hg : oi.guard = none := by rfl) (hop : oi.op = .call { callee := .value (.func f), args := ar, argTypes := ts } := by rfl) (hname : (fn.name == "runtime.NumGoroutine") = false := by kernel_rfl) (hb : fn.body.isSome = true := by rfl)
    (hargs : ar.map a.eval = xs := by exact args_a) : wpList P ops Q (oi :: rest) a w := goesL_ N hd hg hf hname hb xs hop hargs h
theorem s2_ {α β : Type} {a a' : α} {b b' : β} (h : some (a, b) = some (a', b')) : a = a' ∧ b = b' := by simpa using h
theorem s3_ {α β γ : Type} {a a' : α} {b b' : β} {c c' : γ} (h : some (a, b, c) = some (a', b', c')) : a = a' ∧ b = b' ∧ c = c' := by simpa using h
theorem s5_ {α β γ δ ε : Type} {a a' : α} {b b' : β} {c c' : γ} {d d' : δ} {e e' : ε} (h : some (a, b, c, d, e) = some (a', b', c', d', e')) : a = a' ∧ b = b' ∧ c = c' ∧ d = d' ∧ e = e' := by simpa using h
theorem bz2_ {W : World} {g t : Nat} {cs : Array Value} {v0 v1 : Value} (h : W.heap[g]? = some (.cells cs t (0, 0))) (e0 : cs[0]? = some v0 := by rfl) (e1 : cs[1]? = some v1 := by rfl) : W.cell? ⟨g, 0, none⟩ = some v0 ∧ W.cell? ⟨g, 1, none⟩ = some v1 := ⟨(blk_cell h 0).trans e0, (blk_cell h 1).trans e1⟩
theorem by2_ {W : World} {g t : Nat} {cs : Array Value} {v0 v1 : Value} {R : Prop} (h : W.heap[g]? = some (.cells cs t (0, 0))) (r : R) (e0 : cs[0]? = some v0 := by rfl) (e1 : cs[1]? = some v1 := by rfl) : W.cell? ⟨g, 0, none⟩ = some v0 ∧ W.cell? ⟨g, 1, none⟩ = some v1 ∧ R := ⟨(blk_cell h 0).trans e0, (blk_cell h 1).trans e1, r⟩
theorem by3_ {W : World} {g t : Nat} {cs : Array Value} {v0 v1 v2 : Value} {R : Prop} (h : W.heap[g]? = some (.cells cs t (0, 0))) (r : R) (e0 : cs[0]? = some v0 := by rfl) (e1 : cs[1]? = some v1 := by rfl) (e2 : cs[2]? = some v2 := by rfl) : W.cell? ⟨g, 0, none⟩ = some v0 ∧ W.cell? ⟨g, 1, none⟩ = some v1 ∧ W.cell? ⟨g, 2, none⟩ = some v2 ∧ R := ⟨(blk_cell h 0).trans e0, (blk_cell h 1).trans e1, (blk_cell h 2).trans e2, r⟩
theorem bz4_ {W : World} {g t : Nat} {cs : Array Value} {v0 v1 v2 v3 : Value} (h : W.heap[g]? = some (.cells cs t (0, 0))) (e0 : cs[0]? = some v0 := by rfl) (e1 : cs[1]? = some v1 := by rfl) (e2 : cs[2]? = some v2 := by rfl) (e3 : cs[3]? = some v3 := by rfl) : W.cell? ⟨g, 0, none⟩ = some v0 ∧ W.cell? ⟨g, 1, none⟩ = some v1 ∧ W.cell? ⟨g, 2, none⟩ = some v2 ∧ W.cell? ⟨g, 3, none⟩ = some v3 := ⟨(blk_cell h 0).trans e0, (blk_cell h 1).trans e1, (blk_cell h 2).trans e2, (blk_cell h 3).trans e3⟩
theorem by4_ {W : World} {g t : Nat} {cs : Array Value} {v0 v1 v2 v3 : Value} {R : Prop} (h : W.heap[g]? = some (.cells cs t (0, 0))) (r : R) (e0 : cs[0]? = some v0 := by rfl) (e1 : cs[1]? = some v1 := by rfl) (e2 : cs[2]? = some v2 := by rfl) (e3 : cs[3]? = some v3 := by rfl) : W.cell? ⟨g, 0, none⟩ = some v0 ∧ W.cell? ⟨g, 1, none⟩ = some v1 ∧ W.cell? ⟨g, 2, none⟩ = some v2 ∧ W.cell? ⟨g, 3, none⟩ = some v3 ∧ R := ⟨(blk_cell h 0).trans e0, (blk_cell h 1).trans e1, (blk_cell h 2).trans e2, (blk_cell h 3).trans e3, r⟩
theorem bz5_ {W : World} {g t : Nat} {cs : Array Value} {v0 v1 v2 v3 v4 : Value} (h : W.heap[g]? = some (.cells cs t (0, 0))) (e0 : cs[0]? = some v0 := by rfl) (e1 : cs[1]? = some v1 := by rfl) (e2 : cs[2]? = some v2 := by rfl) (e3 : cs[3]? = some v3 := by rfl) (e4 : cs[4]? = some v4 := by rfl) : W.cell? ⟨g, 0, none⟩ = some v0 ∧ W.cell? ⟨g, 1, none⟩ = some v1 ∧ W.cell? ⟨g, 2, none⟩ = some v2 ∧ W.cell? ⟨g, 3, none⟩ = some v3 ∧ W.cell? ⟨g, 4, none⟩ = some v4 := ⟨(blk_cell h 0).trans e0, (blk_cell h 1).trans e1, (blk_cell h 2).trans e2, (blk_cell h 3).trans e3, (blk_cell h 4).trans e4⟩
theorem by5_ {W : World} {g t : Nat} {cs : Array Value} {v0 v1 v2 v3 v4 : Value} {R : Prop} (h : W.heap[g]? = some (.cells cs t (0, 0))) (r : R) (e0 : cs[0]? = some v0 := by rfl) (e1 : cs[1]? = some v1 := by rfl) (e2 : cs[2]? = some v2 := by rfl) (e3 : cs[3]? = some v3 := by rfl) (e4 : cs[4]? = some v4 := by rfl) : W.cell? ⟨g, 0, none⟩ = some v0 ∧ W.cell? ⟨g, 1, none⟩ = some v1 ∧ W.cell? ⟨g, 2, none⟩ = some v2 ∧ W.cell? ⟨g, 3, none⟩ = some v3 ∧ W.cell? ⟨g, 4, none⟩ = some v4 ∧ R := ⟨(blk_cell h 0).trans e0, (blk_cell h 1).trans e1, (blk_cell h 2).trans e2, (blk_cell h 3).trans e3, (blk_cell h 4).trans e4, r⟩
theorem p1_ {P : Program} {ops : Array Oper} {Q : Exit → Act → World → Prop} {md : Region.Mode} {S : World → Prop} {ds : List Nat} (i : Nat) {n : Nat} {v : Value} {oi : Oper} {fuel : Nat} {l : Array Bool} {a : Act} {w : World} (l' : Array Bool) {T : Bool × List (List Nat × List Nat)} (hT : Aside0 (rtab md ops = T)) {a' : Act} (h : wpAnyLast P md ops Q S ds fuel l' a' w)
    (hi : ops[i]? = some oi := by exact rfl) (hN : oi.dst = some n := by exact rfl) (hc : anyT T l.toList l'.toList i = true := by kernel_rfl) (hy : ∀ w, (execOp a.eval oi).run P w = .ok (.value v) w := by intro w'; go_simp; with_reducible rfl) (ha : a.put (some n) v = a' := by simp only [P4_]; rfl)
    (hQ : ∀ c a w, Q (.panic c) (a.put oi.dst v) w → Q (.panic c) a w := by exact fun _ _ _ h => h) (hw : Region.wanted oi (yielded ops a.tmps) = true := by rfl) : wpAnyLast P md ops Q S ds (fuel + 1) l a w := pw_ i n v l' hT hi hN hc hy a' ha h hQ hw
theorem t1_ {P : Program} {ops : Array Oper} {Q : Exit → Act → World → Prop} {S : World → Prop} {md : Region.Mode} {ds : List Nat} (i : Nat) {n : Nat} {oi : Oper} {v : Value} {fuel : Nat} {l : Array Bool} {a : Act} {w : World} (l' : Array Bool) {T : Bool × List (List Nat × List Nat)} {B : List Nat} (hT : Aside0 (rtab md ops = T)) (hB : Aside0 (waitsOk T.2 B = true)) (hS : S w) {a' : Act} (h : wpAnyLast P md ops Q S ds fuel l' a' w)
    (hi : ops[i]? = some oi := by exact rfl) (hN : oi.dst = some n := by exact rfl) (hc : takeW T B ds l.toList l'.toList i = true := by kernel_rfl) (hQ : ∀ c a w, Q (.panic c) (a.put oi.dst v) w → Q (.panic c) a w := by exact fun _ _ _ h => h) (hw : Region.wanted oi (yielded ops a.tmps) = true := by rfl)
    (hy : ∀ w', S w' → (execOp a.eval oi).run P w' = .ok (.value v) w' := by intro w' hS_; (try dsimp only at hS_); go_simp; with_reducible rfl) (ha : a.put (some n) v = a' := by simp only [P4_]; rfl) : wpAnyLast P md ops Q S ds (fuel + 1) l a w :=
  take_ l' hi hN (take_ofW hT.out hB.out hc) hQ (Or.inl ⟨hw, hy⟩) hS ha h
theorem u1_ {P : Program} {ops : Array Oper} {Q : Exit → Act → World → Prop} {md : Region.Mode} {S : World → Prop} {ds : List Nat} (i : Nat) {n : Nat} {oi : Oper} {fuel : Nat} {l : Array Bool} {a : Act} {w : World} (l' : Array Bool) {T : Bool × List (List Nat × List Nat)} (hT : Aside0 (rtab md ops = T)) {a' : Act} (h : wpAnyLast P md ops Q S ds fuel l' a' w)
    (hi : ops[i]? = some oi := by exact rfl) (hN : oi.dst = some n := by exact rfl) (hc : anyT T l.toList l'.toList i = true := by kernel_rfl) (hQ : ∀ c a w, Q (.panic c) (a.put oi.dst undef) w → Q (.panic c) a w := by exact fun _ _ _ h => h) (hw : Region.wanted oi (yielded ops a.tmps) = false := by rfl) (ha : a.put (some n) undef = a' := by simp only [P4_]; rfl) : wpAnyLast P md ops Q S ds (fuel + 1) l a w :=
  pure_ l' hi hN (any_of hT.out hc) hQ (.inr ⟨hw, rfl⟩) ha h
theorem o1_ {P : Program} {ops : Array Oper} {Q : Exit → Act → World → Prop} {md : Region.Mode} {S : World → Prop} {ds : List Nat} (i : Nat) {N : Option Tmp} {oi : Oper} {fuel : Nat} {l : Array Bool} {a : Act} {w : World} (l' : Array Bool) {T : Bool × List (List Nat × List Nat)} (hT : Aside0 (rtab md ops = T))
    (h : ∀ K : Act → World → Prop, Shut (∀ a' w', S w' → (S w' → wpAnyLast P md ops Q S ds fuel l' a' w') → K a' w') → if Region.wanted oi (yielded ops a.tmps) = true then Oper.wp P oi a w K Q else K (a.put N undef) w)
    (hi : ops[i]? = some oi := by exact rfl) (hN : oi.dst = N := by exact rfl) (hc : (readyT T.2 l.toList == [i] && l.toList.set i true == l'.toList) = true := by kernel_rfl) (hd : i ∉ ds := by decide) : wpAnyLast P md ops Q S ds (fuel + 1) l a w := one_ l' hi hN (one_of hT.out hc) hd h
theorem b1_ {P : Program} {ops : Array Oper} {Q : Exit → Act → World → Prop} {o : Oper} {a : Act} {Kc : Act → World → Prop} {W : World} (N : Tmp) (cs : Array Value) (t : TypeId) {u : Option Tmp}
    (h : ∀ g, g = W.heap.size → ∀ w1, w1.heap[g]? = some (.cells cs t (0, 0)) → Below W.heap.size W w1 → Kc (a.put o.dst (.pointer (some ⟨g, 0, none⟩))) w1) (hw : Region.wanted o (yielded ops a.tmps) = true := by rfl) (hd : o.dst = some N := by exact rfl)
    (hrun : (execOp a.eval o).run P W = .ok (.value (.pointer (some ⟨W.heap.size, 0, none⟩))) (W.alloc (.cells cs t (0, 0))) := by go_simp <;> rfl) (hu : o.dst = u := by exact rfl) : if Region.wanted o (yielded ops a.tmps) = true then Oper.wp P o a W Kc Q else Kc (a.put u undef) W := hu ▸ box_step hw hd hrun h
theorem k1_ {P : Program} {ops : Array Oper} {Q : Exit → Act → World → Prop} {md : Region.Mode} {S : World → Prop} {ds : List Nat} {fuel n : Nat} {v : Value} {l : Array Bool} {a a' : Act} {w : World} {K : Act → World → Prop} (hK : Shut (∀ a' w', S w' → (S w' → wpAnyLast P md ops Q S ds fuel l a' w') → K a' w')) (hS : S w) (h : S w → wpAnyLast P md ops Q S ds fuel l a' w) (ha : a.put (some n) v = a' := by simp only [P4_]; rfl) : K (a.put (some n) v) w := hK.out _ _ hS fun x => ha ▸ h x
theorem d1_ {P : Program} {ops : Array Oper} {rest : List Oper} {o : Oper} {a : Act} {Q : Exit → Act → World → Prop} {W : World} (N : Tmp) (h : wpList P ops Q (o :: rest) a W) (e : o.dst = some N := by with_reducible rfl) : wpList P ops Q (o :: rest) a W := h
theorem f1_ {P : Program} {ops : Array Oper} {rest : List Oper} {o : Oper} {a : Act} {Q : Exit → Act → World → Prop} {W : World} (f : FuncId) {ar : Array Operand} {ts : Array TypeId} (h : wpList P ops Q (o :: rest) a W) (e : o.op = .call { callee := .value (.func f), args := ar, argTypes := ts } := by with_reducible rfl) : wpList P ops Q (o :: rest) a W := h
theorem s1_ {P : Program} {ops : Array Oper} {rest : List Oper} {o : Oper} {a : Act} {Q : Exit → Act → World → Prop} {W : World} (t : TypeId) (p : Tmp) {v : Operand} (h : wpList P ops Q (o :: rest) a W) (e : o.op = .store t (.tmp p) v := by with_reducible rfl) : wpList P ops Q (o :: rest) a W := h
theorem rc_ {P : Program} {fn : Func} {tmps : Array Value} {w : World} {p : Tmp} {ty : Nat} (g : Nat) {cs : Array Value} {d : TypeDesc} (hu : P.underlying ty = some d) (hg : w.heap[g]? = some (.cells cs ty (0, 0)) := by exact bk_a)
    (hr : fn.results = #[.cell p ty] := by rfl) (hp : tmps.getD p undef = .pointer (some ⟨g, 0, none⟩) := by rfl) (hd : (match d with | .struct _ | .array _ _ => true | _ => false) = true := by rfl) (hi : (P.info? ty).map (·.size) = some cs.size := by kernel_rfl) : (results fn tmps).run P w = .ok (.agg cs) w := results_cell_row hr tmps w g ty cs (0, 0) d hp hg hu hd hi
theorem iq_ {α : Type} {c : Prop} [Decidable c] {x : Option α} {r : α} (H : (if c then x else none) = some r) : c ∧ x = some r := by
  by_cases h : c
  · exact ⟨h, (if_pos h).symm.trans H⟩
  · rw [if_neg h] at H; cases H
theorem ey_ {α : Type} (v : α) : ∃ y, y = v := ⟨v, rfl⟩
theorem nm_ {P : Program} {ops : Array Oper} {Q : Exit → Act → World → Prop} {md : Region.Mode} {S : World → Prop} {ds : List Nat} {fuel : Nat} {l : Array Bool} {a a' : Act} {w : World} (h : wpAnyLast P md ops Q S ds fuel l a' w) (ha : a = a' := by simp only [putAll, Act.put, List.setIfInBounds_toArray, List.set_cons_zero, List.set_cons_succ]) : wpAnyLast P md ops Q S ds fuel l a w := norm_ ha h
theorem gs_ {P : Program} {ops : Array Oper} {Q : Exit → Act → World → Prop} {oi : Oper} {N : Option Tmp} {a : Act} {w : World} {K : Act → World → Prop} {f : FuncId} {fn : Func} (hf : P.funcs[f]? = some fn) {ar : Array Operand} {ts : Array TypeId} (xs : Array Value) (h : Calls P f xs w fun e w' => ∃ v, e = .returned v ∧ K (a.put N v) w') (hw : Region.wanted oi (yielded ops a.tmps) = true := by rfl) (hN : oi.dst = N := by exact rfl)
    (hop : oi.op = .call { callee := .value (.func f), args := ar, argTypes := ts } := by exact rfl) (hname : (fn.name == "runtime.NumGoroutine") = false := by kernel_rfl) (hb : fn.body.isSome = true := by rfl) (hargs : ar.map a.eval = xs := by exact args_a) : if Region.wanted oi (yielded ops a.tmps) = true then Oper.wp P oi a w K Q else K (a.put N undef) w := goes_ hf hname hb xs hw hN hop hargs h
theorem bj_ {α β : Type} {o : Option α} {f : α → Option β} {b : β} (h : o.bind f = some b) : ∃ a, Aside0 (o = some a) ∧ f a = some b := let ⟨a, h1, h2⟩ := Option.bind_eq_some_iff.mp h; ⟨a, ⟨h1⟩, h2⟩
theorem bu_ (g : Nat) {W : World} {g' : Nat} (hg : g' = W.heap.size) (h : g ≠ g' := by exact bne_ hg) : Aside0 (g ≠ g') ∧ Aside0 (g' ≠ g) := ⟨⟨h⟩, ⟨h.symm⟩⟩
end Go.Proofs.Ytiioiohdifkbgaa.MFnLetters
