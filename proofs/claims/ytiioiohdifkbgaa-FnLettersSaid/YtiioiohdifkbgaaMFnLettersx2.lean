-- Laid by a program of this session (the kit's print, turned where it falls short; the texts of functions that it does not take are proved by hand).
import Derived.Test.YtiioiohdifkbgaaMFnLettersx1
namespace Go.Proofs.Ytiioiohdifkbgaa.MFnLetters
open Go.RowKit Go.Proofs.YtiioiohdifkbgaaW.PrintWords Go.Proofs.YtiioiohdifkbgaaW.PrintLast Go.Proofs.YtiioiohdifkbgaaW.PrintMore
set_option maxHeartbeats 80000000
set_option maxRecDepth 100000
attribute [local go_sem] max2_int min2_int max_two min_two max_three min_three max_four min_four   -- for this text's walks alone
set_option linter.unusedVariables false
set_option linter.unusedSimpArgs false
attribute [local go_sem] isSome_setCell
theorem hb1_ {w w1 : World} {g : Nat} {o : Obj} (h : Aside0 (w.heap[g]? = some o)) (hb : Below w.heap.size w w1) : Aside0 (w1.heap[g]? = some o) := ⟨blk_below h.out hb⟩
theorem hb2_ {w W w2 : World} (k : Below W.heap.size W w2) (h : Below w.heap.size w W := by exact below_a) : Aside0 (Below w.heap.size w w2) := ⟨below_step h k⟩
theorem hb3_ {w : World} {g b : Nat} {o : Obj} (h : Aside0 (w.heap[g]? = some o)) (hg : b = w.heap.size) : Aside0 (g ≠ b) := ⟨by rw [hg]; exact Nat.ne_of_lt (blk_lt h.out)⟩
theorem hb4_ {w w1 : World} {g b : Nat} {o : Obj} (h : Aside0 (w.heap[g]? = some o)) (hg : w.grownBy w1 (some b)) (n : Aside0 (g ≠ b)) : Aside0 (w1.heap[g]? = some o) := ⟨blk_grown h.out hg (fun e_ => n.out (by injection e_))⟩
theorem hb5_ {w w1 : World} {g b : Nat} {o : Obj} (h : Aside0 (w.heap[g]? = some o)) (hg : w.grownBy w1 (some b)) (n : Aside0 (b ≠ g)) : Aside0 (w1.heap[g]? = some o) := ⟨blk_grown h.out hg (fun e_ => (Ne.symm n.out) (by injection e_))⟩
theorem hb6_ {w W w1 : World} {b : Nat} (h : Aside0 (Below w.heap.size w W)) (hg : W.grownBy w1 (some b)) (n : Aside0 (w.heap.size ≤ b)) : Aside0 (Below w.heap.size w w1) := ⟨h.out.grown hg h.out.size (fun k_ e_ => by injection e_ with e_; rw [← e_]; exact n.out)⟩
def ub (l : List Int) : Array Value := (l.map (Value.int .u8)).toArray
theorem ub_size (l : List Int) : (ub l).size = l.length := by simp [ub]
theorem ub_get (l : List Int) (i : Nat) (h : i < l.length) : (ub l)[i]? = some (.int .u8 l[i]) := by simp [ub, h]
theorem ub_rd (l : List Int) (i : Int) (h0 : 0 ≤ i) (h : i < l.length) : (ub l)[i.toNat]? = some (.int .u8 (rd l i)) := by
  rw [ub_get l i.toNat (by omega)]
  simp only [rd, List.getD_eq_getElem?_getD]
  rw [List.getElem?_eq_getElem (by omega)]
  rfl
theorem ub_set (l : List Int) (i : Nat) (x : Int) : (ub l).setIfInBounds i (.int .u8 x) = ub (l.set i x) := by
  simp [ub, List.map_set]
theorem ub_one (l : List Int) : (ub l).all (·.oneCell') = true := by
  rw [Array.all_eq_true_iff_forall_mem]
  intro v hv
  simp only [ub, List.mem_toArray, List.mem_map] at hv
  obtain ⟨x, _, rfl⟩ := hv
  rfl
section
variable {P : Program} {ops : Array Oper} {rest : List Oper} {o : Oper} {a : Act} {Q : Exit → Act → World → Prop} {W : World}
theorem arr_load (hgd : o.guard = none) {ty t : TypeId} {p N : Tmp} (ho : o.op = .load ty (.tmp p)) (_hN : o.dst = some N) {g : Nat} {cs : Array Value} {fr : Nat × Nat} {d : TypeDesc} (hp : a.eval (.tmp p) = .pointer (some ⟨g, 0, none⟩)) (hb : W.heap[g]? = some (.cells cs t fr))
    (hu : P.underlying ty = some d) (hd : (match d with | .struct _ | .array _ _ => true | _ => false) = true) (hi : (P.info? ty).map (·.size) = some cs.size) (h : wpList P ops Q rest (a.put o.dst (.agg cs)) W) : wpList P ops Q (o :: rest) a W := by
  refine wpList_plain hgd fun K hK => ?_
  unfold Oper.wp execOp
  simp only [ho, hp, Instr.loadAt, Instr.sureAddr, Sem.run_bind, Sem.run_pure, Result.andThen_ok, run_loadVar_row W g t ty cs fr d hb hu hd hi]
  exact hK _ _ h
theorem arr_store (hgd : o.guard = none) {ty t : TypeId} {p : Tmp} {x : Operand} (ho : o.op = .store ty (.tmp p) x) (hN : o.dst = none) {g : Nat} {cs cs' : Array Value} (hp : a.eval (.tmp p) = .pointer (some ⟨g, 0, none⟩)) (hx : a.eval x = .agg cs') (hb : W.heap[g]? = some (.cells cs t (0, 0)))
    (hi : (P.info? ty).map (·.size) = some cs'.size) (hs : cs.size = cs'.size) (h1 : cs'.all (·.oneCell') = true) (h : ∀ w1, w1.heap[g]? = some (.cells cs' t (0, 0)) → W.grownBy w1 (some g) → wpList P ops Q rest a w1) : wpList P ops Q (o :: rest) a W := by
  have hk := h (W.setRow g cs') (by
    simp only [World.setRow, Array.getElem?_modify, ↓reduceIte, hb]
    rfl) ⟨rfl, rfl, rfl, by simp [World.setRow], fun k hk hne => by
      simp only [World.setRow, Array.getElem?_modify]
      rw [if_neg (fun e => hne (by rw [e]))]⟩
  refine wpList_plain hgd fun K hK => ?_
  unfold Oper.wp execOp
  simp only [ho, hp, hx, Instr.storeAt, Instr.sureAddr, Sem.run_bind, Sem.run_pure, Result.andThen_ok, run_storeVar_row W g t ty cs cs' hb hi hs h1]
  show K (a.put o.dst undef) _
  rw [hN]
  exact hK _ _ hk
end
theorem blk_ub {W : World} {g : Nat} {t : TypeId} {l : List Int} (h : W.heap[g]? = some (.cells (ub l) t (0, 0))) (i : Int) (h0 : 0 ≤ i) (h1 : i < l.length) : W.cell? ⟨g, i.toNat, none⟩ = some (.int .u8 (rd l i)) := (blk_cell h _).trans (ub_rd l i h0 h1)
theorem blk_ubput {W : World} {g : Nat} {t : TypeId} {l : List Int} (h : W.heap[g]? = some (.cells (ub l) t (0, 0))) (i : Nat) (x : Int) : (W.setCell ⟨g, i, none⟩ (.int .u8 x)).heap[g]? = some (.cells (ub (l.set i x)) t (0, 0)) := (blk_set h i _).trans (by rw [ub_set])
theorem grown_set (W : World) (p : Addr) (u : Value) : W.grownBy (W.setCell p u) (some p.block) := ⟨rfl, rfl, rfl, by simp [World.setCell], fun k _ hne => Below.heap_setCell W p u k (fun e => hne (by rw [e]))⟩
def sbox : ByteArray := ⟨#[99, 124, 119, 123, 242, 107, 111, 197, 48, 1, 103, 43, 254, 215, 171, 118, 202, 130, 201, 125, 250, 89, 71, 240, 173, 212, 162, 175, 156, 164, 114, 192, 183, 253, 147, 38, 54, 63, 247, 204, 52, 165, 229, 241, 113, 216, 49, 21, 4, 199, 35, 195, 24, 150, 5, 154, 7, 18, 128, 226, 235, 39, 178, 117, 9, 131, 44, 26, 27, 110, 90, 160, 82, 59, 214, 179, 41, 227, 47, 132, 83, 209, 0, 237, 32, 252, 177, 91, 106, 203, 190, 57, 74, 76, 88, 207, 208, 239, 170, 251, 67, 77, 51, 133, 69, 249, 2, 127, 80, 60, 159, 168, 81, 163, 64, 143, 146, 157, 56, 245, 188, 182, 218, 33, 16, 255, 243, 210, 205, 12, 19, 236, 95, 151, 68, 23, 196, 167, 126, 61, 100, 93, 25, 115, 96, 129, 79, 220, 34, 42, 144, 136, 70, 238, 184, 20, 222, 94, 11, 219, 224, 50, 58, 10, 73, 6, 36, 92, 194, 211, 172, 98, 145, 149, 228, 121, 231, 200, 55, 109, 141, 213, 78, 169, 108, 86, 244, 234, 101, 122, 174, 8, 186, 120, 37, 46, 28, 166, 180, 198, 232, 221, 116, 31, 75, 189, 139, 138, 112, 62, 181, 102, 72, 3, 246, 14, 97, 53, 87, 185, 134, 193, 29, 158, 225, 248, 152, 17, 105, 217, 142, 148, 155, 30, 135, 233, 206, 85, 40, 223, 140, 161, 137, 13, 191, 230, 66, 104, 65, 153, 45, 15, 176, 84, 187, 22]⟩
def sbx (x : Int) : Int := bt sbox x
theorem run_idxarr {t n : Nat} (hu : Try.prog.underlying t = some (.array n 5)) (l : List Int) (hl : l.length = n) (i : Int) (h0 : 0 ≤ i) (h1 : i < n) (w : World) : (Instr.index t (.agg (ub l)) (.int .i64 i)).run Try.prog w = .ok (.int .u8 (rd l i)) w := by
  have hc := ub_rd l i h0 (by omega)
  have ha := Try.isAgg5
  have hz := Try.sizeOf5
  have hr : ∀ w, (underlying t).run Try.prog w = .ok (.array n 5) w := run_underlying hu
  unfold Instr.index
  simp only [Sem.run_bind, hr, asIntOf, part, Sem.run_pure, Result.andThen_ok]
  rw [if_pos ⟨h0, h1⟩]
  simp only [Sem.run_bind, ha, hz, Sem.run_pure, Result.andThen_ok, Bool.false_eq_true, ↓reduceIte, Nat.mul_one, hc]
theorem run_idxbox (x : Int) (h0 : 0 ≤ x) (h1 : x ≤ 255) (w : World) : (Instr.index 9 (.string sbox) (.int .u8 x)).run Try.prog w = .ok (.int .u8 (sbx x)) w := by
  have h2 := eq_true h0
  have hs : sbox.size = 256 := by kernel_rfl
  have hh : x.toNat < sbox.size := by omega
  go_simp
  rw [dif_pos (by omega)]
  simp only [sbx, bt, hh, ↓reduceDIte]
section
variable {ops : Array Oper} {rest : List Oper} {o : Oper} {a : Act} {Q : Exit → Act → World → Prop} {W : World}
theorem sidx_event (hgd : o.guard = none) {p N : Tmp} {s : ByteArray} (ho : o.op = .index 9 (.const (.string s)) (.tmp p)) (_hN : o.dst = some N) (hs : s = sbox) {x : Int} (hx : a.eval (.tmp p) = .int .u8 x) (h0 : 0 ≤ x) (h1 : x ≤ 255) (h : wpList Try.prog ops Q rest (a.put o.dst (.int .u8 (sbx x))) W) : wpList Try.prog ops Q (o :: rest) a W := by
  refine wpList_plain hgd fun K hK => ?_
  unfold Oper.wp execOp
  subst hs
  have he : a.eval (.const (.string sbox)) = .string sbox := rfl
  simp only [ho, hx, he, Sem.run_bind, run_idxbox x h0 h1 W, Result.andThen_ok, Sem.run_pure]
  exact hK _ _ h
theorem aidx_event (hgd : o.guard = none) {t p q N : Tmp} {n : Nat} (ho : o.op = .index t (.tmp p) (.tmp q)) (_hN : o.dst = some N) {l : List Int} (hp : a.eval (.tmp p) = .agg (ub l)) {i : Int} (hq : a.eval (.tmp q) = .int .i64 i) (hu : Try.prog.underlying t = some (.array n 5)) (hl : l.length = n) (h0 : 0 ≤ i) (h1 : i < n) (h : wpList Try.prog ops Q rest (a.put o.dst (.int .u8 (rd l i))) W) : wpList Try.prog ops Q (o :: rest) a W := by
  refine wpList_plain hgd fun K hK => ?_
  unfold Oper.wp execOp
  simp only [ho, hp, hq, Sem.run_bind, run_idxarr hu l hl i h0 h1 W, Result.andThen_ok, Sem.run_pure]
  exact hK _ _ h
end
theorem rd_byte {l : List Int} (hb : ∀ x ∈ l, 0 ≤ x ∧ x ≤ 255) (i : Int) (h0 : 0 ≤ i) (h1 : i < l.length) : 0 ≤ rd l i ∧ rd l i ≤ 255 := by
  have e : rd l i = l[i.toNat]'(by omega) := by
    simp only [rd, List.getD_eq_getElem?_getD]
    rw [List.getElem?_eq_getElem (by omega)]
    rfl
  rw [e]
  exact hb _ (List.getElem_mem _)
theorem hi113 : (Try.prog.info? 113).map (·.size) = some 16 := by kernel_rfl
def upd (f : Int → Int) (l : List Int) (i : Nat) : List Int := (l.take i).map f ++ l.drop i
theorem upd_len (f : Int → Int) (l : List Int) (i : Nat) : (upd f l i).length = l.length := by
  simp only [upd, List.length_append, List.length_map, List.length_take, List.length_drop]
  omega
theorem upd_succ (f : Int → Int) (l : List Int) (x : Int) (h0 : 0 ≤ x) (h : x < l.length) : (upd f l x.toNat).set x.toNat (f (rd l x)) = upd f l (x.toNat + 1) := by
  have hx : x.toNat < l.length := by omega
  have e : rd l x = l[x.toNat] := by
    simp only [rd, List.getD_eq_getElem?_getD]
    rw [List.getElem?_eq_getElem hx]
    rfl
  rw [e]
  apply List.ext_getElem?
  intro j
  by_cases hj : j = x.toNat
  · subst hj
    rw [List.getElem?_set_self (by rw [upd_len]; exact hx)]
    simp only [upd]
    rw [List.getElem?_append_left (by rw [List.length_map, List.length_take]; omega), List.getElem?_map, List.getElem?_take_of_lt (by omega), List.getElem?_eq_getElem hx]
    rfl
  · rw [List.getElem?_set_ne (Ne.symm hj)]
    simp only [upd]
    rw [List.getElem?_append, List.getElem?_append]
    simp only [List.length_map, List.length_take]
    by_cases h1 : j < x.toNat
    · rw [if_pos (by omega), if_pos (by omega)]
      simp [List.getElem?_map, List.getElem?_take_of_lt h1, List.getElem?_take_of_lt (show j < x.toNat + 1 by omega)]
    · rw [if_neg (by omega), if_neg (by omega)]
      simp only [List.getElem?_drop]
      congr 1
      omega
theorem upd_all (f : Int → Int) (l : List Int) (n : Nat) (h : l.length ≤ n) : upd f l n = l.map f := by
  simp [upd, List.take_of_length_le h, List.drop_eq_nil_of_le h]
theorem sub119 (l : List Int) (hl : l.length = 16) (hb : ∀ x ∈ l, 0 ≤ x ∧ x ≤ 255) (w : World) : Calls Try.prog 119 #[.agg (ub l)] w fun e w' => e = .returned (.agg (ub (l.map sbx))) ∧ Below w.heap.size w w' := by
  have hu113 := Try.underlying113
  have hz5 := Try.sizeOf5
  have HL := A_ hl
  have HY := A_ hb
  have HB := A_ (Below.refl w.heap.size w)
  clear hl hb
  go_enter Try.func119, Try.ntmps119
  go_wp2_with (first | ((with_reducible refine d1_ 1 ?_); refine bx_ 1 (ub l) 113 rfl rfl ?hr ?_; (case hr => go_simp <;> rfl); intro Ac hg w5 hbox hb; have Ah := gw_ (w := w) hg; replace HB := hb2_ hb; have Aa := A_ (hbox); clear hb hbox hg) | ((with_reducible refine d1_ 2 ?_); refine bx_ 2 (ub (List.replicate 16 0)) 113 rfl rfl ?hr ?_; (case hr => have hz := Try.zeroValue113; go_simp <;> rfl); intro Ae hg w7 hbox hb; have Ai := gw_ (w := w) hg; have GN := A_ (show Ac ≠ Ae from by rw [hg]; exact Nat.ne_of_lt (blk_lt Aa.out)); replace Aa := bw_ Ac hb; replace HB := hb2_ hb; have Ab := A_ (hbox); clear hb hbox hg) | ((with_reducible refine d1_ 5 ?_); refine arr_load rfl rfl rfl rfl Aa.out Try.underlying113 rfl (hi113.trans (by rw [ub_size, HL.out])) ?_))
  go_loopg [6] 16 (fun kq v6 w' => ∃ (x : Int), v6 = .int .i64 x ∧ Aside0 (0 ≤ x ∧ x ≤ 16) ∧ Aside0 (kq = 16 - x.toNat) ∧ Aside0 (w'.heap[Ac]? = some (.cells (ub (upd sbx l x.toNat)) 113 (0, 0))) ∧ Aside0 (w'.heap[Ae]? = some (.cells (ub (List.replicate 16 0)) 113 (0, 0))) ∧ Aside0 (Below w.heap.size w w'))
  case atStart => exact ⟨0, eq_b, ⟨by omega⟩, ⟨rfl⟩, Aa, Ab, HB⟩
  case round =>
    clear Aa Ab HB
    obtain ⟨x, rfl, HI, HK1, Aa, Ab, HB⟩ := hrel
    by_cases c4 : x < 16
    · have Af : decide (x < 16) = true := decide_eq_true c4
      obtain ⟨k1, rfl⟩ : ∃ k1, gk = k1 + 1 := ⟨gk - 1, by have := HK1.out; have := HI.out; omega⟩
      have p4 : 0 ≤ (x : Int) := HI.out.1
      have hby := rd_byte HY.out x p4 (by have := HL.out; omega)
      have HBY := A_ hby
      have hcell : wr.cell? ⟨Ac, x.toNat, none⟩ = some (.int .u8 (rd (upd sbx l x.toNat) x)) := blk_ub Aa.out x p4 (by rw [upd_len, HL.out]; omega)
      have hfr : wr.frozen? ⟨Ac, x.toNat, none⟩ = false := blk_frozen Aa.out _
      have Ad := A_ p4
      have Ag := A_ c4
      replace p4 := eq_true p4
      have q4 := eq_true c4
      clear c4 hby
      go_wp2_with (first | ((with_reducible refine d1_ 9 ?_); refine aidx_event rfl rfl rfl rfl rfl Try.underlying113 HL.out Ad.out Ag.out ?_) | ((with_reducible refine d1_ 12 ?_); refine sidx_event rfl rfl rfl (by kernel_rfl) rfl HBY.out.1 HBY.out.2 ?_))
      go_roundg k1
      case measure => have := HK1.out; omega
      case rel => exact ⟨x + 1, (by have := HI.out; rw [show wrap64 (x + 1) = x + 1 by unfold wrap64; omega]), ⟨by have := HI.out; have := Ag.out; omega⟩, ⟨by have := HK1.out; have := Ad.out; omega⟩, ⟨by rw [show (x + 1).toNat = x.toNat + 1 by have := Ad.out; omega, ← upd_succ sbx l x Ad.out (by have := HL.out; have := Ag.out; omega)]; exact blk_ubput Aa.out _ _⟩, ⟨blk_far Ab.out (Ne.symm GN.out) _⟩, ⟨below_set HB.out Ah.out⟩⟩
    · have Af : decide (x < 16) = false := decide_eq_false c4
      have hx : x = 16 := by have := HI.out; omega
      subst hx
      replace Aa := A_ (show wr.heap[Ac]? = some (.cells (ub (l.map sbx)) 113 (0, 0)) from (by have := Aa.out; rwa [upd_all sbx l _ (by have := HL.out; omega)] at this))
      clear c4
      go_wp2_with (first | ((with_reducible refine d1_ 15 ?_); refine arr_load rfl rfl rfl rfl Aa.out Try.underlying113 rfl (hi113.trans (by rw [ub_size, List.length_map, HL.out])) ?_) | ((with_reducible refine s1_ 113 2 ?_); refine arr_store rfl rfl rfl rfl rfl Ab.out (hi113.trans (by rw [ub_size, List.length_map, HL.out])) (by rw [ub_size, ub_size, List.length_map, HL.out]; rfl) (ub_one _) ?_; intro w9 hb9 hg9; replace HB := A_ (HB.out.grown hg9 HB.out.size (fun k_ e_ => by injection e_ with e_; rw [← e_]; exact Ai.out)); replace Ab := A_ hb9; clear hb9 hg9))
      refine bodyPost_ret (results_cell_row rfl _ _ Ae 113 (ub (l.map sbx)) (0, 0) _ rfl Ab.out Try.underlying113 rfl (hi113.trans (by rw [ub_size, List.length_map, HL.out]))) rfl ?_
      exact ⟨rfl, below_a⟩
def mixTo (f : Nat → Int) (l : List Int) (i : Nat) : List Int := (List.range l.length).map fun j => if j < i then f j else rd l j
theorem mix_len (f : Nat → Int) (l : List Int) (i : Nat) : (mixTo f l i).length = l.length := by simp [mixTo]
theorem rd_get (l : List Int) (j : Nat) (h : j < l.length) : rd l (j : Int) = l[j] := by
  simp only [rd, Int.toNat_natCast, List.getD_eq_getElem?_getD]
  rw [List.getElem?_eq_getElem h]
  rfl
theorem mix_zero (f : Nat → Int) (l : List Int) : mixTo f l 0 = l := by
  apply List.ext_getElem
  · rw [mix_len]
  · intro j h1 h2
    simp only [mixTo, List.getElem_map, List.getElem_range, Nat.not_lt_zero, ↓reduceIte]
    exact rd_get l j h2
theorem mix_all (f : Nat → Int) (l : List Int) (n : Nat) (h : l.length = n) : mixTo f l n = (List.range n).map f := by
  subst h
  apply List.map_congr_left
  intro j hj
  rw [if_pos (List.mem_range.1 hj)]
theorem mix_rd (f : Nat → Int) (l : List Int) (i j : Nat) (h : j < l.length) : rd (mixTo f l i) (j : Int) = if j < i then f j else rd l j := by
  rw [rd_get _ j (by rw [mix_len]; exact h)]
  simp [mixTo]
theorem mix_succ (f : Nat → Int) (l : List Int) (i : Nat) (h : i < l.length) : (mixTo f l i).set i (f i) = mixTo f l (i + 1) := by
  apply List.ext_getElem
  · rw [List.length_set, mix_len, mix_len]
  · intro j h1 h2
    rw [List.getElem_set]
    by_cases hj : i = j
    · subst hj
      rw [if_pos rfl]
      simp [mixTo]
    · rw [if_neg hj]
      simp only [mixTo, List.getElem_map, List.getElem_range]
      by_cases h3 : j < i
      · rw [if_pos h3, if_pos (by omega)]
      · rw [if_neg h3, if_neg (by omega)]
def addf (ks l : List Int) (r : Int) : Nat → Int := fun j => Go.bits .xor .u8 (rd l j) (rd ks (16 * r + j))
def addv (ks l : List Int) (r : Int) : List Int := (List.range 16).map (addf ks l r)
theorem add118 (gbc : Nat) (ks l : List Int) (hk : ks.length = 176) (hl : l.length = 16) (r : Int) (Ag : 0 ≤ r) (Ah : r ≤ 10) (w : World) (hc : w.heap[gbc]? = some (.cells (ub ks) 135 (0, 0))) : Calls Try.prog 118 #[.pointer (some ⟨gbc, 0, none⟩), .agg (ub l), .int .i64 r] w fun e w' => e = .returned (.agg (ub (addv ks l r))) ∧ Below w.heap.size w w' := by
  have hu113 := Try.underlying113
  have hu132 := Try.underlying132
  have hu135 := Try.underlying135
  have hz5 := Try.sizeOf5
  have HL := A_ hl
  have HK := A_ hk
  have HR := A_ (And.intro Ag Ah)
  have BKc := A_ hc
  have HGC := A_ (blk_lt hc)
  have HB := A_ (Below.refl w.heap.size w)
  clear hl hk Ag Ah hc
  go_enter Try.func118, Try.ntmps118
  go_wp2_with (first | ((with_reducible refine d1_ 4 ?_); refine bx_ 4 (ub l) 113 rfl rfl ?hr ?_; (case hr => go_simp <;> rfl); intro Ac hg wb1 hbox hb; have Ak := gw_ (w := w) hg; have NEc_1 := hb3_ BKc hg; replace BKc := hb1_ BKc hb; replace HB := hb2_ hb; have Aa := A_ (hbox); clear hb hbox hg) | ((with_reducible refine d1_ 6 ?_); refine bx_ 6 (ub (List.replicate 16 0)) 113 rfl rfl ?hr ?_; (case hr => have hz := Try.zeroValue113; go_simp <;> rfl); intro Ai hg wb2 hbox hb; have Al := gw_ (w := w) hg; have NEc_2 := hb3_ BKc hg; have NE1_2 := hb3_ Aa hg; replace BKc := hb1_ BKc hb; replace Aa := hb1_ Aa hb; replace HB := hb2_ hb; have Ab := A_ (hbox); clear hb hbox hg))
  go_loopg [8] 16 (fun kq v8 w' => ∃ (x : Int), v8 = .int .i64 x ∧ Aside0 (0 ≤ x ∧ x ≤ 16) ∧ Aside0 (kq = 16 - x.toNat) ∧ Aside0 (w'.heap[Ac]? = some (.cells (ub (mixTo (addf ks l r) l x.toNat)) 113 (0, 0))) ∧ Aside0 (w'.heap[Ai]? = some (.cells (ub (List.replicate 16 0)) 113 (0, 0))) ∧ Aside0 (w'.heap[gbc]? = some (.cells (ub ks) 135 (0, 0))) ∧ Aside0 (Below w.heap.size w w'))
  case atStart => exact ⟨0, eq_b, ⟨by omega⟩, ⟨rfl⟩, ⟨by rw [show (0 : Int).toNat = 0 from rfl, mix_zero]; exact Aa.out⟩, Ab, BKc, HB⟩
  case round =>
    clear Aa Ab BKc HB
    obtain ⟨x, rfl, HI, HK1, Aa, Ab, BKc, HB⟩ := hrel
    by_cases c4 : x < 16
    · have Af : decide (x < 16) = true := decide_eq_true c4
      obtain ⟨k1, rfl⟩ : ∃ k1, gk = k1 + 1 := ⟨gk - 1, by have := HK1.out; have := HI.out; omega⟩
      have p4 : 0 ≤ (x : Int) := HI.out.1
      have hcell : wr.cell? ⟨Ac, x.toNat, none⟩ = some (.int .u8 (rd l x)) := by
        have h := blk_ub Aa.out x p4 (by rw [mix_len, HL.out]; omega)
        have e : rd (mixTo (addf ks l r) l x.toNat) x = rd l x := by
          have := mix_rd (addf ks l r) l x.toNat x.toNat (by rw [HL.out]; omega)
          rw [show ((x.toNat : Nat) : Int) = x by omega, if_neg (Nat.lt_irrefl _)] at this
          exact this
        rwa [e] at h
      have hfr : wr.frozen? ⟨Ac, x.toNat, none⟩ = false := blk_frozen Aa.out _
      have hq0 : 0 ≤ 16 * r + x := by have := HR.out; omega
      have hq1 : 16 * r + x < 176 := by have := HR.out; omega
      have hkc : wr.cell? ⟨gbc, (16 * r + x).toNat, none⟩ = some (.int .u8 (rd ks (16 * r + x))) := blk_ub BKc.out _ hq0 (by rw [HK.out]; omega)
      have Am : wrap64 (16 * r) = 16 * r := by have := HR.out; unfold wrap64; omega
      have An : wrap64 (16 * r + x) = 16 * r + x := by have := HR.out; unfold wrap64; omega
      have Ad := A_ p4
      have Aj := A_ c4
      replace p4 := eq_true p4
      have q4 := eq_true c4
      replace hq0 := eq_true hq0
      replace hq1 := eq_true hq1
      clear c4
      go_wp2
      go_big_region
      go_wp2
      go_roundg k1
      case measure => have := HK1.out; omega
      case rel => exact ⟨x + 1, (by have := HI.out; rw [show wrap64 (x + 1) = x + 1 by unfold wrap64; omega]), ⟨by have := HI.out; have := Aj.out; omega⟩, ⟨by have := HK1.out; have := Ad.out; omega⟩, ⟨by rw [show (x + 1).toNat = x.toNat + 1 by have := Ad.out; omega, ← mix_succ (addf ks l r) l x.toNat (by have := HL.out; have := Aj.out; have := Ad.out; omega), show addf ks l r x.toNat = Go.bits .xor .u8 (rd l x) (rd ks (16 * r + x)) by rw [addf, show ((x.toNat : Nat) : Int) = x by have := Ad.out; omega]]; exact blk_ubput Aa.out _ _⟩, ⟨blk_far Ab.out (Ne.symm NE1_2.out) _⟩, ⟨blk_far BKc.out NEc_1.out _⟩, ⟨(below_set HB.out Ak.out).drew⟩⟩
    · have Af : decide (x < 16) = false := decide_eq_false c4
      have hx : x = 16 := by have := HI.out; omega
      subst hx
      replace Aa := A_ (show wr.heap[Ac]? = some (.cells (ub (addv ks l r)) 113 (0, 0)) from (by have := Aa.out; rwa [mix_all (addf ks l r) l (16 : Int).toNat HL.out] at this))
      clear c4
      go_wp2_with (first | ((with_reducible refine d1_ 26 ?_); refine arr_load rfl rfl rfl rfl Aa.out Try.underlying113 rfl (hi113.trans (by rw [ub_size]; rfl)) ?_) | ((with_reducible refine s1_ 113 6 ?_); refine arr_store (cs' := ub (addv ks l r)) rfl rfl rfl rfl rfl Ab.out (hi113.trans (by rw [ub_size]; rfl)) (by rw [ub_size, ub_size]; rfl) (ub_one _) ?_; intro Ae hbs hgs; replace Aa := hb4_ Aa hgs NE1_2; replace BKc := hb4_ BKc hgs NEc_2; replace HB := hb6_ HB hgs Al; replace Ab := A_ hbs; clear hbs hgs))
      refine bodyPost_ret (results_cell_row rfl _ _ Ai 113 (ub (addv ks l r)) (0, 0) _ rfl Ab.out Try.underlying113 rfl (hi113.trans (by rw [ub_size]; rfl))) rfl ?_
      exact ⟨rfl, HB.out⟩
theorem mix_put {wr : World} {g t : Nat} {f : Nat → Int} {l : List Int} {i : Nat} (h : wr.heap[g]? = some (.cells (ub (mixTo f l i)) t (0, 0))) (hi : i < l.length) {v : Int} (hv : f i = v) : (wr.setCell ⟨g, i, none⟩ (.int .u8 v)).heap[g]? = some (.cells (ub (mixTo f l (i + 1))) t (0, 0)) := by
  rw [← mix_succ f l i hi, hv]
  exact blk_ubput h _ _
def shx (j : Int) : Int := j % 4 + 4 * ((j / 4 + j % 4) % 4)
theorem shx_le (j : Int) : 0 ≤ shx j ∧ shx j < 16 := by unfold shx; omega
def shf (l : List Int) : Nat → Int := fun j => rd l (shx j)
def shv (l : List Int) : List Int := (List.range 16).map (shf l)
theorem shift120 (l : List Int) (hl : l.length = 16) (w : World) : Calls Try.prog 120 #[.agg (ub l)] w fun e w' => e = .returned (.agg (ub (shv l))) ∧ Below w.heap.size w w' := by
  have hu113 := Try.underlying113
  have hz5 := Try.sizeOf5
  have HL := A_ hl
  have HB := A_ (Below.refl w.heap.size w)
  clear hl
  go_enter Try.func120, Try.ntmps120
  go_wp2_with (first | ((with_reducible refine d1_ 1 ?_); refine bx_ 1 (ub l) 113 rfl rfl ?hr ?_; (case hr => go_simp <;> rfl); intro Ah hg wb1 hbox hb; have Am := gw_ (w := w) hg; replace HB := hb2_ hb; have Aa := A_ (hbox); clear hb hbox hg) | ((with_reducible refine d1_ 2 ?_); refine bx_ 2 (ub (List.replicate 16 0)) 113 rfl rfl ?hr ?_; (case hr => have hz := Try.zeroValue113; go_simp <;> rfl); intro Ai hg wb2 hbox hb; have Ak := gw_ (w := w) hg; have NE1_2 := hb3_ Aa hg; replace Aa := hb1_ Aa hb; replace HB := hb2_ hb; have Ac := A_ (hbox); clear hb hbox hg) | ((with_reducible refine d1_ 3 ?_); refine bx_ 3 (ub (List.replicate 16 0)) 113 rfl rfl ?hr ?_; (case hr => have hz := Try.zeroValue113; go_simp <;> rfl); intro Ad hg wb3 hbox hb; have Aj := gw_ (w := w) hg; have NE1_3 := hb3_ Aa hg; have NE2_3 := hb3_ Ac hg; replace Aa := hb1_ Aa hb; replace Ac := hb1_ Ac hb; replace HB := hb2_ hb; have Ab := A_ (hbox); clear hb hbox hg) | ((with_reducible refine s1_ 113 3 ?_); refine arr_store (cs' := ub (List.replicate 16 0)) rfl rfl rfl rfl rfl Ab.out (hi113.trans (by rw [ub_size, List.length_replicate])) (by rw [ub_size]) (ub_one _) ?_; intro Ae hbs hgs; replace Aa := hb4_ Aa hgs NE1_3; replace Ac := hb4_ Ac hgs NE2_3; replace HB := hb6_ HB hgs Aj; replace Ab := A_ hbs; clear hbs hgs))
  go_loopg [8] 16 (fun kq v8 w' => ∃ (x : Int), v8 = .int .i64 x ∧ Aside0 (0 ≤ x ∧ x ≤ 16) ∧ Aside0 (kq = 16 - x.toNat) ∧ Aside0 (w'.heap[Ad]? = some (.cells (ub (mixTo (shf l) (List.replicate 16 0) x.toNat)) 113 (0, 0))) ∧ Aside0 (w'.heap[Ai]? = some (.cells (ub (List.replicate 16 0)) 113 (0, 0))) ∧ Aside0 (w'.heap[Ah]? = some (.cells (ub l) 113 (0, 0))) ∧ Aside0 (Below w.heap.size w w'))
  case atStart => exact ⟨0, eq_b, ⟨by omega⟩, ⟨rfl⟩, ⟨by rw [show (0 : Int).toNat = 0 from rfl, mix_zero]; exact Ab.out⟩, Ac, Aa, HB⟩
  case round =>
    clear Aa Ac Ab HB
    obtain ⟨x, rfl, HI, HK1, Ab, Ac, Aa, HB⟩ := hrel
    by_cases c4 : x < 16
    · have Ag : decide (x < 16) = true := decide_eq_true c4
      obtain ⟨k1, rfl⟩ : ∃ k1, gk = k1 + 1 := ⟨gk - 1, by have := HK1.out; have := HI.out; omega⟩
      have p4 : 0 ≤ (x : Int) := HI.out.1
      have hfr : wr.frozen? ⟨Ad, x.toNat, none⟩ = false := blk_frozen Ab.out _
      have hcell : wr.cell? ⟨Ad, x.toNat, none⟩ = some (.int .u8 (rd (mixTo (shf l) (List.replicate 16 0) x.toNat) x)) := blk_ub Ab.out x p4 (by rw [mix_len]; simp; omega)
      have hkc : wr.cell? ⟨Ah, (shx x).toNat, none⟩ = some (.int .u8 (rd l (shx x))) := blk_ub Aa.out _ (shx_le x).1 (by rw [HL.out]; exact (shx_le x).2)
      generalize Al : rd (mixTo (shf l) (List.replicate 16 0) x.toNat) x = v0 at hcell
      clear Al
      have hxs : x = 0 ∨ x = 1 ∨ x = 2 ∨ x = 3 ∨ x = 4 ∨ x = 5 ∨ x = 6 ∨ x = 7 ∨ x = 8 ∨ x = 9 ∨ x = 10 ∨ x = 11 ∨ x = 12 ∨ x = 13 ∨ x = 14 ∨ x = 15 := by omega
      clear c4 p4
      rcases hxs with rfl | rfl | rfl | rfl | rfl | rfl | rfl | rfl | rfl | rfl | rfl | rfl | rfl | rfl | rfl | rfl
      all_goals (
        simp only [shx, Int.reduceMod, Int.reduceDiv, Int.reduceAdd, Int.reduceMul, Int.reduceToNat] at hfr hcell hkc
        go_wp2
        go_roundg k1
        case measure => have := HK1.out; omega
        case rel => exact ⟨_, rfl, ⟨by decide⟩, ⟨by have := HK1.out; omega⟩, ⟨mix_put Ab.out (by decide) rfl⟩, ⟨blk_far Ac.out NE2_3.out _⟩, ⟨blk_far Aa.out NE1_3.out _⟩, ⟨(below_set HB.out Aj.out)⟩⟩)
    · have Ag : decide (x < 16) = false := decide_eq_false c4
      have hx : x = 16 := by have := HI.out; omega
      subst hx
      replace Ab := A_ (show wr.heap[Ad]? = some (.cells (ub (shv l)) 113 (0, 0)) from (by have := Ab.out; rwa [mix_all (shf l) _ (16 : Int).toNat (by rw [List.length_replicate]; rfl)] at this))
      clear c4
      go_wp2_with (first | ((with_reducible refine d1_ 27 ?_); refine arr_load rfl rfl rfl rfl Ab.out Try.underlying113 rfl (hi113.trans (by rw [ub_size]; rfl)) ?_) | ((with_reducible refine s1_ 113 2 ?_); refine arr_store (cs' := ub (shv l)) rfl rfl rfl rfl rfl Ac.out (hi113.trans (by rw [ub_size]; rfl)) (by rw [ub_size, ub_size]; rfl) (ub_one _) ?_; intro Af hbs hgs; replace Ab := hb5_ Ab hgs NE2_3; replace Aa := hb4_ Aa hgs NE1_2; replace HB := hb6_ HB hgs Ak; replace Ac := A_ hbs; clear hbs hgs))
      refine bodyPost_ret (results_cell_row rfl _ _ Ai 113 (ub (shv l)) (0, 0) _ rfl Ac.out Try.underlying113 rfl (hi113.trans (by rw [ub_size]; rfl))) rfl ?_
      exact ⟨rfl, HB.out⟩
theorem still_tail_at {P : Program} {id : Nat} {Q : Exit → Act → World → Prop} {a : Act} {w : World} {l : List Oper} (n : Nat) (hm : P.follows .mixedOrders = true) (hB : Region.lexTailB .any l.toArray n = true)
    (h : ∀ W, W = w.drew → wpStill P l.toArray W (fun a' => wpList P l.toArray Q (l.drop n) a' W) (l.take n) a) : (Code.region id l.toArray true).wp P Q a w := wp_region_still_tail n hm hB (h _ rfl)
theorem cell_of {W W' : World} (h : W'.heap = W.heap) (p : Addr) : W'.cell? p = W.cell? p := by simp only [World.cell?, h]
theorem frozen_of {W W' : World} (h : W'.heap = W.heap) (p : Addr) : W'.frozen? p = W.frozen? p := by simp only [World.frozen?, h]
theorem heap_of {W W' : World} (h : W'.heap = W.heap) {g : Nat} {o : Option Obj} (k : W.heap[g]? = o) : W'.heap[g]? = o := by rw [h]; exact k
def xr (a b : Int) : Int := Go.bits .xor .u8 a b
def tw (a : Int) : Int := if a ≥ 128 then Go.bits .xor .u8 (a * 2 % 256) 27 else a * 2 % 256
theorem twice_same (a : Int) (w : World) : Calls Try.prog 112 #[.int .u8 a] w fun e w' => e = .returned (.int .u8 (tw a)) ∧ w' = w := by
  by_cases c2 : a ≥ 128
  · have e : tw a = Go.bits .xor .u8 (a * 2 % 256) 27 := if_pos c2
    rw [e]
    have Aa : decide (128 ≤ a) = true := decide_eq_true c2
    clear c2 e
    go_enter Try.func112, Try.ntmps112
    go_wp2
    go_ret
    exact ⟨rfl, rfl⟩
  · have e : tw a = a * 2 % 256 := if_neg c2
    rw [e]
    have Aa : decide (128 ≤ a) = false := decide_eq_false c2
    clear c2 e
    go_enter Try.func112, Try.ntmps112
    go_wp2
    go_ret
    exact ⟨rfl, rfl⟩
def mixf (l : List Int) : Nat → Int := fun j => let c := (j : Int) / 4 * 4; let r := (j : Int) % 4
  xr (xr (xr (xr (tw (rd l (c + r))) (tw (rd l (c + (r + 1) % 4)))) (rd l (c + (r + 1) % 4))) (rd l (c + (r + 2) % 4))) (rd l (c + (r + 3) % 4))
theorem mixf_at (l : List Int) (c : Int) (h0 : 0 ≤ c) (h4 : c % 4 = 0) (r : Int) (Aa : 0 ≤ r) (hr : r < 4) : mixf l (c + r).toNat = xr (xr (xr (xr (tw (rd l (c + r))) (tw (rd l (c + (r + 1) % 4)))) (rd l (c + (r + 1) % 4))) (rd l (c + (r + 2) % 4))) (rd l (c + (r + 3) % 4)) := by
  have e1 : (((c + r).toNat : Nat) : Int) / 4 * 4 = c := by omega
  have e2 : (((c + r).toNat : Nat) : Int) % 4 = r := by omega
  simp only [mixf, e1, e2]
theorem mix_putw {W wr : World} {g t : Nat} {f : Nat → Int} {l : List Int} {i i' : Nat} (h : wr.heap[g]? = some (.cells (ub (mixTo f l i)) t (0, 0))) (hi : i < l.length) (he : i' = i + 1) {v : Int} (hv : f i = v) (hW : W.heap = (wr.setCell ⟨g, i, none⟩ (.int .u8 v)).heap := by rfl) : W.heap[g]? = some (.cells (ub (mixTo f l i')) t (0, 0)) := by
  subst he
  rw [hW]
  exact mix_put h hi hv
def mixv (l : List Int) : List Int := (List.range 16).map (mixf l)
theorem mix121 (l : List Int) (hl : l.length = 16) (w : World) : Calls Try.prog 121 #[.agg (ub l)] w fun e w' => e = .returned (.agg (ub (mixv l))) ∧ Below w.heap.size w w' := by
  have hu113 := Try.underlying113
  have hz5 := Try.sizeOf5
  have HL := A_ hl
  have HB := A_ (Below.refl w.heap.size w)
  clear hl
  go_enter Try.func121, Try.ntmps121
  go_wp2_with (first | ((with_reducible refine d1_ 1 ?_); refine bx_ 1 (ub l) 113 rfl rfl ?hr ?_; (case hr => go_simp <;> rfl); intro Ae hg wb1 hbox hb; have As := gw_ (w := w) hg; replace HB := hb2_ hb; have Aa := A_ (hbox); clear hb hbox hg) | ((with_reducible refine d1_ 2 ?_); refine bx_ 2 (ub (List.replicate 16 0)) 113 rfl rfl ?hr ?_; (case hr => have hz := Try.zeroValue113; go_simp <;> rfl); intro Ai hg wb2 hbox hb; have Ap := gw_ (w := w) hg; have NE1_2 := hb3_ Aa hg; replace Aa := hb1_ Aa hb; replace HB := hb2_ hb; have Ac := A_ (hbox); clear hb hbox hg) | ((with_reducible refine d1_ 3 ?_); refine bx_ 3 (ub (List.replicate 16 0)) 113 rfl rfl ?hr ?_; (case hr => have hz := Try.zeroValue113; go_simp <;> rfl); intro Af hg wb3 hbox hb; have Al := gw_ (w := w) hg; have NE1_3 := hb3_ Aa hg; have NE2_3 := hb3_ Ac hg; replace Aa := hb1_ Aa hb; replace Ac := hb1_ Ac hb; replace HB := hb2_ hb; have Ab := A_ (hbox); clear hb hbox hg) | ((with_reducible refine s1_ 113 3 ?_); refine arr_store (cs' := ub (List.replicate 16 0)) rfl rfl rfl rfl rfl Ab.out (hi113.trans (by rw [ub_size, List.length_replicate])) (by rw [ub_size]) (ub_one _) ?_; intro Ag hbs hgs; replace Aa := hb4_ Aa hgs NE1_3; replace Ac := hb4_ Ac hgs NE2_3; replace HB := hb6_ HB hgs Al; replace Ab := A_ hbs; clear hbs hgs))
  go_loopg [4] 4 (fun kq v4 w' => ∃ (c : Int), v4 = .int .i64 c ∧ Aside0 (0 ≤ c ∧ c ≤ 16 ∧ c % 4 = 0) ∧ Aside0 (kq = 4 - (c / 4).toNat) ∧ Aside0 (w'.heap[Af]? = some (.cells (ub (mixTo (mixf l) (List.replicate 16 0) c.toNat)) 113 (0, 0))) ∧ Aside0 (w'.heap[Ai]? = some (.cells (ub (List.replicate 16 0)) 113 (0, 0))) ∧ Aside0 (w'.heap[Ae]? = some (.cells (ub l) 113 (0, 0))) ∧ Aside0 (Below w.heap.size w w'))
  case atStart => exact ⟨0, eq_b, ⟨by omega⟩, ⟨rfl⟩, ⟨by rw [show (0 : Int).toNat = 0 from rfl, mix_zero]; exact Ab.out⟩, Ac, Aa, HB⟩
  case round =>
    clear Aa Ac Ab HB
    obtain ⟨c, rfl, HI, HK1, Ab, Ac, Aa, HB⟩ := hrel
    by_cases c4 : c < 16
    · have Aj : decide (c < 16) = true := decide_eq_true c4
      have Ad := A_ c4
      clear c4
      obtain ⟨k1, rfl⟩ : ∃ k1, gk = k1 + 1 := ⟨gk - 1, by have := HK1.out; have := HI.out; have := Ad.out; omega⟩
      go_wp2
      go_loopg [13] 4 (fun kq Aq w' => ∃ (r : Int), Aq = .int .i64 r ∧ Aside0 (0 ≤ r ∧ r ≤ 4) ∧ Aside0 (kq = 4 - r.toNat) ∧ Aside0 (w'.heap[Af]? = some (.cells (ub (mixTo (mixf l) (List.replicate 16 0) (c + r).toNat)) 113 (0, 0))) ∧ Aside0 (w'.heap[Ai]? = some (.cells (ub (List.replicate 16 0)) 113 (0, 0))) ∧ Aside0 (w'.heap[Ae]? = some (.cells (ub l) 113 (0, 0))) ∧ Aside0 (Below w.heap.size w w'))
      case atStart => exact ⟨0, eq_b, ⟨by omega⟩, ⟨rfl⟩, ⟨by rw [Int.add_zero]; exact Ab.out⟩, Ac, Aa, HB⟩
      case round =>
        clear Aa Ac Ab HB
        obtain ⟨r, rfl, HR, HK2, Ab, Ac, Aa, HB⟩ := hrel
        by_cases c5 : r < 4
        · have Au := A_ c5
          obtain ⟨k2, rfl⟩ : ∃ k2, gk = k2 + 1 := ⟨gk - 1, by have := HK2.out; have := HR.out; omega⟩
          have Ar : ∃ v0, wr.cell? ⟨Af, (c + r).toNat, none⟩ = some (.int .u8 v0) := ⟨_, blk_ub Ab.out (c + r) (by have := HR.out; have := HI.out; omega) (by rw [mix_len]; simp; have := HI.out; have := Ad.out; omega)⟩
          obtain ⟨v0, hcell⟩ := Ar
          have hfr : wr.frozen? ⟨Af, (c + r).toNat, none⟩ = false := blk_frozen Ab.out _
          have Ak : wr.cell? ⟨Ae, (c + 0).toNat, none⟩ = some (.int .u8 (rd l (c + 0))) := blk_ub Aa.out _ (by have := HI.out; omega) (by rw [HL.out]; have := HI.out; have := Ad.out; omega)
          have Am : wr.cell? ⟨Ae, (c + 1).toNat, none⟩ = some (.int .u8 (rd l (c + 1))) := blk_ub Aa.out _ (by have := HI.out; omega) (by rw [HL.out]; have := HI.out; have := Ad.out; omega)
          have An : wr.cell? ⟨Ae, (c + 2).toNat, none⟩ = some (.int .u8 (rd l (c + 2))) := blk_ub Aa.out _ (by have := HI.out; omega) (by rw [HL.out]; have := HI.out; have := Ad.out; omega)
          have Ao : wr.cell? ⟨Ae, (c + 3).toNat, none⟩ = some (.int .u8 (rd l (c + 3))) := blk_ub Aa.out _ (by have := HI.out; omega) (by rw [HL.out]; have := HI.out; have := Ad.out; omega)
          have w0 : wrap64 c = c := by have := HI.out; unfold wrap64; omega
          have w1 : wrap64 (c + 1) = c + 1 := by have := HI.out; unfold wrap64; omega
          have w2 : wrap64 (c + 2) = c + 2 := by have := HI.out; unfold wrap64; omega
          have w3 : wrap64 (c + 3) = c + 3 := by have := HI.out; unfold wrap64; omega
          have j0 : IntKind.i64.wrap c = c := by rw [IntKind.wrap_i64]; unfold wrap64 at w0; exact w0
          have j1 : IntKind.i64.wrap (c + 1) = c + 1 := by rw [IntKind.wrap_i64]; unfold wrap64 at w1; exact w1
          have j2 : IntKind.i64.wrap (c + 2) = c + 2 := by rw [IntKind.wrap_i64]; unfold wrap64 at w2; exact w2
          have j3 : IntKind.i64.wrap (c + 3) = c + 3 := by rw [IntKind.wrap_i64]; unfold wrap64 at w3; exact w3
          have p0 : (0 ≤ c) = True := eq_true HI.out.1
          have p1 : (0 ≤ c + 1) = True := eq_true (by have := HI.out; omega)
          have p2 : (0 ≤ c + 2) = True := eq_true (by have := HI.out; omega)
          have p3 : (0 ≤ c + 3) = True := eq_true (by have := HI.out; omega)
          have q0 : (c < 16) = True := eq_true (by have := HI.out; have := Ad.out; omega)
          have q1 : (c + 1 < 16) = True := eq_true (by have := HI.out; have := Ad.out; omega)
          have q2 : (c + 2 < 16) = True := eq_true (by have := HI.out; have := Ad.out; omega)
          have q3 : (c + 3 < 16) = True := eq_true (by have := HI.out; have := Ad.out; omega)
          have HJ := A_ (by have := HI.out; have := HR.out; rw [List.length_replicate]; have := Ad.out; omega : (c + r).toNat < (List.replicate 16 (0 : Int)).length)
          have HF := A_ (mixf_at l c HI.out.1 HI.out.2.2 r HR.out.1 c5)
          have hrs : r = 0 ∨ r = 1 ∨ r = 2 ∨ r = 3 := by have := HR.out; omega
          have kk1 : IntKind.i64.wrap 1 = 1 := by rw [IntKind.wrap_i64]; rfl
          have kk2 : IntKind.i64.wrap 2 = 2 := by rw [IntKind.wrap_i64]; rfl
          have kk3 : IntKind.i64.wrap 3 = 3 := by rw [IntKind.wrap_i64]; rfl
          have kk4 : IntKind.i64.wrap 4 = 4 := by rw [IntKind.wrap_i64]; rfl
          have kk5 : IntKind.i64.wrap 5 = 5 := by rw [IntKind.wrap_i64]; rfl
          have kk6 : IntKind.i64.wrap 6 = 6 := by rw [IntKind.wrap_i64]; rfl
          clear c5
          rcases hrs with rfl | rfl | rfl | rfl
          all_goals (
            simp only [Int.add_zero, Int.zero_add, Int.reduceAdd, Int.reduceMod] at hcell hfr Ak HF HJ Ab
            go_wp2
            go_quiet (fail)
            go_wp2
            refine still_tail_at 27 (by kernel_rfl) (by kernel_rfl) ?_
            intro wq ewq
            have hh : wq.heap = wr.heap := by rw [ewq]; rfl
            replace Ak := (cell_of hh _).trans Ak
            replace Am := (cell_of hh _).trans Am
            replace An := (cell_of hh _).trans An
            replace Ao := (cell_of hh _).trans Ao
            replace hfr := (frozen_of hh _).trans hfr
            replace hcell := (cell_of hh _).trans hcell
            replace HB : Aside0 (Below w.heap.size w wq) := ⟨by rw [ewq]; exact (pw_below_drewN HB.out _).drew⟩
            replace Aa := A_ (heap_of hh Aa.out)
            replace Ac := A_ (heap_of hh Ac.out)
            replace Ab := A_ (heap_of hh Ab.out)
            clear ewq hh
            simp only [List.take_succ_cons, List.take_zero, List.drop_succ_cons, List.drop_zero]
            repeat (first | still_step | still_call (twice_same _ _))
            try refine wpStill_nil ?_
            go_wp2
            go_roundg k2
            case measure => have := HK2.out; omega
            case rel => exact ⟨_, rfl, ⟨by decide⟩, ⟨by have := HK2.out; omega⟩, ⟨mix_putw Ab.out HJ.out (by have := HI.out; omega) HF.out⟩, ⟨blk_far Ac.out NE2_3.out _⟩, ⟨blk_far Aa.out NE1_3.out _⟩, ⟨(below_set HB.out Al.out).trans ⟨rfl, rfl, rfl, Nat.le_refl _, fun _ _ => rfl⟩⟩⟩)
        · have hr : r = 4 := by have := HR.out; omega
          subst hr
          have hw : wrap64 (c + 4) = c + 4 := by have := HI.out; unfold wrap64; omega
          clear c5
          go_wp2
          go_roundg k1
          case measure => have := HK1.out; have := HI.out; omega
          case rel => exact ⟨c + 4, (by rw [hw]), ⟨by have := HI.out; have := Ad.out; omega⟩, ⟨by have := HK1.out; have := HI.out; have := Ad.out; omega⟩, Ab, Ac, Aa, HB⟩
    · have Aj : decide (c < 16) = false := decide_eq_false c4
      have hx : c = 16 := by have := HI.out; omega
      subst hx
      replace Ab := A_ (show wr.heap[Af]? = some (.cells (ub (mixv l)) 113 (0, 0)) from (by have := Ab.out; rwa [mix_all (mixf l) _ (16 : Int).toNat (by rw [List.length_replicate]; rfl)] at this))
      clear c4
      go_wp2_with (first | ((with_reducible refine d1_ 56 ?_); refine arr_load rfl rfl rfl rfl Ab.out Try.underlying113 rfl (hi113.trans (by rw [ub_size]; rfl)) ?_) | ((with_reducible refine s1_ 113 2 ?_); refine arr_store (cs' := ub (mixv l)) rfl rfl rfl rfl rfl Ac.out (hi113.trans (by rw [ub_size]; rfl)) (by rw [ub_size, ub_size]; rfl) (ub_one _) ?_; intro Ah hbs hgs; replace Ab := hb5_ Ab hgs NE2_3; replace Aa := hb4_ Aa hgs NE1_2; replace HB := hb6_ HB hgs Ap; replace Ac := A_ hbs; clear hbs hgs))
      refine bodyPost_ret (results_cell_row rfl _ _ Ai 113 (ub (mixv l)) (0, 0) _ rfl Ac.out Try.underlying113 rfl (hi113.trans (by rw [ub_size]; rfl))) rfl ?_
      exact ⟨rfl, HB.out⟩
theorem xr_byte (a b : Int) : 0 ≤ xr a b ∧ xr a b ≤ 255 := by
  have h : xr a b = _ % 256 := IntKind.wrap_u8 _
  omega
theorem addv_len (ks l : List Int) (r : Int) : (addv ks l r).length = 16 := by simp [addv]
theorem shv_len (l : List Int) : (shv l).length = 16 := by simp [shv]
theorem mixv_len (l : List Int) : (mixv l).length = 16 := by simp [mixv]
theorem addv_byte (ks l : List Int) (r : Int) : ∀ x ∈ addv ks l r, 0 ≤ x ∧ x ≤ 255 := by
  intro x hx
  obtain ⟨j, _, rfl⟩ := List.mem_map.1 hx
  exact xr_byte _ _
def rndv (ks l : List Int) (r : Int) : List Int := addv ks (mixv (shv (l.map sbx))) r
def encr (ks l : List Int) : Nat → List Int
  | 0 => addv ks l 0
  | n + 1 => rndv ks (encr ks l n) ((n + 1 : Nat) : Int)
def encv (ks l : List Int) : List Int := addv ks (shv ((encr ks l 9).map sbx)) 10
theorem encr_len (ks l : List Int) (n : Nat) : (encr ks l n).length = 16 := by cases n <;> exact addv_len _ _ _
theorem encr_byte (ks l : List Int) (n : Nat) : ∀ x ∈ encr ks l n, 0 ≤ x ∧ x ≤ 255 := by cases n <;> exact addv_byte _ _ _
theorem encv_len (ks l : List Int) : (encv ks l).length = 16 := addv_len _ _ _
theorem encv_byte (ks l : List Int) : ∀ x ∈ encv ks l, 0 ≤ x ∧ x ≤ 255 := addv_byte _ _ _
theorem enc108 (gbc : Nat) (ks l : List Int) (hk : ks.length = 176) (hl : l.length = 16) (w : World) (hc : w.heap[gbc]? = some (.cells (ub ks) 135 (0, 0))) : Calls Try.prog 108 #[.pointer (some ⟨gbc, 0, none⟩), .agg (ub l)] w fun e w' => e = .returned (.agg (ub (encv ks l))) ∧ Below w.heap.size w w' := by
  have hu113 := Try.underlying113
  have hz5 := Try.sizeOf5
  have HL := A_ hl
  have HK := A_ hk
  have BKc := A_ hc
  have HB := A_ (Below.refl w.heap.size w)
  clear hl hk hc
  go_enter Try.func108, Try.ntmps108
  go_wp2_with (first | ((with_reducible refine d1_ 3 ?_); refine bx_ 3 (ub l) 113 rfl rfl ?hr ?_; (case hr => go_simp <;> rfl); intro Af hg wb3 hbox hb; have Ag := gw_ (w := w) hg; have NEc_3 := hb3_ BKc hg; replace BKc := hb1_ BKc hb; replace HB := hb2_ hb; have Aa := A_ (hbox); clear hb hbox hg) | ((with_reducible refine d1_ 4 ?_); refine bx_ 4 (ub (List.replicate 16 0)) 113 rfl rfl ?hr ?_; (case hr => have hz := Try.zeroValue113; go_simp <;> rfl); intro Ah hg wb4 hbox hb; have Aj := gw_ (w := w) hg; have NEc_4 := hb3_ BKc hg; have NE3_4 := hb3_ Aa hg; replace BKc := hb1_ BKc hb; replace Aa := hb1_ Aa hb; replace HB := hb2_ hb; have Ab := A_ (hbox); clear hb hbox hg) | ((with_reducible refine d1_ 7 ?_); refine arr_load rfl rfl rfl rfl Aa.out Try.underlying113 rfl (hi113.trans (by simp only [ub_size, List.length_map, encr_len, shv_len, mixv_len, addv_len, HL.out])) ?_) | (go_at_call 118; (with_reducible refine (add118 gbc ks l HK.out (by simp only [ub_size, List.length_map, encr_len, shv_len, mixv_len, addv_len, HL.out]) 0 (by omega) (by omega) _ BKc.out).mono ?_); rintro e wc ⟨rfl, hb⟩; replace BKc := hb1_ BKc hb; replace Aa := hb1_ Aa hb; replace Ab := hb1_ Ab hb; replace HB := hb2_ hb; clear hb) | ((with_reducible refine s1_ 113 3 ?_); refine arr_store (cs' := ub (addv ks l 0)) rfl rfl rfl rfl rfl Aa.out (hi113.trans (by simp only [ub_size, List.length_map, encr_len, shv_len, mixv_len, addv_len, HL.out])) (by simp only [ub_size, List.length_map, encr_len, shv_len, mixv_len, addv_len, HL.out]) (ub_one _) ?_; intro Ac hbs hgs; replace BKc := hb4_ BKc hgs NEc_3; replace Ab := hb5_ Ab hgs NE3_4; replace HB := hb6_ HB hgs Ag; replace Aa := A_ hbs; clear hbs hgs))
  go_loopg [5] 9 (fun kq v5 w' => ∃ (r : Int), v5 = .int .i64 r ∧ Aside0 (1 ≤ r ∧ r ≤ 10) ∧ Aside0 (kq = 10 - r.toNat) ∧ Aside0 (w'.heap[Af]? = some (.cells (ub (encr ks l (r.toNat - 1))) 113 (0, 0))) ∧ Aside0 (w'.heap[Ah]? = some (.cells (ub (List.replicate 16 0)) 113 (0, 0))) ∧ Aside0 (w'.heap[gbc]? = some (.cells (ub ks) 135 (0, 0))) ∧ Aside0 (Below w.heap.size w w'))
  case atStart => exact ⟨1, eq_b, ⟨by omega⟩, ⟨rfl⟩, Aa, Ab, BKc, HB⟩
  case round =>
    clear Aa Ab BKc HB
    obtain ⟨r, rfl, HR, HK1, Aa, Ab, BKc, HB⟩ := hrel
    by_cases c4 : r < 10
    · have Ae : decide (r < 10) = true := decide_eq_true c4
      have Ai := A_ c4
      have hw := A_ (show wrap64 (r + 1) = r + 1 by have := HR.out; unfold wrap64; omega)
      have he := A_ (show addv ks (mixv (shv ((encr ks l (r.toNat - 1)).map sbx))) r = encr ks l r.toNat by
        obtain ⟨n, hn⟩ : ∃ n, r.toNat = n + 1 := ⟨r.toNat - 1, by have := HR.out; omega⟩
        rw [hn, Nat.add_sub_cancel, encr, rndv, ← hn, Int.toNat_of_nonneg (by have := HR.out; omega)])
      obtain ⟨k1, rfl⟩ : ∃ k1, gk = k1 + 1 := ⟨gk - 1, by have := HK1.out; have := HR.out; omega⟩
      clear c4
      go_wp2_with (first | ((with_reducible refine d1_ 14 ?_); refine arr_load rfl rfl rfl rfl Aa.out Try.underlying113 rfl (hi113.trans (by simp only [ub_size, List.length_map, encr_len, shv_len, mixv_len, addv_len, HL.out])) ?_) | (go_at_call 119; (with_reducible refine (sub119 _ (by simp only [ub_size, List.length_map, encr_len, shv_len, mixv_len, addv_len, HL.out]) (encr_byte _ _ _) _).mono ?_); rintro e wc ⟨rfl, hb⟩; replace BKc := hb1_ BKc hb; replace Aa := hb1_ Aa hb; replace Ab := hb1_ Ab hb; replace HB := hb2_ hb; clear hb) | (go_at_call 120; (with_reducible refine (shift120 _ (by simp only [ub_size, List.length_map, encr_len, shv_len, mixv_len, addv_len, HL.out]) _).mono ?_); rintro e wc ⟨rfl, hb⟩; replace BKc := hb1_ BKc hb; replace Aa := hb1_ Aa hb; replace Ab := hb1_ Ab hb; replace HB := hb2_ hb; clear hb) | (go_at_call 121; (with_reducible refine (mix121 _ (by simp only [ub_size, List.length_map, encr_len, shv_len, mixv_len, addv_len, HL.out]) _).mono ?_); rintro e wc ⟨rfl, hb⟩; replace BKc := hb1_ BKc hb; replace Aa := hb1_ Aa hb; replace Ab := hb1_ Ab hb; replace HB := hb2_ hb; clear hb) | (go_at_call 118; (with_reducible refine (add118 gbc ks _ HK.out (by simp only [ub_size, List.length_map, encr_len, shv_len, mixv_len, addv_len, HL.out]) _ (by have := HR.out; omega) (by have := HR.out; omega) _ BKc.out).mono ?_); rintro e wc ⟨rfl, hb⟩; replace BKc := hb1_ BKc hb; replace Aa := hb1_ Aa hb; replace Ab := hb1_ Ab hb; replace HB := hb2_ hb; rw [he.out]; clear hb) | ((with_reducible refine s1_ 113 3 ?_); refine arr_store (cs' := ub (encr ks l r.toNat)) rfl rfl rfl rfl rfl Aa.out (hi113.trans (by simp only [ub_size, List.length_map, encr_len, shv_len, mixv_len, addv_len, HL.out])) (by simp only [ub_size, List.length_map, encr_len, shv_len, mixv_len, addv_len, HL.out]) (ub_one _) ?_; intro Ac hbs hgs; replace BKc := hb4_ BKc hgs NEc_3; replace Ab := hb5_ Ab hgs NE3_4; replace HB := hb6_ HB hgs Ag; replace Aa := A_ hbs; clear hbs hgs))
      go_roundg k1
      case measure => have := HK1.out; have := HR.out; omega
      case rel => exact ⟨r + 1, (by rw [hw.out]), ⟨by have := HR.out; have := Ai.out; omega⟩, ⟨by have := HK1.out; have := HR.out; have := Ai.out; omega⟩, ⟨by rw [show (r + 1).toNat - 1 = r.toNat by have := HR.out; omega]; exact Aa.out⟩, Ab, BKc, HB⟩
    · have Ae : decide (r < 10) = false := decide_eq_false c4
      have hx : r = 10 := by have := HR.out; omega
      subst hx
      replace Aa := A_ (show wr.heap[Af]? = some (.cells (ub (encr ks l 9)) 113 (0, 0)) from Aa.out)
      clear c4
      go_wp2_with (first | ((with_reducible refine d1_ 21 ?_); refine arr_load rfl rfl rfl rfl Aa.out Try.underlying113 rfl (hi113.trans (by simp only [ub_size, List.length_map, encr_len, shv_len, mixv_len, addv_len, HL.out])) ?_) | (go_at_call 119; (with_reducible refine (sub119 _ (by simp only [ub_size, List.length_map, encr_len, shv_len, mixv_len, addv_len, HL.out]) (encr_byte _ _ _) _).mono ?_); rintro e wc ⟨rfl, hb⟩; replace BKc := hb1_ BKc hb; replace Aa := hb1_ Aa hb; replace Ab := hb1_ Ab hb; replace HB := hb2_ hb; clear hb) | (go_at_call 120; (with_reducible refine (shift120 _ (by simp only [ub_size, List.length_map, encr_len, shv_len, mixv_len, addv_len, HL.out]) _).mono ?_); rintro e wc ⟨rfl, hb⟩; replace BKc := hb1_ BKc hb; replace Aa := hb1_ Aa hb; replace Ab := hb1_ Ab hb; replace HB := hb2_ hb; clear hb) | (go_at_call 118; (with_reducible refine (add118 gbc ks _ HK.out (by simp only [ub_size, List.length_map, encr_len, shv_len, mixv_len, addv_len, HL.out]) _ (by omega) (by omega) _ BKc.out).mono ?_); rintro e wc ⟨rfl, hb⟩; replace BKc := hb1_ BKc hb; replace Aa := hb1_ Aa hb; replace Ab := hb1_ Ab hb; replace HB := hb2_ hb; clear hb) | ((with_reducible refine s1_ 113 4 ?_); refine arr_store (cs' := ub (encv ks l)) rfl rfl rfl rfl rfl Ab.out (hi113.trans (by rw [ub_size, encv_len])) (by rw [ub_size, ub_size, encv_len]; rfl) (ub_one _) ?_; intro Ad hbs hgs; replace BKc := hb4_ BKc hgs NEc_4; replace Aa := hb4_ Aa hgs NE3_4; replace HB := hb6_ HB hgs Aj; replace Ab := A_ hbs; clear hbs hgs))
      refine bodyPost_ret (results_cell_row rfl _ _ Ah 113 (ub (encv ks l)) (0, 0) _ rfl Ab.out Try.underlying113 rfl (hi113.trans (by rw [ub_size, encv_len]))) rfl ?_
      exact ⟨rfl, HB.out⟩
theorem hi132 : (Try.prog.info? 132).map (·.size) = some 176 := by kernel_rfl
theorem hi126 : (Try.prog.info? 126).map (·.size) = some 4 := by kernel_rfl
theorem hi5 : (Try.prog.info? 5).map (·.size) = some 1 := by kernel_rfl
section
variable {P : Program} {ops : Array Oper} {rest : List Oper} {o : Oper} {a : Act} {Q : Exit → Act → World → Prop} {W : World}
theorem val_event (hgd : o.guard = none) (v : Value) (hr : (execOp a.eval o).run P W = .ok (Next.value v) W) (h : wpList P ops Q rest (a.put o.dst v) W) : wpList P ops Q (o :: rest) a W := by
  refine wpList_plain hgd fun K hK => ?_
  unfold Oper.wp
  rw [hr]
  exact hK _ _ h
theorem arr_copy (hgd : o.guard = none) {s x : Operand} {t t' e : TypeId} (ho : o.op = .call { callee := .builtin .copy, args := #[s, x], argTypes := #[t, t'] }) (ht : P.underlying t = some (.slice e)) (hinfo : (P.info? e).map (·.size) = some 1)
    {g ty n m c cap : Nat} {l ys : List Int} {A : Option Addr} (hs : a.eval s = .slice (some ⟨g, 0, none⟩) n cap) (hx : a.eval x = .slice A m c) (hb : W.heap[g]? = some (.cells (ub l) ty (0, 0))) (HR : (Kd.int .u8).C W A m ys) (hn : l.length = n) (hp : 0 < m) (hm : m ≤ n)
    (h : ∀ w1, w1.heap[g]? = some (.cells (ub (ys ++ l.drop m)) ty (0, 0)) → W.grownBy w1 (some g) → wpList P ops Q rest (a.put o.dst (.int .i64 (m : Int))) w1) : wpList P ops Q (o :: rest) a W := by
  have hR : ReadsOf (Value.int .u8) (0 : Int) W A m ys := Kd.reads_of_C HR
  have hl : ys.length = m := hR.1
  obtain ⟨ad, hA, hc⟩ := hR.2.2 hp
  subst hA
  have hsrc : ∀ j u, (ys.map (Value.int .u8))[j]? = some u → W.cell? (ad.add j) = some u := by
    intro j u hu
    rw [List.getElem?_map] at hu
    obtain ⟨q, hq, rfl⟩ := Option.map_eq_some_iff.1 hu
    have hj : j < m := by rw [← hl]; exact (List.getElem?_eq_some_iff.1 hq).1
    rw [hc j hj, List.getD_eq_getElem?_getD, hq]
    rfl
  have hkl : (ys.map (Value.int .u8)).length = m := by rw [List.length_map, hl]
  have hr := run_copy_cells (P := P) W t t' o.type e g 0 n cap ad m c (ys.map (Value.int .u8)) ht hinfo (by rw [hkl]; exact (Nat.min_eq_left hm).symm) hsrc
    (fun j hj => by rw [cell_of_row W g _ (ub l) ty (0, 0) hb]; rw [hkl] at hj; rw [Array.getElem?_eq_getElem (by rw [ub_size]; omega)]; rfl) (fun j _ => blk_frozen hb _) (by intro u hu; obtain ⟨q, _, rfl⟩ := List.mem_map.1 hu; rfl)
  obtain ⟨cur', h3, h4, h5⟩ := setCells_row (ys.map (Value.int .u8)) 0 W (ub l) hb (by rw [hkl, ub_size]; omega)
  obtain ⟨s1, s2, s3, s4⟩ := setCells_same g (ys.map (Value.int .u8)) 0 W
  have e1 : cur' = ub (ys ++ l.drop m) := by
    apply Array.toList_inj.1
    rw [h5, hkl]
    simp [ub, List.map_drop]
  subst e1
  refine wpList_plain hgd fun K hK => ?_
  unfold Oper.wp execOp
  rw [hkl] at hr
  simp only [ho, resolve, invoke, builtin, Sem.run_bind, Sem.run_pure, Result.andThen_ok, List.map_toArray, List.map_cons, List.map_nil, hs, hx, hr]
  exact hK _ _ (h _ h3 ⟨s1, s2, s3, by rw [s4]; exact Nat.le_refl _, fun k _ hk => setCells_far _ _ k (fun he => hk (by rw [he]))⟩)
end
section
variable {ops : Array Oper} {rest : List Oper} {o : Oper} {a : Act} {Q : Exit → Act → World → Prop} {W : World}
theorem el_store (hgd : o.guard = none) {p : Tmp} {x : Operand} (ho : o.op = .store 5 (.tmp p) x) (hN : o.dst = none) {g i t : Nat} {v : Int} {l : List Int} (hp : a.eval (.tmp p) = .pointer (some ⟨g, i, none⟩)) (hx : a.eval x = .int .u8 v) (hb : W.heap[g]? = some (.cells (ub l) t (0, 0))) (hi : i < l.length)
    (h : ∀ w1, w1.heap[g]? = some (.cells (ub (l.set i v)) t (0, 0)) → W.grownBy w1 (some g) → wpList Try.prog ops Q rest a w1) : wpList Try.prog ops Q (o :: rest) a W := by
  have hr := run_store_run (P := Try.prog) (w := W) (g := g) (o := i) 5 (.int .u8 v) [.int .u8 v] hb rfl hi5 (by rw [ub_size]; simp; omega) (by intro q hq; simp at hq; subst hq; rfl)
  refine wpList_plain hgd fun K hK => ?_
  unfold Oper.wp execOp
  simp only [ho, hp, hx, Sem.run_bind, Sem.run_pure, hr, Result.andThen_ok]
  show K (a.put o.dst undef) _
  rw [hN]
  exact hK _ _ (h _ (blk_ubput hb i v) (grown_set W ⟨g, i, none⟩ (.int .u8 v)))
end
def startv (l : List Int) : List Int := (l ++ [0, 0, 0, 0]).set 15 1
theorem startv_len (l : List Int) (h : l.length = 12) : (startv l).length = 16 := by simp [startv, h]
theorem start87 (A : Option Addr) (c : Nat) (l : List Int) (w : World) (hr : Kd.C (Kd.int .u8) w A l.length l) (hl : l.length = 12) : Calls Try.prog 87 #[.slice A l.length c] w fun e w' => e = .returned (.agg (ub (startv l))) ∧ Below w.heap.size w w' := by
  have hu113 := Try.underlying113
  have hz5 := Try.sizeOf5
  have HR := A_ hr
  have HL := A_ hl
  have HB := A_ (Below.refl w.heap.size w)
  clear hr hl
  go_enter Try.func87, Try.ntmps87
  go_wp2_with (first | ((with_reducible refine d1_ 2 ?_); refine bx_ 2 (ub (List.replicate 16 0)) 113 rfl rfl ?hr ?_; (case hr => have hz := Try.zeroValue113; go_simp <;> rfl); intro Af hg wb2 hbox hb; have Ag := gw_ (w := w) hg; replace HB := hb2_ hb; have Aa := A_ (hbox); clear hb hbox hg) | ((with_reducible refine d1_ 3 ?_); refine bx_ 3 (ub (List.replicate 16 0)) 113 rfl rfl ?hr ?_; (case hr => have hz := Try.zeroValue113; go_simp <;> rfl); intro Ah hg wb3 hbox hb; have Ae := gw_ (w := w) hg; have NE2_3 := hb3_ Aa hg; replace Aa := hb1_ Aa hb; replace HB := hb2_ hb; have Ab := A_ (hbox); clear hb hbox hg) | ((with_reducible refine d1_ 4 ?_); refine val_event rfl (.agg (ub (List.replicate 16 0))) ?hr ?_; (case hr => go_simp <;> rfl)) | ((with_reducible refine s1_ 113 3 ?_); refine arr_store (cs' := ub (List.replicate 16 0)) rfl rfl rfl rfl rfl Ab.out (hi113.trans (by rw [ub_size, List.length_replicate])) (by rw [ub_size]) (ub_one _) ?_; intro Ac hbs hgs; replace Aa := hb4_ Aa hgs NE2_3; replace HB := hb6_ HB hgs Ae; replace Ab := A_ hbs; clear hbs hgs) | ((with_reducible refine d1_ 7 ?_); refine arr_copy rfl rfl Try.underlying25 hi5 rfl rfl Ab.out (Kd.C_below HR.out HB.out) (by simp only [List.length_replicate]) (by have := HL.out; omega) (by have := HL.out; omega) ?_; intro wk3 hbs hgs; replace Aa := hb4_ Aa hgs NE2_3; replace HB := hb6_ HB hgs Ae; replace Ab := A_ (show wk3.heap[Ah]? = some (Obj.cells (ub (l ++ [0, 0, 0, 0])) 113 (0, 0)) from by first | exact hbs | (rw [show ([0, 0, 0, 0] : List Int) = (List.replicate 16 0).drop l.length from by first | (rw [HL.out]; done) | (rw [HL.out]; rfl)]; exact hbs)); clear hbs hgs) | ((with_reducible refine s1_ 5 8 ?_); refine el_store rfl rfl rfl rfl rfl Ab.out (by rw [List.length_append, HL.out]; decide) ?_; intro we3 hbs hgs; replace Aa := hb4_ Aa hgs NE2_3; replace HB := hb6_ HB hgs Ae; replace Ab := A_ hbs; clear hbs hgs) | ((with_reducible refine d1_ 9 ?_); refine arr_load rfl rfl rfl rfl Ab.out Try.underlying113 rfl (hi113.trans (by rw [ub_size, List.length_set, List.length_append, HL.out]; rfl)) ?_) | ((with_reducible refine s1_ 113 2 ?_); refine arr_store (cs' := ub (startv l)) rfl rfl rfl rfl rfl Aa.out (hi113.trans (by rw [ub_size, startv_len l HL.out])) (by rw [ub_size, ub_size, startv_len l HL.out]; rfl) (ub_one _) ?_; intro Ad hbs hgs; replace Ab := hb5_ Ab hgs NE2_3; replace HB := hb6_ HB hgs Ag; replace Aa := A_ hbs; clear hbs hgs))
  refine bodyPost_ret (results_cell_row rfl _ _ Af 113 (ub (startv l)) (0, 0) _ rfl Aa.out Try.underlying113 rfl (hi113.trans (by rw [ub_size, startv_len l HL.out]))) rfl ?_
  exact ⟨rfl, HB.out⟩
theorem results_cell_tmp {P : Program} {fn : Func} {p q : Tmp} {ty : TypeId} (h : fn.results = #[.cell p ty, .tmp q]) (tmps : Array Value) (w : World) (g : Nat) (t : TypeId) (cs : Array Value) (fr : Nat × Nat) (d : TypeDesc)
    (hp : tmps.getD p undef = .pointer (some ⟨g, 0, none⟩)) (hg : w.heap[g]? = some (.cells cs t fr))
    (hu : P.underlying ty = some d) (hd : (match d with | .struct _ | .array _ _ => true | _ => false) = true) (hi : (P.info? ty).map (·.size) = some cs.size) :
    (results fn tmps).run P w = .ok (.tuple #[.agg cs, tmps.getD q undef]) w := by
  have hp' : tmps[p]?.getD undef = .pointer (some ⟨g, 0, none⟩) := by simpa using hp
  simp [results, h, hp', asAddr, run_loadVar_row w g t ty cs fr d hg hu hd hi]
theorem asBlock114 (A : Option Addr) (c : Nat) (l : List Int) (w : World) (hr : Kd.C (Kd.int .u8) w A l.length l) (hl : l.length = 16) : Calls Try.prog 114 #[.slice A 16 c] w fun e w' => e = .returned (.tuple #[.agg (ub l), .bool true]) ∧ Below w.heap.size w w' := by
  have hu113 := Try.underlying113
  have hz5 := Try.sizeOf5
  have HR := A_ hr
  have HL := A_ hl
  have HB := A_ (Below.refl w.heap.size w)
  clear hr hl
  go_enter Try.func114, Try.ntmps114
  go_wp2_with (first | ((with_reducible refine d1_ 2 ?_); refine bx_ 2 (ub (List.replicate 16 0)) 113 rfl rfl ?hr ?_; (case hr => have hz := Try.zeroValue113; go_simp <;> rfl); intro Af hg wb2 hbox hb; have Ag := gw_ (w := w) hg; replace HB := hb2_ hb; have Aa := A_ (hbox); clear hb hbox hg) | ((with_reducible refine d1_ 4 ?_); refine bx_ 4 (ub (List.replicate 16 0)) 113 rfl rfl ?hr ?_; (case hr => have hz := Try.zeroValue113; go_simp <;> rfl); intro Ah hg wb4 hbox hb; have Ae := gw_ (w := w) hg; have NE2_4 := hb3_ Aa hg; replace Aa := hb1_ Aa hb; replace HB := hb2_ hb; have Ab := A_ (hbox); clear hb hbox hg) | ((with_reducible refine d1_ 5 ?_); refine val_event rfl (.agg (ub (List.replicate 16 0))) ?hr ?_; (case hr => go_simp <;> rfl)) | ((with_reducible refine s1_ 113 4 ?_); refine arr_store (cs' := ub (List.replicate 16 0)) rfl rfl rfl rfl rfl Ab.out (hi113.trans (by rw [ub_size, List.length_replicate])) (by rw [ub_size]) (ub_one _) ?_; intro Ac hbs hgs; replace Aa := hb4_ Aa hgs NE2_4; replace HB := hb6_ HB hgs Ae; replace Ab := A_ hbs; clear hbs hgs) | ((with_reducible refine d1_ 8 ?_); refine arr_copy rfl rfl Try.underlying25 hi5 rfl rfl Ab.out (by have h_ := Kd.C_below HR.out HB.out; rw [HL.out] at h_; exact h_) (by simp only [List.length_replicate]) (by have := HL.out; omega) (by have := HL.out; omega) ?_; intro wk4 hbs hgs; replace Aa := hb4_ Aa hgs NE2_4; replace HB := hb6_ HB hgs Ae; replace Ab := A_ (show wk4.heap[Ah]? = some (Obj.cells (ub (l)) 113 (0, 0)) from by first | exact hbs | (rw [show (l : List Int) = l ++ (List.replicate 16 0).drop 16 from (List.append_nil l).symm]; exact hbs)); clear hbs hgs) | ((with_reducible refine d1_ 9 ?_); refine arr_load rfl rfl rfl rfl Ab.out Try.underlying113 rfl (hi113.trans (by rw [ub_size, HL.out])) ?_) | ((with_reducible refine s1_ 113 2 ?_); refine arr_store (cs' := ub l) rfl rfl rfl rfl rfl Aa.out (hi113.trans (by rw [ub_size, HL.out])) (by rw [ub_size, ub_size, HL.out]; rfl) (ub_one _) ?_; intro Ad hbs hgs; replace Ab := hb5_ Ab hgs NE2_4; replace HB := hb6_ HB hgs Ag; replace Aa := A_ hbs; clear hbs hgs))
  refine bodyPost_ret (results_cell_tmp rfl _ _ Af 113 (ub l) (0, 0) _ rfl Aa.out Try.underlying113 rfl (hi113.trans (by rw [ub_size, HL.out]))) rfl ?_
  exact ⟨rfl, HB.out⟩
def rcon : Nat → Int
  | 0 => 1
  | n + 1 => tw (rcon n)
def keyt (o : List Int) (i c : Int) : List Int := if i % 16 = 0 then [xr (sbx (rd o (i - 3))) c, sbx (rd o (i - 2)), sbx (rd o (i - 1)), sbx (rd o (i - 4))] else [rd o (i - 4), rd o (i - 3), rd o (i - 2), rd o (i - 1)]
def keyp (o t : List Int) (i : Int) : Nat → List Int
  | 0 => o
  | k + 1 => (keyp o t i k).set (i + k).toNat (xr (rd (keyp o t i k) (i + k - 16)) (rd t k))
def keyr (key : List Int) : Nat → List Int
  | 0 => key ++ List.replicate 160 0
  | n + 1 => keyp (keyr key n) (keyt (keyr key n) (16 + 4 * n) (rcon ((15 + 4 * n) / 16))) (16 + 4 * n) 4
theorem keyp_len (o t : List Int) (i : Int) (k : Nat) : (keyp o t i k).length = o.length := by
  induction k with
  | zero => rfl
  | succ k ih => rw [keyp, List.length_set, ih]
theorem keyr_len (key : List Int) (h : key.length = 16) (n : Nat) : (keyr key n).length = 176 := by
  induction n with
  | zero => rw [keyr, List.length_append, h, List.length_replicate]
  | succ n ih => rw [keyr, keyp_len, ih]
theorem keyp_byte (o t : List Int) (i : Int) (k : Nat) (h : ∀ x ∈ o, 0 ≤ x ∧ x ≤ 255) : ∀ x ∈ keyp o t i k, 0 ≤ x ∧ x ≤ 255 := by
  induction k with
  | zero => exact h
  | succ k ih =>
    intro x hx
    rw [keyp] at hx
    rcases List.mem_or_eq_of_mem_set hx with h1 | h1
    · exact ih x h1
    · rw [h1]; exact xr_byte _ _
theorem keyr_byte (key : List Int) (h : ∀ x ∈ key, 0 ≤ x ∧ x ≤ 255) (n : Nat) : ∀ x ∈ keyr key n, 0 ≤ x ∧ x ≤ 255 := by
  induction n with
  | zero =>
    intro x hx
    rw [keyr] at hx
    rcases List.mem_append.1 hx with h1 | h1
    · exact h x h1
    · have := List.eq_of_mem_replicate h1; omega
  | succ n ih => exact keyp_byte _ _ _ _ ih
def sched (key : List Int) : List Int := keyr key 40
theorem keyt_len (o : List Int) (i c : Int) : (keyt o i c).length = 4 := by unfold keyt; split <;> rfl
theorem still_idx {ops : Array Oper} {rest : List Oper} {o : Oper} {a : Act} {Q : Act → Prop} {W : World} (hgd : o.guard = none) {p : Tmp} {s : ByteArray} (ho : o.op = .index 9 (.const (.string s)) (.tmp p)) (hs : s = sbox) {x : Int} (hx : a.eval (.tmp p) = .int .u8 x) (h0 : 0 ≤ x) (h1 : x ≤ 255) (h : wpStill Try.prog ops W Q rest (a.put o.dst (.int .u8 (sbx x)))) : wpStill Try.prog ops W Q (o :: rest) a := by
  refine wpStill_step fun K hK => ?_
  subst hs
  have he : a.eval (.const (.string sbox)) = .string sbox := rfl
  have hw : Region.wanted o (yielded ops a.tmps) = true := by unfold Region.wanted; rw [hgd]
  rw [if_pos hw]
  unfold Oper.still execOp
  simp only [ho, hx, he, Sem.run_bind, run_idxbox x h0 h1 W, Result.andThen_ok, Sem.run_pure]
  exact ⟨rfl, hK _ h⟩
theorem ft_rcon0 : spec_FieldTimes.f 20 (rcon 0) 2 = some (tw (rcon 0)) := by kernel_rfl
theorem ft_rcon1 : spec_FieldTimes.f 20 (rcon 1) 2 = some (tw (rcon 1)) := by kernel_rfl
theorem ft_rcon2 : spec_FieldTimes.f 20 (rcon 2) 2 = some (tw (rcon 2)) := by kernel_rfl
theorem ft_rcon3 : spec_FieldTimes.f 20 (rcon 3) 2 = some (tw (rcon 3)) := by kernel_rfl
theorem ft_rcon4 : spec_FieldTimes.f 20 (rcon 4) 2 = some (tw (rcon 4)) := by kernel_rfl
theorem ft_rcon5 : spec_FieldTimes.f 20 (rcon 5) 2 = some (tw (rcon 5)) := by kernel_rfl
theorem ft_rcon6 : spec_FieldTimes.f 20 (rcon 6) 2 = some (tw (rcon 6)) := by kernel_rfl
theorem ft_rcon7 : spec_FieldTimes.f 20 (rcon 7) 2 = some (tw (rcon 7)) := by kernel_rfl
theorem ft_rcon8 : spec_FieldTimes.f 20 (rcon 8) 2 = some (tw (rcon 8)) := by kernel_rfl
theorem ft_rcon9 : spec_FieldTimes.f 20 (rcon 9) 2 = some (tw (rcon 9)) := by kernel_rfl
theorem ft_rcon10 : spec_FieldTimes.f 20 (rcon 10) 2 = some (tw (rcon 10)) := by kernel_rfl
theorem ft_rcon (m : Nat) (h : m ≤ 10) : spec_FieldTimes.f 20 (rcon m) 2 = some (tw (rcon m)) := by
  have hm : m = 0 ∨ m = 1 ∨ m = 2 ∨ m = 3 ∨ m = 4 ∨ m = 5 ∨ m = 6 ∨ m = 7 ∨ m = 8 ∨ m = 9 ∨ m = 10 := by omega
  rcases hm with rfl | rfl | rfl | rfl | rfl | rfl | rfl | rfl | rfl | rfl | rfl
  · exact ft_rcon0
  · exact ft_rcon1
  · exact ft_rcon2
  · exact ft_rcon3
  · exact ft_rcon4
  · exact ft_rcon5
  · exact ft_rcon6
  · exact ft_rcon7
  · exact ft_rcon8
  · exact ft_rcon9
  · exact ft_rcon10
theorem sub97_same (x : Int) (h0 : 0 ≤ x) (h1 : x ≤ 255) (w : World) : Calls Try.prog 97 #[.int .u8 x] w fun e w' => e = .returned (.int .u8 (sbx x)) ∧ w' = w := by
  have Aa := A_ h0
  have Ab := A_ h1
  clear h0 h1
  go_enter Try.func97, Try.ntmps97
  go_wp2_with (first | ((with_reducible refine d1_ 4 ?_); refine sidx_event rfl rfl rfl (by kernel_rfl) rfl Aa.out Ab.out ?_))
  go_ret
  exact ⟨rfl, rfl⟩
def dbl (a : Int) : Int := Go.bits .xor .u8 ((a * 2) % 256) (((Int.tdiv a 128 % 256) * 27) % 256)
theorem dbl110_same (a : Int) (w : World) : Calls Try.prog 110 #[.int .u8 a] w fun e w' => e = .returned (.int .u8 (dbl a)) ∧ w' = w := by
  go_enter Try.func110, Try.ntmps110
  go_wp2
  go_ret
  exact ⟨rfl, rfl⟩
theorem R_blk {w : World} {g base : Nat} {l : List Int} {ok : Nat → Prop} (h : w.heap[g]? = some (.cells (ub l) 5 (0, 0))) (hb : base ≤ g) (hl : 0 < l.length) (hm : l.length ≤ maxLen) (hok : ok g) : Kd.R (Kd.int .u8) 5 w base ok (.slice (some ⟨g, 0, none⟩) l.length l.length) l := by
  refine Kd.R_of_own ?_ (fun k hk => ?_)
  · refine ⟨by rw [encs_length, Nat.mul_one], .inr ⟨g, l.length, ub l, rfl, hb, h, ?_, ?_, ?_, ?_⟩⟩
    · exact Nat.le_refl _
    · exact hm
    · rw [ub_size, Nat.mul_one]
    · rw [Nat.mul_one]; simp [ub, encs]; exact List.take_of_length_le (by simp)
  · injection hk with hk
    subst hk
    exact hok
section
variable {P : Program} {ops : Array Oper} {rest : List Oper} {o : Oper} {a : Act} {Q : Exit → Act → World → Prop} {W : World}
theorem sl_event (hgd : o.guard = none) {N : Tmp} (_hd : o.dst = some N) {cs : Array Value} {t : TypeId} {n : Nat}
    (hrun : (execOp a.eval o).run P W = .ok (.value (.slice (some ⟨W.heap.size, 0, none⟩) n n)) (W.alloc (.cells cs t (0, 0))))
    (h : ∀ g, g = W.heap.size → ∀ w1, w1.heap[g]? = some (.cells cs t (0, 0)) → Below W.heap.size W w1 → wpList P ops Q rest (a.put o.dst (.slice (some ⟨g, 0, none⟩) n n)) w1) : wpList P ops Q (o :: rest) a W :=
  Kd.event_run hgd hrun (h _ rfl _ (blk_new W _) (below_alloc (Below.refl _ _) _))
end
theorem mk176 (w : World) : (Instr.makeSlice 25 (.int .i64 176) (.int .i64 176)).run Try.prog w = .ok (.slice (some ⟨w.heap.size, 0, none⟩) 176 176) (w.alloc (.cells (ub (List.replicate 176 0)) 5 (0, 0))) := by
  have h := run_make_row' (P := Try.prog) 25 5 (.int .u8 0) 1 Try.underlying25 info5 rfl .i64 .i64 176 (by decide) (by decide) w
  rw [show madeCells #[Value.int .u8 0] 176 = ub (List.replicate 176 0) from by kernel_rfl] at h
  exact h
theorem keys74 (A : Option Addr) (c : Nat) (l : List Int) (w : World) (hr : Kd.C (Kd.int .u8) w A l.length l) (hl : l.length = 16) (hy : ∀ x ∈ l, 0 ≤ x ∧ x ≤ 255) : Calls Try.prog 74 #[.slice A l.length c] w fun e w' => ∃ v, e = .returned v ∧ Kd.R (Kd.int .u8) 5 w' w.heap.size (fun _ => True) v (sched l) ∧ Below w.heap.size w w' := by
  have hu25 := Try.underlying25
  have hu126 := Try.underlying126
  have hz5 := Try.sizeOf5
  have HR := A_ hr
  have HL := A_ hl
  have HYl := A_ hy
  have HB := A_ (Below.refl w.heap.size w)
  clear hr hl hy
  go_enter Try.func74, Try.ntmps74
  go_wp2_with (first | ((with_reducible refine d1_ 8 ?_); refine sl_event ?hg (N := 8) ?hd (cs := ub (List.replicate 176 0)) (t := 5) (n := 176) ?hr ?_; (case hd => rfl); (case hg => rfl); (case hr => refine Eq.trans (Sem.run_bind ..) ?_; exact (congrArg (fun r_ => Result.andThen r_ _) (mk176 _)).trans rfl); intro Ac hg wb3 hbox hb; have Ah := gw_ (w := w) hg; replace HB := hb2_ hb; have Aa := A_ (hbox); clear hb hbox hg) | ((with_reducible refine d1_ 11 ?_); refine arr_copy rfl rfl Try.underlying25 hi5 rfl rfl Aa.out (Kd.C_below HR.out HB.out) (by simp only [List.length_replicate]) (by have := HL.out; omega) (by have := HL.out; omega) ?_; intro wk3 hbs hgs; replace HB := hb6_ HB hgs Ah; replace Aa := A_ (show wk3.heap[Ac]? = some (Obj.cells (ub (keyr l 0)) 5 (0, 0)) from by first | exact hbs | (rw [keyr, show (l ++ List.replicate 160 0 : List Int) = l ++ (List.replicate 176 0).drop l.length from by first | (rw [HL.out]; done) | (rw [HL.out]; rfl)]; exact hbs)); clear hbs hgs))
  go_loopg [4, 5] 40 (fun kq v4 v5 w' => ∃ (i : Int), v4 = .int .u8 (rcon ((i - 1) / 16).toNat) ∧ v5 = .int .i64 i ∧ Aside0 (16 ≤ i ∧ i ≤ 176 ∧ i % 4 = 0) ∧ Aside0 (kq = 44 - (i / 4).toNat) ∧ Aside0 (w'.heap[Ac]? = some (.cells (ub (keyr l ((i - 16) / 4).toNat)) 5 (0, 0))) ∧ Aside0 (Below w.heap.size w w'))
  case atStart => exact ⟨16, eq_b, eq_b, ⟨by omega⟩, ⟨rfl⟩, Aa, HB⟩
  case round =>
    clear Aa HB
    obtain ⟨i, rfl, rfl, HI, HK1, Aa, HB⟩ := hrel
    by_cases c4 : i < 176
    · have Aj : decide (i < 176) = true := decide_eq_true c4
      have Ae := A_ c4
      have HO := A_ (keyr_len l HL.out ((i - 16) / 4).toNat)
      have HY := A_ (keyr_byte l HYl.out ((i - 16) / 4).toNat)
      have HS := A_ (show keyr l (((i + 4) - 16) / 4).toNat = keyp (keyr l ((i - 16) / 4).toNat) (keyt (keyr l ((i - 16) / 4).toNat) i (rcon ((i - 1) / 16).toNat)) i 4 by
        obtain ⟨n, hn⟩ : ∃ n : Nat, i = 16 + 4 * n := ⟨((i - 16) / 4).toNat, by have := HI.out; omega⟩
        subst hn
        rw [show ((16 + 4 * (n : Int) - 16) / 4).toNat = n by omega, show ((16 + 4 * (n : Int) + 4 - 16) / 4).toNat = n + 1 by omega, show ((16 + 4 * (n : Int) - 1) / 16).toNat = (15 + 4 * n) / 16 by omega, keyr])
      generalize ho : keyr l ((i - 16) / 4).toNat = o at Aa HO HY HS
      clear ho
      obtain ⟨k1, rfl⟩ : ∃ k1, gk = k1 + 1 := ⟨gk - 1, by have := HK1.out; have := HI.out; have := Ae.out; omega⟩
      have HCN := A_ (show rcon ((i + 4 - 1) / 16).toNat = if i % 16 = 0 then tw (rcon ((i - 1) / 16).toNat) else rcon ((i - 1) / 16).toNat by
        split
        · rw [show ((i + 4 - 1) / 16).toNat = ((i - 1) / 16).toNat + 1 by have := HI.out; omega, rcon]
        · rw [show ((i + 4 - 1) / 16).toNat = ((i - 1) / 16).toNat by have := HI.out; omega])
      have HFT := A_ (show spec_FieldTimes.f 20 (rcon ((i - 1) / 16).toNat) 2 = some (tw (rcon ((i - 1) / 16).toNat)) from ft_rcon _ (by have := HI.out; have := Ae.out; omega))
      generalize hcc : rcon ((i - 1) / 16).toNat = cc at HS HCN HFT
      clear hcc
      have Al : wr.cell? ⟨Ac, (i - 4).toNat, none⟩ = some (.int .u8 (rd o (i - 4))) := blk_ub Aa.out _ (by have := HI.out; omega) (by rw [HO.out]; have := HI.out; omega)
      have hb4 := A_ (rd_byte HY.out (i - 4) (by have := HI.out; omega) (by rw [HO.out]; have := HI.out; omega))
      have w4 : wrap64 (i - 4) = i - 4 := by have := HI.out; unfold wrap64; omega
      have j4 : IntKind.i64.wrap (i - 4) = i - 4 := by rw [IntKind.wrap_i64]; unfold wrap64 at w4; exact w4
      have p4 : (0 ≤ i - 4) = True := eq_true (by have := HI.out; omega)
      have q4 : (i - 4 < 176) = True := eq_true (by have := HI.out; omega)
      have Am : wr.cell? ⟨Ac, (i - 3).toNat, none⟩ = some (.int .u8 (rd o (i - 3))) := blk_ub Aa.out _ (by have := HI.out; omega) (by rw [HO.out]; have := HI.out; omega)
      have hb3 := A_ (rd_byte HY.out (i - 3) (by have := HI.out; omega) (by rw [HO.out]; have := HI.out; omega))
      have w3 : wrap64 (i - 3) = i - 3 := by have := HI.out; unfold wrap64; omega
      have j3 : IntKind.i64.wrap (i - 3) = i - 3 := by rw [IntKind.wrap_i64]; unfold wrap64 at w3; exact w3
      have p3 : (0 ≤ i - 3) = True := eq_true (by have := HI.out; omega)
      have q3 : (i - 3 < 176) = True := eq_true (by have := HI.out; omega)
      have An : wr.cell? ⟨Ac, (i - 2).toNat, none⟩ = some (.int .u8 (rd o (i - 2))) := blk_ub Aa.out _ (by have := HI.out; omega) (by rw [HO.out]; have := HI.out; omega)
      have hb2 := A_ (rd_byte HY.out (i - 2) (by have := HI.out; omega) (by rw [HO.out]; have := HI.out; omega))
      have w2 : wrap64 (i - 2) = i - 2 := by have := HI.out; unfold wrap64; omega
      have j2 : IntKind.i64.wrap (i - 2) = i - 2 := by rw [IntKind.wrap_i64]; unfold wrap64 at w2; exact w2
      have p2 : (0 ≤ i - 2) = True := eq_true (by have := HI.out; omega)
      have q2 : (i - 2 < 176) = True := eq_true (by have := HI.out; omega)
      have Ak : wr.cell? ⟨Ac, (i - 1).toNat, none⟩ = some (.int .u8 (rd o (i - 1))) := blk_ub Aa.out _ (by have := HI.out; omega) (by rw [HO.out]; have := HI.out; omega)
      have hb1 := A_ (rd_byte HY.out (i - 1) (by have := HI.out; omega) (by rw [HO.out]; have := HI.out; omega))
      have w1 : wrap64 (i - 1) = i - 1 := by have := HI.out; unfold wrap64; omega
      have j1 : IntKind.i64.wrap (i - 1) = i - 1 := by rw [IntKind.wrap_i64]; unfold wrap64 at w1; exact w1
      have p1 : (0 ≤ i - 1) = True := eq_true (by have := HI.out; omega)
      have q1 : (i - 1 < 176) = True := eq_true (by have := HI.out; omega)
      rw [show (i - 1).toNat = i.toNat - 1 by omega] at Ak
      have rr2 : (2 ≤ i) = True := eq_true (by have := HI.out; omega)
      have rr3 : (3 ≤ i) = True := eq_true (by have := HI.out; omega)
      have rr4 : (4 ≤ i) = True := eq_true (by have := HI.out; omega)
      have hgl : Ac < wr.heap.size := blk_lt Aa.out
      have hgl2 : (Ac < wr.heap.size) = True := eq_true hgl
      have r1 : (i ≤ 176) = True := eq_true (by have := HI.out; omega)
      have r2 : (1 ≤ i) = True := eq_true (by have := HI.out; omega)
      clear c4
      go_wp2
      go_region_held3 (fun w' => w'.cell? ⟨Ac, (i - 4).toNat, none⟩ = some (.int .u8 (rd o (i - 4))) ∧ w'.cell? ⟨Ac, (i - 3).toNat, none⟩ = some (.int .u8 (rd o (i - 3))) ∧ w'.cell? ⟨Ac, (i - 2).toNat, none⟩ = some (.int .u8 (rd o (i - 2))) ∧ w'.cell? ⟨Ac, i.toNat - 1, none⟩ = some (.int .u8 (rd o (i - 1)))) (go_keep) (first | fail)
      clear Ak An Am Al w1 w2 w3 w4 j1 j2 j3 j4 p1 p2 p3 p4 q1 q2 q3 q4 r1 r2 rr2 rr3 rr4 hgl2
      have HG6 := A_ (show w.heap.size ≤ wr.heap.size from HB.out.size)
      have hne36 : Ac ≠ wr.heap.size := Nat.ne_of_lt hgl
      have hk6 : ((wr.alloc (Obj.cells #[Value.int .u8 (rd o (i - 4)), Value.int .u8 (rd o (i - 3)), Value.int .u8 (rd o (i - 2)), Value.int .u8 (rd o (i - 1))] 126 (0, 0))).drew).heap[wr.heap.size]? = some (.cells (ub [rd o (i - 4), rd o (i - 3), rd o (i - 2), rd o (i - 1)]) 126 (0, 0)) := heap_alloc_new wr _
      have hk3 : ((wr.alloc (Obj.cells #[Value.int .u8 (rd o (i - 4)), Value.int .u8 (rd o (i - 3)), Value.int .u8 (rd o (i - 2)), Value.int .u8 (rd o (i - 1))] 126 (0, 0))).drew).heap[Ac]? = some (.cells (ub o) 5 (0, 0)) := (Below.heap_alloc wr _ Ac hgl).trans Aa.out
      have hkb : Below w.heap.size w (wr.alloc (Obj.cells #[Value.int .u8 (rd o (i - 4)), Value.int .u8 (rd o (i - 3)), Value.int .u8 (rd o (i - 2)), Value.int .u8 (rd o (i - 1))] 126 (0, 0))).drew := (HB.out.alloc HB.out.size _).drew
      clear hgl Aa HB
      generalize (wr.alloc (Obj.cells #[Value.int .u8 (rd o (i - 4)), Value.int .u8 (rd o (i - 3)), Value.int .u8 (rd o (i - 2)), Value.int .u8 (rd o (i - 1))] 126 (0, 0))).drew = wa at hk6 hk3 hkb ⊢
      generalize wr.heap.size = Af at hk6 hne36 HG6 ⊢
      have Ab := A_ hk6
      have Aa := A_ hk3
      have HB := A_ hkb
      have NE3_6 := A_ hne36
      clear hk6 hk3 hkb hne36
      by_cases c8 : i % 16 = 0
      · have c8b : (i.tmod 16 == 0) = true := by rw [Int.tmod_eq_emod_of_nonneg (by have := HI.out; omega), c8]; rfl
        have HT := A_ (show keyt o i cc = [xr (sbx (rd o (i - 3))) cc, sbx (rd o (i - 2)), sbx (rd o (i - 1)), sbx (rd o (i - 4))] from if_pos c8)
        replace HCN := A_ (HCN.out.trans (if_pos c8))
        clear c8
        go_wp2
        refine still_tail_at 15 (by kernel_rfl) (by kernel_rfl) ?_
        intro wq ewq
        have hh : wq.heap = wa.heap := by rw [ewq]; rfl
        replace HB : Aside0 (Below w.heap.size w wq) := ⟨by rw [ewq]; exact HB.out.drew⟩
        replace Aa := A_ (heap_of hh Aa.out)
        replace Ab := A_ (heap_of hh Ab.out)
        clear ewq hh
        have hm0 : wq.cell? ⟨Af, 0, none⟩ = some (.int .u8 (rd o (i - 4))) := blk_ub Ab.out 0 (by decide) (by simp)
        have hm1 : wq.cell? ⟨Af, 1, none⟩ = some (.int .u8 (rd o (i - 3))) := blk_ub Ab.out 1 (by decide) (by simp)
        have hm2 : wq.cell? ⟨Af, 2, none⟩ = some (.int .u8 (rd o (i - 2))) := blk_ub Ab.out 2 (by decide) (by simp)
        have hm3 : wq.cell? ⟨Af, 3, none⟩ = some (.int .u8 (rd o (i - 1))) := blk_ub Ab.out 3 (by decide) (by simp)
        simp only [List.take_succ_cons, List.take_zero, List.drop_succ_cons, List.drop_zero]
        repeat (first | still_step | still_call (sub97_same _ (by first | exact hb1.out.1 | exact hb2.out.1 | exact hb3.out.1 | exact hb4.out.1) (by first | exact hb1.out.2 | exact hb2.out.2 | exact hb3.out.2 | exact hb4.out.2) _))
        try refine wpStill_nil ?_
        clear hm0 hm1 hm2 hm3
        go_wp2_with (first | ((with_reducible refine s1_ 126 6 ?_); refine arr_store (cs' := ub (keyt o i cc)) rfl rfl rfl rfl (by rw [HT.out]; rfl) Ab.out (hi126.trans (by rw [ub_size, keyt_len])) (by rw [ub_size, ub_size, keyt_len]; rfl) (ub_one _) ?_; intro Ai hbs hgs; replace Aa := hb4_ Aa hgs NE3_6; replace HB := A_ (HB.out.grown hgs HB.out.size (fun k_ e_ => by injection e_ with e_; rw [← e_]; exact HG6.out)); replace Ab := A_ hbs; clear hbs hgs) | (go_at_call 98; (with_reducible refine (spec_FieldTimes.calls 20 cc 2 (tw cc) _ HFT.out).mono ?_); rintro e wt ⟨rfl, ⟨nd, rfl⟩⟩; replace Aa := A_ (show (World.drewN _ nd).heap[Ac]? = _ from Aa.out); replace Ab := A_ (show (World.drewN _ nd).heap[Af]? = _ from Ab.out); replace HB := A_ (pw_below_drewN HB.out nd)))
        go_loopg [7] 4 (fun kq v7 w' => ∃ (k : Int), v7 = .int .i64 k ∧ Aside0 (0 ≤ k ∧ k ≤ 4) ∧ Aside0 (kq = 4 - k.toNat) ∧ Aside0 (w'.heap[Ac]? = some (.cells (ub (keyp o (keyt o i cc) i k.toNat)) 5 (0, 0))) ∧ Aside0 (w'.heap[Af]? = some (.cells (ub (keyt o i cc)) 126 (0, 0))) ∧ Aside0 (Below w.heap.size w w'))
        case atStart => exact ⟨0, eq_b, ⟨by omega⟩, ⟨rfl⟩, Aa, Ab, HB⟩
        case round =>
          clear Aa Ab HB
          obtain ⟨k, rfl, HJ, HK2, Aa, Ab, HB⟩ := hrel
          by_cases c5 : k < 4
          · have Ag : decide (k < 4) = true := decide_eq_true c5
            have Ad := A_ c5
            obtain ⟨k2, rfl⟩ : ∃ k2, gk = k2 + 1 := ⟨gk - 1, by have := HK2.out; have := HJ.out; have := Ad.out; omega⟩
            clear c5
            have hlr : wr.cell? ⟨Ac, (i + k - 16).toNat, none⟩ = some (.int .u8 (rd (keyp o (keyt o i cc) i k.toNat) (i + k - 16))) := blk_ub Aa.out _ (by have := HI.out; have := HJ.out; omega) (by rw [keyp_len, HO.out]; have := HI.out; have := HJ.out; have := Ae.out; have := Ad.out; omega)
            obtain ⟨v0, hlw⟩ : ∃ v0, wr.cell? ⟨Ac, (i + k).toNat, none⟩ = some (.int .u8 v0) := ⟨_, blk_ub Aa.out (i + k) (by have := HI.out; have := HJ.out; omega) (by rw [keyp_len, HO.out]; have := HI.out; have := HJ.out; have := Ae.out; have := Ad.out; omega)⟩
            have hfr : wr.frozen? ⟨Ac, (i + k).toNat, none⟩ = false := blk_frozen Aa.out _
            have w1 : wrap64 (i + k) = i + k := by have := HI.out; have := HJ.out; unfold wrap64; omega
            have w2 : wrap64 (i + k - 16) = i + k - 16 := by have := HI.out; have := HJ.out; unfold wrap64; omega
            have p1 : (0 ≤ i + k) = True := eq_true (by have := HI.out; have := HJ.out; omega)
            have p2 : (0 ≤ i + k - 16) = True := eq_true (by have := HI.out; have := HJ.out; omega)
            have p3 : (16 ≤ i + k) = True := eq_true (by have := HI.out; have := HJ.out; omega)
            have q1 : (i + k < 176) = True := eq_true (by have := HI.out; have := HJ.out; have := Ae.out; have := Ad.out; omega)
            have q2 : (i + k - 16 < 176) = True := eq_true (by have := HI.out; have := HJ.out; have := Ae.out; have := Ad.out; omega)
            have htk : wr.cell? ⟨Af, k.toNat, none⟩ = some (.int .u8 (rd (keyt o i cc) k)) := blk_ub Ab.out k HJ.out.1 (by rw [keyt_len]; have := Ad.out; omega)
            have p4 : (0 ≤ k) = True := eq_true HJ.out.1
            have q4 : (k < 4) = True := eq_true Ad.out
            go_wp2
            refine still_tail_at 16 (by kernel_rfl) (by kernel_rfl) ?_
            intro wq ewq
            have hh : wq.heap = wr.heap := by rw [ewq]; rfl
            replace hlr := (cell_of hh _).trans hlr
            replace hlw := (cell_of hh _).trans hlw
            replace hfr := (frozen_of hh _).trans hfr
            replace htk := (cell_of hh _).trans htk
            replace HB : Aside0 (Below w.heap.size w wq) := ⟨by rw [ewq]; exact HB.out.drew⟩
            replace Aa := A_ (heap_of hh Aa.out)
            replace Ab := A_ (heap_of hh Ab.out)
            clear ewq hh
            have j1 : IntKind.i64.wrap (i + k) = i + k := by rw [IntKind.wrap_i64]; unfold wrap64 at w1; exact w1
            have j2 : IntKind.i64.wrap (i + k - 16) = i + k - 16 := by rw [IntKind.wrap_i64]; unfold wrap64 at w2; exact w2
            simp only [List.take_succ_cons, List.take_zero, List.drop_succ_cons, List.drop_zero]
            repeat still_step
            try refine wpStill_nil ?_
            go_wp2
            clear w1 w2 j1 j2 hlr hlw hfr htk
            go_roundg k2
            case measure => have := HK2.out; omega
            case rel =>
              refine ⟨k + 1, ?_, ⟨?_⟩, ⟨?_⟩, ⟨?_⟩, ⟨?_⟩, ⟨?_⟩⟩
              · have := HJ.out; rw [show wrap64 (k + 1) = k + 1 by unfold wrap64; omega]
              · have := HJ.out; have := Ad.out; omega
              · have := HK2.out; have := HJ.out; omega
              · rw [show (k + 1).toNat = k.toNat + 1 by have := HJ.out; omega, keyp, show ((k.toNat : Nat) : Int) = k by have := HJ.out; omega]
                exact blk_ubput Aa.out _ _
              · exact blk_far Ab.out (Ne.symm NE3_6.out) _
              · exact below_set HB.out Ah.out
          · have Ag : decide (k < 4) = false := decide_eq_false c5
            have hk : k = 4 := by have := HJ.out; omega
            subst hk
            have hw : wrap64 (i + 4) = i + 4 := by have := HI.out; unfold wrap64; omega
            clear c5
            go_wp2
            go_roundg k1
            case measure => have := HK1.out; have := HI.out; omega
            case rel => exact ⟨i + 4, (by rw [HCN.out]), (by rw [hw]), ⟨by have := HI.out; have := Ae.out; omega⟩, ⟨by have := HK1.out; have := HI.out; have := Ae.out; omega⟩, ⟨by rw [HS.out]; exact Aa.out⟩, HB⟩
      · have c8b : (i.tmod 16 == 0) = false := by rw [Int.tmod_eq_emod_of_nonneg (by have := HI.out; omega)]; exact beq_false_of_ne c8
        have HT := A_ (show keyt o i cc = [rd o (i - 4), rd o (i - 3), rd o (i - 2), rd o (i - 1)] from if_neg c8)
        replace HCN := A_ (HCN.out.trans (if_neg c8))
        clear c8
        replace Ab : Aside0 (wa.heap[Af]? = some (.cells (ub (keyt o i cc)) 126 (0, 0))) := ⟨by rw [HT.out]; exact Ab.out⟩
        go_wp2
        go_loopg [7] 4 (fun kq v7 w' => ∃ (k : Int), v7 = .int .i64 k ∧ Aside0 (0 ≤ k ∧ k ≤ 4) ∧ Aside0 (kq = 4 - k.toNat) ∧ Aside0 (w'.heap[Ac]? = some (.cells (ub (keyp o (keyt o i cc) i k.toNat)) 5 (0, 0))) ∧ Aside0 (w'.heap[Af]? = some (.cells (ub (keyt o i cc)) 126 (0, 0))) ∧ Aside0 (Below w.heap.size w w'))
        case atStart => exact ⟨0, eq_b, ⟨by omega⟩, ⟨rfl⟩, Aa, Ab, HB⟩
        case round =>
          clear Aa Ab HB
          obtain ⟨k, rfl, HJ, HK2, Aa, Ab, HB⟩ := hrel
          by_cases c5 : k < 4
          · have Ag : decide (k < 4) = true := decide_eq_true c5
            have Ad := A_ c5
            obtain ⟨k2, rfl⟩ : ∃ k2, gk = k2 + 1 := ⟨gk - 1, by have := HK2.out; have := HJ.out; have := Ad.out; omega⟩
            clear c5
            have hlr : wr.cell? ⟨Ac, (i + k - 16).toNat, none⟩ = some (.int .u8 (rd (keyp o (keyt o i cc) i k.toNat) (i + k - 16))) := blk_ub Aa.out _ (by have := HI.out; have := HJ.out; omega) (by rw [keyp_len, HO.out]; have := HI.out; have := HJ.out; have := Ae.out; have := Ad.out; omega)
            obtain ⟨v0, hlw⟩ : ∃ v0, wr.cell? ⟨Ac, (i + k).toNat, none⟩ = some (.int .u8 v0) := ⟨_, blk_ub Aa.out (i + k) (by have := HI.out; have := HJ.out; omega) (by rw [keyp_len, HO.out]; have := HI.out; have := HJ.out; have := Ae.out; have := Ad.out; omega)⟩
            have hfr : wr.frozen? ⟨Ac, (i + k).toNat, none⟩ = false := blk_frozen Aa.out _
            have w1 : wrap64 (i + k) = i + k := by have := HI.out; have := HJ.out; unfold wrap64; omega
            have w2 : wrap64 (i + k - 16) = i + k - 16 := by have := HI.out; have := HJ.out; unfold wrap64; omega
            have p1 : (0 ≤ i + k) = True := eq_true (by have := HI.out; have := HJ.out; omega)
            have p2 : (0 ≤ i + k - 16) = True := eq_true (by have := HI.out; have := HJ.out; omega)
            have p3 : (16 ≤ i + k) = True := eq_true (by have := HI.out; have := HJ.out; omega)
            have q1 : (i + k < 176) = True := eq_true (by have := HI.out; have := HJ.out; have := Ae.out; have := Ad.out; omega)
            have q2 : (i + k - 16 < 176) = True := eq_true (by have := HI.out; have := HJ.out; have := Ae.out; have := Ad.out; omega)
            have htk : wr.cell? ⟨Af, k.toNat, none⟩ = some (.int .u8 (rd (keyt o i cc) k)) := blk_ub Ab.out k HJ.out.1 (by rw [keyt_len]; have := Ad.out; omega)
            have p4 : (0 ≤ k) = True := eq_true HJ.out.1
            have q4 : (k < 4) = True := eq_true Ad.out
            go_wp2
            refine still_tail_at 16 (by kernel_rfl) (by kernel_rfl) ?_
            intro wq ewq
            have hh : wq.heap = wr.heap := by rw [ewq]; rfl
            replace hlr := (cell_of hh _).trans hlr
            replace hlw := (cell_of hh _).trans hlw
            replace hfr := (frozen_of hh _).trans hfr
            replace htk := (cell_of hh _).trans htk
            replace HB : Aside0 (Below w.heap.size w wq) := ⟨by rw [ewq]; exact HB.out.drew⟩
            replace Aa := A_ (heap_of hh Aa.out)
            replace Ab := A_ (heap_of hh Ab.out)
            clear ewq hh
            have j1 : IntKind.i64.wrap (i + k) = i + k := by rw [IntKind.wrap_i64]; unfold wrap64 at w1; exact w1
            have j2 : IntKind.i64.wrap (i + k - 16) = i + k - 16 := by rw [IntKind.wrap_i64]; unfold wrap64 at w2; exact w2
            simp only [List.take_succ_cons, List.take_zero, List.drop_succ_cons, List.drop_zero]
            repeat still_step
            try refine wpStill_nil ?_
            go_wp2
            clear w1 w2 j1 j2 hlr hlw hfr htk
            go_roundg k2
            case measure => have := HK2.out; omega
            case rel =>
              refine ⟨k + 1, ?_, ⟨?_⟩, ⟨?_⟩, ⟨?_⟩, ⟨?_⟩, ⟨?_⟩⟩
              · have := HJ.out; rw [show wrap64 (k + 1) = k + 1 by unfold wrap64; omega]
              · have := HJ.out; have := Ad.out; omega
              · have := HK2.out; have := HJ.out; omega
              · rw [show (k + 1).toNat = k.toNat + 1 by have := HJ.out; omega, keyp, show ((k.toNat : Nat) : Int) = k by have := HJ.out; omega]
                exact blk_ubput Aa.out _ _
              · exact blk_far Ab.out (Ne.symm NE3_6.out) _
              · exact below_set HB.out Ah.out
          · have Ag : decide (k < 4) = false := decide_eq_false c5
            have hk : k = 4 := by have := HJ.out; omega
            subst hk
            have hw : wrap64 (i + 4) = i + 4 := by have := HI.out; unfold wrap64; omega
            clear c5
            go_wp2
            go_roundg k1
            case measure => have := HK1.out; have := HI.out; omega
            case rel => exact ⟨i + 4, (by rw [HCN.out]), (by rw [hw]), ⟨by have := HI.out; have := Ae.out; omega⟩, ⟨by have := HK1.out; have := HI.out; have := Ae.out; omega⟩, ⟨by rw [HS.out]; exact Aa.out⟩, HB⟩
    · have Aj : decide (i < 176) = false := decide_eq_false c4
      have hx : i = 176 := by have := HI.out; omega
      subst hx
      replace Aa := A_ (show wr.heap[Ac]? = some (.cells (ub (sched l)) 5 (0, 0)) from Aa.out)
      clear c4
      have hsl := A_ (show (sched l).length = 176 from keyr_len l HL.out 40)
      go_wp2
      go_ret
      exact ⟨_, rfl, by have h_ := R_blk (ok := fun _ => True) Aa.out Ah.out (by rw [hsl.out]; decide) (by rw [hsl.out]; decide) trivial; rwa [hsl.out] at h_, HB.out⟩
def spec_l2Keys.f (l0 : List Int) : Option (List Int) := if l0.length = 16 ∧ ∀ x ∈ l0, 0 ≤ x ∧ x ≤ 255 then some (sched l0) else none
theorem spec_l2Keys.calls (A0 : Option Addr) (c0 : Nat) (l0 : List Int) (r : List Int) (w : World) (Aa : Kd.C (Kd.int .u8) w A0 l0.length l0) (Ab : l0.length ≤ c0) (h : spec_l2Keys.f l0 = some r) :
    Calls Try.prog 74 #[.slice A0 l0.length c0] w fun e w' => ∃ v0_ : Value, e = .returned (v0_) ∧ Kd.R (Kd.int .u8) 5 w' w.heap.size (fun _ => True) v0_ r ∧ Below w.heap.size w w' := by
  unfold spec_l2Keys.f at h
  by_cases hn : l0.length = 16 ∧ ∀ x ∈ l0, 0 ≤ x ∧ x ≤ 255
  · rw [if_pos hn] at h
    obtain rfl := Option.some.inj h
    exact keys74 A0 c0 l0 w Aa hn.1 hn.2
  · rw [if_neg hn] at h
    cases h
end Go.Proofs.Ytiioiohdifkbgaa.MFnLetters
