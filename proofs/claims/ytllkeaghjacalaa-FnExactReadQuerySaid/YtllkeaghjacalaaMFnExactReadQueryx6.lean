-- Laid by a program of this session (the kit's print, turned where it falls short; the texts of functions that it does not take are proved by hand).
import Derived.Test.YtllkeaghjacalaaMFnExactReadQueryx0
import Derived.Test.YtllkeaghjacalaaMFnExactReadQueryx4
import Derived.Test.YtllkeaghjacalaaMFnExactReadQueryx5
namespace Go.Proofs.Ytllkeaghjacalaa.MFnExactReadQuery
open Go.RowKit Go.Proofs.YtllkeaghjacalaaW.PrintWords Go.Proofs.YtllkeaghjacalaaW.PrintLast Go.Proofs.YtllkeaghjacalaaW.PrintMore
attribute [local go_sem] max2_int min2_int max_two min_two max_three min_three max_four min_four   -- for this text's walks alone
set_option linter.unusedVariables false
set_option linter.unusedSimpArgs false

attribute [local go_sem] isSome_setCell
/-! ### slices_Concat_byte_byte: function 57 -/
mutual
def slices_Concat_byte_byte.l0 : Nat → List (List Int) → Int → List (List Int) → Int → Int → Option (List Int)
 | 0, _, _, _, _, _ => none
 | k + 1, x0, x3, x9, x10, x11 => if x11 < x10 then (if 0 ≤ x11 then (if x11 < (x9.length : Int) then (if (wrap64 (x3 + ((rd_L2 x9 x11).length : Int))) < 0 then (none) else (slices_Concat_byte_byte.l0 k x0 (wrap64 (x3 + ((rd_L2 x9 x11).length : Int))) x9 x10 (wrap64 (x11 + 1)))) else (none)) else (none)) else ((slices_Grow_byte_byte.f ([] : List Int) x3).bind fun t209 => (slices_Concat_byte_byte.l1 k t209 x0 (x0.length : Int) 0))
def slices_Concat_byte_byte.l1 : Nat → List Int → List (List Int) → Int → Int → Option (List Int)
 | 0, _, _, _, _ => none
 | k + 1, x6, x25, x26, x27 => if x27 < x26 then (if 0 ≤ x27 then (if x27 < (x25.length : Int) then (if x6.length + (rd_L2 x25 x27).length < 140737488355328 then (slices_Concat_byte_byte.l1 k (x6 ++ (rd_L2 x25 x27)) x25 x26 (wrap64 (x27 + 1))) else (none)) else (none)) else (none)) else (some x6)
end
def slices_Concat_byte_byte.f (k : Nat) (l0 : List (List Int)) : Option (List Int) := slices_Concat_byte_byte.l0 k l0 0 l0 (l0.length : Int) 0
theorem slices_Concat_byte_byte.mono_l : ∀ k, (∀ y0 y1 y2 y3 y4, LeO (slices_Concat_byte_byte.l0 k y0 y1 y2 y3 y4) (slices_Concat_byte_byte.l0 (k + 1) y0 y1 y2 y3 y4)) ∧ (∀ y0 y1 y2 y3, LeO (slices_Concat_byte_byte.l1 k y0 y1 y2 y3) (slices_Concat_byte_byte.l1 (k + 1) y0 y1 y2 y3))
 | 0 => ⟨fun _ _ _ _ _ r h => by simp [slices_Concat_byte_byte.l0] at h, fun _ _ _ _ r h => by simp [slices_Concat_byte_byte.l1] at h⟩
 | k + 1 => by
  obtain ⟨ih0, ih1⟩ := slices_Concat_byte_byte.mono_l k; refine ⟨?_, ?_⟩
  ·
   intro y0 y1 y2 y3 y4
   unfold slices_Concat_byte_byte.l0
   repeat' first
   | (with_reducible exact ih0 _ _ _ _ _)
   | (with_reducible exact ih1 _ _ _ _)
   | (with_reducible exact LeO.refl _)
   | (with_reducible exact LeO.none _)
   | (with_reducible refine LeO.ite ?_ ?_)
   | (with_reducible refine LeO.bind ?_ (fun _ => ?_))
   | exact ih0 _ _ _ _ _
   | exact ih1 _ _ _ _
   | exact LeO.none _
   | refine LeO.ite ?_ ?_
   | refine LeO.bind ?_ (fun _ => ?_)
  ·
   intro y0 y1 y2 y3
   unfold slices_Concat_byte_byte.l1
   repeat' first
   | (with_reducible exact ih0 _ _ _ _ _)
   | (with_reducible exact ih1 _ _ _ _)
   | (with_reducible exact LeO.refl _)
   | (with_reducible exact LeO.none _)
   | (with_reducible refine LeO.ite ?_ ?_)
   | (with_reducible refine LeO.bind ?_ (fun _ => ?_))
   | exact ih0 _ _ _ _ _
   | exact ih1 _ _ _ _
   | exact LeO.none _
   | refine LeO.ite ?_ ?_
   | refine LeO.bind ?_ (fun _ => ?_)
theorem slices_Concat_byte_byte.mono : ∀ a0 k, LeO (slices_Concat_byte_byte.f k a0) (slices_Concat_byte_byte.f (k + 1) a0) := by
 intro a0 k
 obtain ⟨ih0, ih1⟩ := slices_Concat_byte_byte.mono_l k
 unfold slices_Concat_byte_byte.f
 repeat' first
   | (with_reducible exact ih0 _ _ _ _ _)
   | (with_reducible exact ih1 _ _ _ _)
   | (with_reducible exact LeO.refl _)
   | (with_reducible exact LeO.none _)
   | (with_reducible refine LeO.ite ?_ ?_)
   | (with_reducible refine LeO.bind ?_ (fun _ => ?_))
   | exact ih0 _ _ _ _ _
   | exact ih1 _ _ _ _
   | exact LeO.none _
   | refine LeO.ite ?_ ?_
   | refine LeO.bind ?_ (fun _ => ?_)
set_option maxHeartbeats 8000000 in
set_option maxRecDepth 100000 in
theorem slices_Concat_byte_byte.calls (k : Nat) (A0 : Option Addr) (c0 : Nat) (l0 : List (List Int)) (r : List Int) (w : World) (hr0 : Kd.C (Kd.slice 5 (Kd.int .u8)) w A0 l0.length l0) (hc0 : l0.length ≤ c0) (h : slices_Concat_byte_byte.f k l0 = some r) :
  Calls Try.prog 57 #[.slice A0 l0.length c0] w fun e w' => ∃ v0_ : Value, e = .returned (v0_) ∧ Kd.R (Kd.int .u8) 5 w' w.heap.size (fun _ => True) v0_ r ∧ Below w.heap.size w w' := by
 have HR0 := Aside0.mk hr0
 have HC0 := Aside0.mk hc0
 clear hr0 hc0
 have HB := Aside0.mk (Below.refl w.heap.size w)
 have H : (slices_Concat_byte_byte.l0 k l0 0 l0 (l0.length : Int) 0) = some r := h
 clear h
 have H' := Aside0.mk H
 clear H
 go_enter Try.func57, Try.ntmps57
 go_wp2
 go_loopg [3, 11] k (fun kq v3 v11 w' => ∃ (x3_1 : Int) (x11_1 : Int), v3 = .int .i64 x3_1 ∧ v11 = .int .i64 x11_1 ∧ Aside0 (slices_Concat_byte_byte.l0 kq l0 x3_1 l0 (l0.length : Int) x11_1 = some r) ∧ Aside0 (kq ≤ k) ∧ Aside0 (Below w.heap.size w w'))
 case atStart => exact ⟨(0), (0), eq_b, eq_b, H', ⟨Nat.le_refl _⟩, ⟨below_a⟩⟩
 case round =>
  clear H'; obtain ⟨x3_1, x11_1, rfl, rfl, HA, HK1, HB⟩ := hrel
  cases gk with
  | zero => exact absurd HA.out (by simp [slices_Concat_byte_byte.l0])
  | succ k1 =>
   have H := HA.out; clear HA; simp only [slices_Concat_byte_byte.l0] at H
   by_cases c2 : x11_1 < (l0.length : Int)
   ·
    rw [if_pos c2] at H; have c2b0 : decide (x11_1 < (l0.length : Int)) = true := decide_eq_true c2; clear c2
    by_cases c3 : 0 ≤ x11_1
    ·
     rw [if_pos c3] at H; have c3b0 : decide (0 ≤ x11_1) = true := decide_eq_true c3; clear c3
     by_cases c4 : x11_1 < (l0.length : Int)
     ·
      rw [if_pos c4] at H; have c4b0 : decide (x11_1 < (l0.length : Int)) = true := decide_eq_true c4; clear c4
      by_cases c5 : (wrap64 (x3_1 + ((rd_L2 l0 x11_1).length : Int))) < 0
      ·
       rw [if_pos c5] at H; exact absurd H (by simp)
      ·
       rw [if_neg c5] at H; have c5b0 : decide ((wrap64 (x3_1 + ((rd_L2 l0 x11_1).length : Int))) < 0) = false := decide_eq_false c5; (try (have c5b1 : decide ((IntKind.i64.wrap (x3_1 + ((rd_L2 l0 x11_1).length : Int))) < 0) = false := by simp only [i64_w]; exact decide_eq_false c5)); clear c5; have H' := Aside0.mk H; clear H; have p208 : 0 ≤ (x11_1 : Int) := of_decide_eq_true (by first | (with_reducible assumption) | assumption); have q208 : x11_1 < (l0.length : Int) := of_decide_eq_true (by first | (with_reducible assumption) | assumption); obtain ⟨ad208, A208_0, c208_0, e208, hx208_0, hl208_0, hi208_0⟩ := at_L2 HR0.out x11_1 p208 q208
       cases e208
       replace hx208_0 := (HB.out.cell (World.block_lt_of_cell? w _ hx208_0)).trans hx208_0; have HR208_0 := Aside0.mk hi208_0; have HC208_0 := Aside0.mk hl208_0; clear hi208_0 hl208_0; replace p208 := eq_true p208; replace q208 := eq_true q208
       go_wp2
       go_roundg k1
       case measure => have := HK1.out; omega
       case rel => exact ⟨(wrap64 (x3_1 + ((rd_L2 l0 x11_1).length : Int))), (wrap64 (x11_1 + 1)), eq_b, eq_b, H', ⟨by have := HK1.out; omega⟩, ⟨below_a⟩⟩
     ·
      rw [if_neg c4] at H; exact absurd H (by simp)
    ·
     rw [if_neg c3] at H; exact absurd H (by simp)
   ·
    rw [if_neg c2] at H; have c2b0 : decide (x11_1 < (l0.length : Int)) = false := decide_eq_false c2; clear c2; replace H := Option.bind_eq_some_iff.mp H; obtain ⟨t209, A60, H⟩ := H; replace H : (slices_Concat_byte_byte.l1 k1 t209 l0 (l0.length : Int) 0) = some r := H; have A6 := Aside0.mk A60; clear A60; have H' := Aside0.mk H; clear H
    go_wp2_with (first | ((with_reducible refine gate_callee (f := 66) rfl ?_); refine goesL_ (some 24) rfl rfl Try.func66 (by kernel_rfl) rfl #[.slice none 0 0, .int .i64 x3_1] rfl args_a ?_; (refine (slices_Grow_byte_byte.calls _ _ ([] : List Int) x3_1 t209 _ ?side1 ?side2 ?side3 ?side4 A6.out).mono ?_); (case side1 => exact Kd.C_nil _ _); (case side2 => exact Nat.le_refl _); (case side3 => exact rfl); (case side4 => exact rfl); rintro e w7 ⟨v210, rfl, ho0, hb⟩; refine ⟨_, rfl, ?_⟩; have HO211 := Aside0.mk (Kd.R_lower ho0 (below_size below_a)); replace HB := Aside0.mk (below_step below_a hb); (try clear hb); (try clear hb2); (try clear hk); (try clear hi); (try clear ho0)))
    go_loopg [6, 27] k1 (fun kq v6 v27 w' => ∃ (x6_2 : List Int) (x27_2 : Int), v27 = .int .i64 x27_2 ∧ Aside0 (slices_Concat_byte_byte.l1 kq x6_2 l0 (l0.length : Int) x27_2 = some r) ∧ Aside0 (kq ≤ k1) ∧ Aside0 (Kd.R (Kd.int .u8) 5 w' w.heap.size (fun _ => True) v6 x6_2) ∧ Aside0 (Below w.heap.size w w'))
    case atStart => exact ⟨(t209), (0), eq_b, H', ⟨Nat.le_refl _⟩, ⟨R_a HO211.out⟩, ⟨below_a⟩⟩
    case round =>
     clear H'
     try clear c2 c2b0
     try clear p2
     try clear q2
     try clear hx2
     try clear c3 c3b0
     try clear c4 c4b0
     try clear c5 c5b0 c5b1
     try clear c6
     try clear p6
     try clear hx208_0
     try clear p208
     try clear q208
     obtain ⟨x6_2, x27_2, rfl, HA, HK2, HO_6, HB⟩ := hrel
     cases gk with
     | zero => exact absurd HA.out (by simp [slices_Concat_byte_byte.l1])
     | succ k2 =>
      have H := HA.out; clear HA; simp only [slices_Concat_byte_byte.l1] at H
      by_cases c8 : x27_2 < (l0.length : Int)
      ·
       rw [if_pos c8] at H; have c8b0 : decide (x27_2 < (l0.length : Int)) = true := decide_eq_true c8; clear c8
       by_cases c9 : 0 ≤ x27_2
       ·
        rw [if_pos c9] at H; have c9b0 : decide (0 ≤ x27_2) = true := decide_eq_true c9; clear c9
        by_cases c10 : x27_2 < (l0.length : Int)
        ·
         rw [if_pos c10] at H; have c10b0 : decide (x27_2 < (l0.length : Int)) = true := decide_eq_true c10; clear c10
         by_cases c11 : x6_2.length + (rd_L2 l0 x27_2).length < 140737488355328
         ·
          rw [if_pos c11] at H; have LMc11 := Aside0.mk c11; clear c11; obtain ⟨y213, hy213⟩ : ∃ y_ : List Int, y_ = (x6_2 ++ (rd_L2 l0 x27_2)) := ⟨_, rfl⟩; replace H : (slices_Concat_byte_byte.l1 k2 y213 l0 (l0.length : Int) (wrap64 (x27_2 + 1))) = some r := by first | (rw [hy213]; with_reducible exact H) | (have H2_ := (Option.bind_some _ _).symm.trans H; rw [hy213]; with_reducible exact H2_) | (have H2_ := (Option.bind_some _ _).symm.trans H; with_reducible exact H2_) | with_reducible exact H | (rw [hy213]; exact H) | exact H
          have Ny213 := Aside0.mk hy213; clear hy213; have H' := Aside0.mk H; clear H; have p212 : 0 ≤ (x27_2 : Int) := of_decide_eq_true (by first | (with_reducible assumption) | assumption); have q212 : x27_2 < (l0.length : Int) := of_decide_eq_true (by first | (with_reducible assumption) | assumption); obtain ⟨ad212, A212_0, c212_0, e212, hx212_0, hl212_0, hi212_0⟩ := at_L2 HR0.out x27_2 p212 q212
          cases e212
          replace hx212_0 := (HB.out.cell (World.block_lt_of_cell? w _ hx212_0)).trans hx212_0; have HR212_0 := Aside0.mk hi212_0; have HC212_0 := Aside0.mk hl212_0; clear hi212_0 hl212_0; replace p212 := eq_true p212; replace q212 := eq_true q212
          go_wp2_with (first | ((with_reducible refine gate_builtin (b := .append) (xs := #[.tmp 31, .tmp 32]) rfl ?_); at_builtin; refine Kd.R_append_rows (Kd.int .u8) (w0 := w) w.heap.size rfl (.tmp 31) (.tmp 32) 24 5 (.int .u8 0) 1 rfl Try.underlying24 info5 rfl (by decide) (by omega) u6 x6_2 (rd_L2 l0 x27_2) _ _ _ (fun _ => True) (fun _ => False) rfl rfl ?aO ?aR (fun _ _ h => h) (fun _ h => h.elim) ?aF ?aB ?aS ?aL ?_; (case aR => repeat (first | exact (Kd.C_below HR212_0.out HB.out) | (with_reducible refine Kd.C_alloc ?_ _) | (with_reducible refine Kd.C_drewN ?_ _) | (with_reducible refine Kd.C_drew ?_))); (case aB => exact below_a); (case aF => exact (fun _ _ => trivial)); (case aO => exact (R_a HO_6.out)); (case aS => exact (below_size below_a)); (case aL => have := LMc11.out; omega); intro v214 w12 ho hb hg hat; rw [← Ny213.out] at ho; replace HB := Aside0.mk (hb); have HO215 := Aside0.mk (ho); clear HO_6; clear ho hb hg hat))
          go_roundg k2
          case measure => have := HK1.out; have := HK2.out; omega
          case rel => exact ⟨(y213), (wrap64 (x27_2 + 1)), eq_b, H', ⟨by have := HK1.out; have := HK2.out; omega⟩, ⟨R_a HO215.out⟩, ⟨below_a⟩⟩
         ·
          rw [if_neg c11] at H; exact absurd H (by simp)
        ·
         rw [if_neg c10] at H; exact absurd H (by simp)
       ·
        rw [if_neg c9] at H; exact absurd H (by simp)
      ·
       rw [if_neg c8] at H; have c8b0 : decide (x27_2 < (l0.length : Int)) = false := decide_eq_false c8; clear c8; obtain rfl := Option.some.inj H
       go_wp2
       go_ret
       exact ⟨_, eq_a, R_a HO_6.out, below_a⟩

/-! ### impl_word: function 67 -/
def impl_word.l0 : Nat → Int → List Int → Int → Option (List Int)
 | 0, _, _, _ => none
 | k + 1, x0, x5, x6 => if x6 ≥ 0 then (if 0 ≤ x6 then (if x6 < (x5.length : Int) then (impl_word.l0 k (wrap64 (Int.tdiv x0 256)) (x5.set (x6 : Int).toNat ((Int.tmod x0 256) % 256)) (wrap64 (x6 - 1))) else (none)) else (none)) else (some x5)
def impl_word.f (k : Nat) (a0 : Int) (a1 : Int) : Option (List Int) := if 0 ≤ a1 then (if (a1 : Int).toNat ≤ 281474976710656 then (impl_word.l0 k a0 (List.replicate (a1 : Int).toNat 0) (wrap64 (a1 - 1))) else (none)) else (none)
theorem impl_word.mono_l : ∀ k, (∀ y0 y1 y2, LeO (impl_word.l0 k y0 y1 y2) (impl_word.l0 (k + 1) y0 y1 y2))
 | 0 => fun _ _ _ r h => by simp [impl_word.l0] at h
 | k + 1 => by
  have ih0 := impl_word.mono_l k
  ·
   intro y0 y1 y2
   unfold impl_word.l0
   repeat' first
   | (with_reducible exact ih0 _ _ _)
   | (with_reducible exact LeO.refl _)
   | (with_reducible exact LeO.none _)
   | (with_reducible refine LeO.ite ?_ ?_)
   | (with_reducible refine LeO.bind ?_ (fun _ => ?_))
   | exact ih0 _ _ _
   | exact LeO.none _
   | refine LeO.ite ?_ ?_
   | refine LeO.bind ?_ (fun _ => ?_)
theorem impl_word.mono : ∀ a0 a1 k, LeO (impl_word.f k a0 a1) (impl_word.f (k + 1) a0 a1) := by
 intro a0 a1 k
 have ih0 := impl_word.mono_l k
 unfold impl_word.f
 repeat' first
   | (with_reducible exact ih0 _ _ _)
   | (with_reducible exact LeO.refl _)
   | (with_reducible exact LeO.none _)
   | (with_reducible refine LeO.ite ?_ ?_)
   | (with_reducible refine LeO.bind ?_ (fun _ => ?_))
   | exact ih0 _ _ _
   | exact LeO.none _
   | refine LeO.ite ?_ ?_
   | refine LeO.bind ?_ (fun _ => ?_)
set_option maxHeartbeats 8000000 in
set_option maxRecDepth 100000 in
theorem impl_word.calls (k : Nat) (a0 : Int) (a1 : Int) (r : List Int) (w : World) (h : impl_word.f k a0 a1 = some r) :
  Calls Try.prog 67 #[.int .i64 a0, .int .i64 a1] w fun e w' => ∃ v0_ : Value, e = .returned (v0_) ∧ Kd.R (Kd.int .u8) 5 w' w.heap.size (fun _ => True) v0_ r ∧ Below w.heap.size w w' := by
 have HB := Aside0.mk (Below.refl w.heap.size w)
 have H : (if 0 ≤ a1 then (if (a1 : Int).toNat ≤ 281474976710656 then (impl_word.l0 k a0 (List.replicate (a1 : Int).toNat 0) (wrap64 (a1 - 1))) else (none)) else (none)) = some r := h
 clear h
 by_cases c3 : 0 ≤ a1
 ·
  rw [if_pos c3] at H; have c3b0 := eq_true c3; have c3b1 : decide (0 ≤ a1) = true := decide_eq_true c3; clear c3
  by_cases c4 : (a1 : Int).toNat ≤ 281474976710656
  ·
   rw [if_pos c4] at H; have c4b0 := eq_true c4; have c4b1 : decide ((a1 : Int).toNat ≤ 281474976710656) = true := decide_eq_true c4; clear c4; obtain ⟨y216, hy216⟩ : ∃ y_ : List Int, y_ = (List.replicate (a1 : Int).toNat 0) := ⟨_, rfl⟩; replace H : (impl_word.l0 k a0 y216 (wrap64 (a1 - 1))) = some r := by first | (rw [hy216]; with_reducible exact H) | (have H2_ := (Option.bind_some _ _).symm.trans H; rw [hy216]; with_reducible exact H2_) | (have H2_ := (Option.bind_some _ _).symm.trans H; with_reducible exact H2_) | with_reducible exact H | (rw [hy216]; exact H) | exact H
   have Ny216 := Aside0.mk hy216; clear hy216; have H' := Aside0.mk H; clear H
   go_enter Try.func67, Try.ntmps67
   go_wp2_with (first | ((with_reducible refine gate_dst (N := 8) rfl ?_); refine Kd.R_make (Kd.int .u8) _ 5 rfl (N := 8) rfl 24 _ _ rfl a1 rfl rfl Try.underlying24 (.int .u8 0) 1 info5 rfl (by decide) (by omega) 0 (ok := fun _ => True) (okp := fun _ => True) rfl (fun _ hk => hk) trivial (of_decide_eq_true (by first | (with_reducible assumption) | assumption)) (Nat.le_trans (Nat.mul_le_mul_right _ (of_decide_eq_true (by first | (with_reducible assumption) | assumption) : a1.toNat ≤ 281474976710656)) (by omega)) (Below.refl _ _) (Nat.le_refl _) ?_; intro v217 w5 ho6 hb hg_ hnew_; clear hg_ hnew_; (first | rw [← Ny216.out] at ho6 | (simp only [Int.reduceToNat] at ho6; rw [← Ny216.out] at ho6)); have HO218 := Aside0.mk (Kd.R_lower ho6 (below_size below_a)); replace HB := Aside0.mk (below_step below_a hb); clear hb ho6))
   go_loopg [0, 6] k (fun kq v0 v6 w' => ∃ (x0_1 : Int) (x5_1 : List Int) (x6_1 : Int), v0 = .int .i64 x0_1 ∧ v6 = .int .i64 x6_1 ∧ Aside0 (impl_word.l0 kq x0_1 x5_1 x6_1 = some r) ∧ Aside0 (kq ≤ k) ∧ Aside0 (Kd.R (Kd.int .u8) 5 w' w.heap.size (fun _ => True) v217 x5_1) ∧ Aside0 (Below w.heap.size w w'))
   case atStart => exact ⟨(a0), (y216), (wrap64 (a1 - 1)), eq_b, eq_b, H', ⟨Nat.le_refl _⟩, ⟨R_a HO218.out⟩, ⟨below_a⟩⟩
   case round =>
    clear H'
    try clear p2
    try clear c3 c3b0 c3b1
    try clear c4 c4b0 c4b1
    try clear c6
    try clear p6
    obtain ⟨x0_1, x5_1, x6_1, rfl, rfl, HA, HK1, HO_5, HB⟩ := hrel
    cases gk with
    | zero => exact absurd HA.out (by simp [impl_word.l0])
    | succ k1 =>
     have H := HA.out; clear HA; simp only [impl_word.l0] at H
     by_cases c7 : x6_1 ≥ 0
     ·
      rw [if_pos c7] at H; have c7b0 : decide (0 ≤ x6_1) = true := decide_eq_true c7; clear c7
      by_cases c8 : 0 ≤ x6_1
      ·
       rw [if_pos c8] at H; have c8b0 : decide (0 ≤ x6_1) = true := decide_eq_true c8; clear c8
       by_cases c9 : x6_1 < (x5_1.length : Int)
       ·
        rw [if_pos c9] at H; have c9b0 : decide (x6_1 < (x5_1.length : Int)) = true := decide_eq_true c9; clear c9; obtain ⟨y219, hy219⟩ : ∃ y_ : List Int, y_ = (x5_1.set (x6_1 : Int).toNat ((Int.tmod x0_1 256) % 256)) := ⟨_, rfl⟩; replace H : (impl_word.l0 k1 (wrap64 (Int.tdiv x0_1 256)) y219 (wrap64 (x6_1 - 1))) = some r := by first | (rw [hy219]; with_reducible exact H) | (have H2_ := (Option.bind_some _ _).symm.trans H; rw [hy219]; with_reducible exact H2_) | (have H2_ := (Option.bind_some _ _).symm.trans H; with_reducible exact H2_) | with_reducible exact H | (rw [hy219]; exact H) | exact H
        have Ny219 := Aside0.mk hy219; clear hy219; have H' := Aside0.mk H; clear H; have p10 : 0 ≤ (x6_1 : Int) := of_decide_eq_true (by first | (with_reducible assumption) | assumption); have q10 : (x6_1 : Int) < ((x5_1.length : Int) : Int) := of_decide_eq_true (by first | (with_reducible assumption) | assumption); obtain ⟨go10, co10, eo10, gb10, gl10, cl10, HG10⟩ := Kd.R_form HO_5.out (by omega); (first | cases eo10 | (injection eo10 with ea_ en_ ec_; (first | subst ea_ | (injection ea_ with ea_; subst ea_)); subst ec_; clear en_)); have GB10 := Aside0.mk gb10; have GG10 := Aside0.mk HG10; clear gb10 gl10 HG10; obtain ⟨hx10_0, hf10_0⟩ := Kd.R_celln 0 HO_5.out (x6_1 : Int) p10 q10; replace p10 := eq_true p10; replace q10 := eq_true q10; have HP11 := Kd.R_putg HO_5.out (x6_1 : Int) ((Int.tmod x0_1 256) % 256)
        go_wp2_with (first | ((with_reducible refine gate_store (t := 5) (p := 20) rfl ?_); refine store_event (t := 5) (p := 20) (v := ?vo_w12) (w1 := (wr.setCell ⟨go10, (x6_1 : Int).toNat, none⟩ (.int .u8 ((Int.tmod x0_1 256) % 256)))) ?hg ?ho ?hn ?hr ?_; (case ho => rfl); (case hg => rfl); (case hn => rfl); (case hr => first | (go_simp; done) | (go_simp; rfl)); intro w12 hw; have hg : wr.grownBy w12 (some go10) := (by rw [hw]; exact HP11.2); have hp_ : Kd.R (Kd.int .u8) 5 w12 w.heap.size (fun _ => True) (.slice (some ⟨go10, 0, none⟩) x5_1.length co10) y219 := (by rw [hw, Ny219.out]; exact HP11.1); clear HP11; replace HO_5 := Aside0.mk (hp_); replace HB := Aside0.mk ((by rw [hw]; exact below_set (HB.out) GB10.out : Below w.heap.size w w12)); clear hg hw hp_))
        go_roundg k1
        case measure => have := HK1.out; omega
        case rel => exact ⟨(wrap64 (Int.tdiv x0_1 256)), (y219), (wrap64 (x6_1 - 1)), eq_b, eq_b, H', ⟨by have := HK1.out; omega⟩, ⟨R_a HO_5.out⟩, ⟨below_a⟩⟩
       ·
        rw [if_neg c9] at H; exact absurd H (by simp)
      ·
       rw [if_neg c8] at H; exact absurd H (by simp)
     ·
      rw [if_neg c7] at H; have c7b0 : decide (0 ≤ x6_1) = false := decide_eq_false c7; clear c7; obtain rfl := Option.some.inj H
      go_wp2
      go_ret
      exact ⟨_, eq_a, R_a HO_5.out, below_a⟩
  ·
   rw [if_neg c4] at H; exact absurd H (by simp)
 ·
  rw [if_neg c3] at H; exact absurd H (by simp)

/-! ### impl_shorts: function 58 -/
def impl_shorts.l0 : Nat → List Int → List Int → Int → Int → Option (List Int)
 | 0, _, _, _, _ => none
 | k + 1, x3, x6, x7, x8 => if x8 < x7 then (if 0 ≤ x8 then (if x8 < (x6.length : Int) then ((impl_word.f k (rd x6 x8) 2).bind fun t221 => (if x3.length + t221.length < 140737488355328 then (impl_shorts.l0 k (x3 ++ t221) x6 x7 (wrap64 (x8 + 1))) else (none))) else (none)) else (none)) else (some x3)
def impl_shorts.f (k : Nat) (l0 : List Int) : Option (List Int) := impl_shorts.l0 k ([] : List Int) l0 (l0.length : Int) 0
theorem impl_shorts.mono_l : ∀ k, (∀ y0 y1 y2 y3, LeO (impl_shorts.l0 k y0 y1 y2 y3) (impl_shorts.l0 (k + 1) y0 y1 y2 y3))
 | 0 => fun _ _ _ _ r h => by simp [impl_shorts.l0] at h
 | k + 1 => by
  have ih0 := impl_shorts.mono_l k
  ·
   intro y0 y1 y2 y3
   unfold impl_shorts.l0
   repeat' first
   | (with_reducible exact ih0 _ _ _ _)
   | (with_reducible exact impl_word.mono _ _ _)
   | (with_reducible exact LeO.refl _)
   | (with_reducible exact LeO.none _)
   | (with_reducible refine LeO.ite ?_ ?_)
   | (with_reducible refine LeO.bind ?_ (fun _ => ?_))
   | exact ih0 _ _ _ _
   | exact impl_word.mono _ _ _
   | exact LeO.none _
   | refine LeO.ite ?_ ?_
   | refine LeO.bind ?_ (fun _ => ?_)
theorem impl_shorts.mono : ∀ a0 k, LeO (impl_shorts.f k a0) (impl_shorts.f (k + 1) a0) := by
 intro a0 k
 have ih0 := impl_shorts.mono_l k
 unfold impl_shorts.f
 repeat' first
   | (with_reducible exact ih0 _ _ _ _)
   | (with_reducible exact impl_word.mono _ _ _)
   | (with_reducible exact LeO.refl _)
   | (with_reducible exact LeO.none _)
   | (with_reducible refine LeO.ite ?_ ?_)
   | (with_reducible refine LeO.bind ?_ (fun _ => ?_))
   | exact ih0 _ _ _ _
   | exact impl_word.mono _ _ _
   | exact LeO.none _
   | refine LeO.ite ?_ ?_
   | refine LeO.bind ?_ (fun _ => ?_)
set_option maxHeartbeats 8000000 in
set_option maxRecDepth 100000 in
theorem impl_shorts.calls (k : Nat) (A0 : Option Addr) (c0 : Nat) (l0 : List Int) (r : List Int) (w : World) (hr0 : Kd.C (Kd.int .i64) w A0 l0.length l0) (hc0 : l0.length ≤ c0) (h : impl_shorts.f k l0 = some r) :
  Calls Try.prog 58 #[.slice A0 l0.length c0] w fun e w' => ∃ v0_ : Value, e = .returned (v0_) ∧ Kd.R (Kd.int .u8) 5 w' w.heap.size (fun _ => True) v0_ r ∧ Below w.heap.size w w' := by
 have HR0 := Aside0.mk hr0
 have HC0 := Aside0.mk hc0
 clear hr0 hc0
 have HB := Aside0.mk (Below.refl w.heap.size w)
 have H : (impl_shorts.l0 k ([] : List Int) l0 (l0.length : Int) 0) = some r := h
 clear h
 have H' := Aside0.mk H
 clear H
 go_enter Try.func58, Try.ntmps58
 go_wp2
 go_loopg [3, 8] k (fun kq v3 v8 w' => ∃ (x3_1 : List Int) (x8_1 : Int), v8 = .int .i64 x8_1 ∧ Aside0 (impl_shorts.l0 kq x3_1 l0 (l0.length : Int) x8_1 = some r) ∧ Aside0 (kq ≤ k) ∧ Aside0 (Kd.R (Kd.int .u8) 5 w' w.heap.size (fun _ => True) v3 x3_1) ∧ Aside0 (Below w.heap.size w w'))
 case atStart => exact ⟨(([] : List Int)), (0), eq_b, H', ⟨Nat.le_refl _⟩, ⟨by first | exact Kd.R_nil _ _ _ _ _ | exact Kd.N_nil _ _ _ _ _ | exact Kd.V_nil _ _ _ _ _ | exact Kd.Q_nil _ _ _ _ _ | exact Kd.S_nil _ _ _ _ _⟩, ⟨below_a⟩⟩
 case round =>
  clear H'; obtain ⟨x3_1, x8_1, rfl, HA, HK1, HO_3, HB⟩ := hrel
  cases gk with
  | zero => exact absurd HA.out (by simp [impl_shorts.l0])
  | succ k1 =>
   have H := HA.out; clear HA; simp only [impl_shorts.l0] at H
   by_cases c2 : x8_1 < (l0.length : Int)
   ·
    rw [if_pos c2] at H; have c2b0 : decide (x8_1 < (l0.length : Int)) = true := decide_eq_true c2; clear c2
    by_cases c3 : 0 ≤ x8_1
    ·
     rw [if_pos c3] at H; have c3b0 : decide (0 ≤ x8_1) = true := decide_eq_true c3; clear c3
     by_cases c4 : x8_1 < (l0.length : Int)
     ·
      rw [if_pos c4] at H; have c4b0 : decide (x8_1 < (l0.length : Int)) = true := decide_eq_true c4; clear c4; replace H := Option.bind_eq_some_iff.mp H; obtain ⟨t221, A50, H⟩ := H; replace H : (if x3_1.length + t221.length < 140737488355328 then (impl_shorts.l0 k1 (x3_1 ++ t221) l0 (l0.length : Int) (wrap64 (x8_1 + 1))) else (none)) = some r := H; have A5 := Aside0.mk A50; clear A50
      by_cases c6 : x3_1.length + t221.length < 140737488355328
      ·
       rw [if_pos c6] at H; have LMc6 := Aside0.mk c6; clear c6; obtain ⟨y224, hy224⟩ : ∃ y_ : List Int, y_ = (x3_1 ++ t221) := ⟨_, rfl⟩; replace H : (impl_shorts.l0 k1 y224 l0 (l0.length : Int) (wrap64 (x8_1 + 1))) = some r := by first | (rw [hy224]; with_reducible exact H) | (have H2_ := (Option.bind_some _ _).symm.trans H; rw [hy224]; with_reducible exact H2_) | (have H2_ := (Option.bind_some _ _).symm.trans H; with_reducible exact H2_) | with_reducible exact H | (rw [hy224]; exact H) | exact H
       have Ny224 := Aside0.mk hy224; clear hy224; have H' := Aside0.mk H; clear H; have p220 : 0 ≤ (x8_1 : Int) := of_decide_eq_true (by first | (with_reducible assumption) | assumption); have q220 : x8_1 < (l0.length : Int) := of_decide_eq_true (by first | (with_reducible assumption) | assumption); obtain ⟨ad220, e220, hx220_0⟩ := Kd.at_int HR0.out x8_1 p220 q220
       cases e220
       replace hx220_0 := (HB.out.cell (World.block_lt_of_cell? w _ hx220_0)).trans hx220_0; replace p220 := eq_true p220; replace q220 := eq_true q220
       go_wp2_with (first | ((with_reducible refine gate_callee (f := 67) rfl ?_); refine goesL_ (some 14) rfl rfl Try.func67 (by kernel_rfl) rfl #[.int .i64 (rd l0 x8_1), .int .i64 2] rfl args_a ?_; (with_reducible refine (impl_word.calls k1 (rd l0 x8_1) 2 t221 _ A5.out).mono ?_); rintro e w7 ⟨v222, rfl, ho0, hb⟩; refine ⟨_, rfl, ?_⟩; have n0_ := Aside0.mk (Kd.R_elder' (R_a HO_3.out) (Kd.R_base ho0) hb); have HO223 := Aside0.mk (Kd.R_lower (Kd.R_new' ho0 (Kd.R_lt (R_a HO_3.out))) (below_size below_a)); replace HB := Aside0.mk (below_step below_a hb); replace HO_3 := n0_; clear n0_; (try clear hb); (try clear hb2); (try clear hk); (try clear hi); (try clear ho0); obtain ⟨Ao9, co9, eo9⟩ := Kd.R_slice HO223.out; subst eo9) | ((with_reducible refine gate_builtin (b := .append) (xs := #[.tmp 12, .tmp 14]) rfl ?_); at_builtin; refine Kd.R_append_rows (Kd.int .u8) (w0 := w) w.heap.size rfl (.tmp 12) (.tmp 14) 24 5 (.int .u8 0) 1 rfl Try.underlying24 info5 rfl (by decide) (by omega) u3 x3_1 t221 _ _ _ (fun k_ => some k_ ≠ (.slice Ao9 t221.length co9 : Value).ownBlock) (fun _ => False) rfl rfl ?aO ?aR (fun _ _ h => h) (fun _ h => h.elim) ?aF ?aB ?aS ?aL ?_; (case aR => repeat (first | exact (Kd.R_reads' HO223.out).2.2 | (with_reducible refine Kd.C_alloc ?_ _) | (with_reducible refine Kd.C_drewN ?_ _) | (with_reducible refine Kd.C_drew ?_))); (case aB => exact below_a); (case aF => exact (fun k_ hk => Kd.fresh' (Kd.R_lt (R_a HO223.out)) k_ hk)); (case aO => exact (by (with_reducible repeat (first | apply Kd.R_alloc | apply Kd.R_drewN | apply Kd.R_drew)); exact Kd.R_mono HO_3.out (fun _ hk => hk.2))); (case aS => exact (below_size below_a)); (case aL => have := LMc6.out; omega); intro v225 w8 ho hb hg hat; rw [← Ny224.out] at ho; replace HO223 := Aside0.mk (Kd.R_after (ok := (fun _ => True)) (R_a HO223.out) hg hat); replace HB := Aside0.mk (hb); have HO226 := Aside0.mk (ho); clear HO_3; clear ho hb hg hat))
       go_roundg k1
       case measure => have := HK1.out; omega
       case rel => exact ⟨(y224), (wrap64 (x8_1 + 1)), eq_b, H', ⟨by have := HK1.out; omega⟩, ⟨by (with_reducible repeat (first | apply Kd.R_alloc | apply Kd.R_drewN | apply Kd.R_drew)); exact Kd.R_mono HO226.out (fun _ hk => trivial)⟩, ⟨below_a⟩⟩
      ·
       rw [if_neg c6] at H; exact absurd H (by simp)
     ·
      rw [if_neg c4] at H; exact absurd H (by simp)
    ·
     rw [if_neg c3] at H; exact absurd H (by simp)
   ·
    rw [if_neg c2] at H; have c2b0 : decide (x8_1 < (l0.length : Int)) = false := decide_eq_false c2; clear c2; obtain rfl := Option.some.inj H
    go_wp2
    go_ret
    exact ⟨_, eq_a, R_a HO_3.out, below_a⟩

/-! ### impl_PackQuery: function 31 -/
def impl_PackQuery.j0 : Nat → Bool → Int → List ByteArray → Int → Option (Int × List Int)
 | 0, _, _, _, _ => none
 | k + 1, x13, x228000, x228001, x228002 => if x13 = true then ((impl_noBytes.f 3).bind fun bt231 => (some (bt231.1, bt231.2))) else ((impl_EncodeName.f k x228001).bind fun bt235 => (if bt235.1 = 0 then ((impl_shorts.f k (([x228000] : List Int))).bind fun t243 => ((impl_shorts.f k (([1, 0, 0, 0] : List Int))).bind fun t252 => ((impl_shorts.f k (([x228002, 1] : List Int))).bind fun t258 => ((slices_Concat_byte_byte.f k (([t243, (([1, 0] : List Int)), t252, bt235.2, t258] : List (List Int)))).bind fun t264 => (some (0, t264)))))) else (some (bt235.1, bt235.2))))
def impl_PackQuery.f (k : Nat) (a0_0 : Int) (l0_1 : List ByteArray) (a0_2 : Int) : Option (Int × List Int) := (impl_in.f a0_0 0 65535).bind fun t229 => (if t229 = true then ((impl_in.f a0_2 0 65535).bind fun t230 => (impl_PackQuery.j0 k (!t230) a0_0 l0_1 a0_2)) else (impl_PackQuery.j0 k true a0_0 l0_1 a0_2))
theorem impl_PackQuery.mono_l : ∀ k, (∀ y0 y1 y2 y3, LeO (impl_PackQuery.j0 k y0 y1 y2 y3) (impl_PackQuery.j0 (k + 1) y0 y1 y2 y3))
 | 0 => fun _ _ _ _ r h => by simp [impl_PackQuery.j0] at h
 | k + 1 => by
  have ih0 := impl_PackQuery.mono_l k
  ·
   intro y0 y1 y2 y3
   unfold impl_PackQuery.j0
   repeat' first
   | (with_reducible exact ih0 _ _ _ _)
   | (with_reducible exact impl_EncodeName.mono _ _)
   | (with_reducible exact impl_shorts.mono _ _)
   | (with_reducible exact slices_Concat_byte_byte.mono _ _)
   | (with_reducible exact LeO.refl _)
   | (with_reducible exact LeO.none _)
   | (with_reducible refine LeO.ite ?_ ?_)
   | (with_reducible refine LeO.bind ?_ (fun _ => ?_))
   | exact ih0 _ _ _ _
   | exact impl_EncodeName.mono _ _
   | exact impl_shorts.mono _ _
   | exact slices_Concat_byte_byte.mono _ _
   | exact LeO.none _
   | refine LeO.ite ?_ ?_
   | refine LeO.bind ?_ (fun _ => ?_)
theorem impl_PackQuery.mono : ∀ a0 a1 a2 k, LeO (impl_PackQuery.f k a0 a1 a2) (impl_PackQuery.f (k + 1) a0 a1 a2) := by
 intro a0 a1 a2 k
 have ih0 := impl_PackQuery.mono_l k
 unfold impl_PackQuery.f
 repeat' first
   | (with_reducible exact ih0 _ _ _ _)
   | (with_reducible exact impl_EncodeName.mono _ _)
   | (with_reducible exact impl_shorts.mono _ _)
   | (with_reducible exact slices_Concat_byte_byte.mono _ _)
   | (with_reducible exact LeO.refl _)
   | (with_reducible exact LeO.none _)
   | (with_reducible refine LeO.ite ?_ ?_)
   | (with_reducible refine LeO.bind ?_ (fun _ => ?_))
   | exact ih0 _ _ _ _
   | exact impl_EncodeName.mono _ _
   | exact impl_shorts.mono _ _
   | exact slices_Concat_byte_byte.mono _ _
   | exact LeO.none _
   | refine LeO.ite ?_ ?_
   | refine LeO.bind ?_ (fun _ => ?_)
def impl_PackQuery.T6 : Bool × List (List Nat × List Nat) := (true, [([], []), ([0], [0]), ([1], [1]), ([2], [2]), ([], []), ([], []), ([5, 3], [5]), ([], []), ([7], [7]), ([], []), ([9], [9]), ([10], [10]), ([11, 6], [11]), ([3, 4, 6, 8, 12], [3, 4, 6, 8, 12]), ([13, 12], [13]), ([14], [14]), ([15, 14, 0, 1, 2, 3, 4, 5, 6, 7, 8, 9, 10, 11, 12, 13, 14, 15], [15])])
def impl_PackQuery.B6 : List Nat := [0, 1, 3, 7, 0, 0, 47, 0, 128, 0, 512, 1536, 3695, 8191, 16383, 32767, 65535]
theorem impl_PackQuery.tab6 : rtab .any (opsOf Try.f31 6) = impl_PackQuery.T6 := by kernel_rfl
theorem impl_PackQuery.bits6 : waitsOk impl_PackQuery.T6.2 impl_PackQuery.B6 = true := by kernel_rfl
set_option maxHeartbeats 8000000 in
set_option maxRecDepth 100000 in
theorem impl_PackQuery.calls (k : Nat) (a0_0 : Int) (A0_1 : Option Addr) (c0_1 : Nat) (l0_1 : List ByteArray) (a0_2 : Int) (r1 : Int) (r2 : List Int) (w : World) (hr0_1 : Kd.C Kd.string w A0_1 l0_1.length l0_1) (hc0_1 : l0_1.length ≤ c0_1) (h : impl_PackQuery.f k a0_0 l0_1 a0_2 = some (r1, r2)) :
  Calls Try.prog 31 #[.agg #[.int .i64 a0_0, .slice A0_1 l0_1.length c0_1, .int .i64 a0_2]] w fun e w' => ∃ v1_ : Value, e = .returned (.agg #[.int .i64 r1, v1_]) ∧ Kd.R (Kd.int .u8) 5 w' w.heap.size (fun _ => True) v1_ r2 ∧ Below w.heap.size w w' := by
 have hu52 := Try.underlying52
 have hu26 := Try.underlying26
 have HR0_1 := Aside0.mk hr0_1
 have HC0_1 := Aside0.mk hc0_1
 clear hr0_1 hc0_1
 have HB := Aside0.mk (Below.refl w.heap.size w)
 have H : ((impl_in.f a0_0 0 65535).bind fun t229 => (if t229 = true then ((impl_in.f a0_2 0 65535).bind fun t230 => (impl_PackQuery.j0 k (!t230) a0_0 l0_1 a0_2)) else (impl_PackQuery.j0 k true a0_0 l0_1 a0_2))) = some (r1, r2) := h
 clear h
 have HC2 := Aside0.mk H
 clear H
 go_enter Try.func31, Try.ntmps31
 go_upto_region 1 with (first | ((with_reducible refine gate_dst (N := 1) rfl ?_); refine box_event ?hg (N := 1) ?hd (cs := #[.int .i64 a0_0, .slice A0_1 l0_1.length c0_1, .int .i64 a0_2]) (t := 52) ?hr ?_; (case hd => rfl); (case hg => rfl); (case hr => first | (go_simp; done) | (go_simp; rfl)); intro gb227 hg w3 hbox hb; have n0_ := Aside0.mk (below_step below_a hb); have BK227 := Aside0.mk (hbox); have GW227 := Aside0.mk (bsz_ (w := w) hg); have GE227 := Aside0.mk (bsz_ (w := w) hg); replace HB := n0_; clear n0_; clear hb hbox hg) | ((with_reducible refine gate_dst (N := 2) rfl ?_); refine box_event ?hg (N := 2) ?hd (cs := #[.int .i64 0, .slice none 0 0]) (t := 26) ?hr ?_; (case hd => rfl); (case hg => rfl); (case hr => first | (go_simp; done) | (go_simp; rfl)); intro gb228 hg w4 hbox hb; have n0_ := Aside0.mk (blk_below (g := gb227) blk_c hb); have n1_ := Aside0.mk (below_step below_a hb); have BK228 := Aside0.mk (hbox); have GW228 := Aside0.mk (bsz_ (w := w) hg); have GE228 := Aside0.mk (bsz_ (w := w) hg); have NB227_228 := Aside0.mk (bne_ (g := gb227) hg); have NB228_227 := Aside0.mk (bne_ (g := gb227) hg).symm; replace BK227 := n0_; replace HB := n1_; clear n0_ n1_; clear hb hbox hg))
 (try simp only [Act.put, List.setIfInBounds_toArray, List.set_cons_zero, List.set_cons_succ])
 go_cut [13] (fun v13 wc => ∃ (kq : Nat) (x13_1 : Bool), v13 = .bool x13_1 ∧ Aside0 (impl_PackQuery.j0 kq x13_1 a0_0 l0_1 a0_2 = some (r1, r2)) ∧ Aside0 (kq ≤ k) ∧ Aside0 (wc.heap[gb227]? = some (.cells #[.int .i64 a0_0, (.slice A0_1 l0_1.length c0_1), .int .i64 a0_2] 52 (0, 0))) ∧ Aside0 (wc.heap[gb228]? = some (.cells #[.int .i64 0, (.slice none 0 0)] 26 (0, 0))) ∧ Aside0 (Below w.heap.size w wc))
 case first =>
  have H := HC2.out; clear HC2; replace H := Option.bind_eq_some_iff.mp H; obtain ⟨t229, A50, H⟩ := H; replace H : (if t229 = true then ((impl_in.f a0_2 0 65535).bind fun t230 => (impl_PackQuery.j0 k (!t230) a0_0 l0_1 a0_2)) else (impl_PackQuery.j0 k true a0_0 l0_1 a0_2)) = some (r1, r2) := H; have A5 := Aside0.mk A50; clear A50
  by_cases c6 : t229 = true
  ·
   subst c6; have H1 : ((impl_in.f a0_2 0 65535).bind fun t230 => (impl_PackQuery.j0 k (!t230) a0_0 l0_1 a0_2)) = some (r1, r2) := by rw [if_pos rfl] at H; exact H
   clear H; have H := H1; clear H1; replace H := Option.bind_eq_some_iff.mp H; obtain ⟨t230, A70, H⟩ := H; replace H : (impl_PackQuery.j0 k (!t230) a0_0 l0_1 a0_2) = some (r1, r2) := H; have A7 := Aside0.mk A70; clear A70; have H' := Aside0.mk H; clear H; have hnb8 := NB227_228.out; have hnc8 := NB228_227.out; obtain ⟨hcz9_0, hcz9_1, hcz9_2, hfz9_0, hfz9_1, hfz9_2⟩ := bc3_ BK227.out
   go_wp2_with (first | ((with_reducible refine gate_callee (f := 47) rfl ?_); refine goesL_ (some 6) rfl rfl Try.func47 (by kernel_rfl) rfl #[.int .i64 a0_0, .int .i64 0, .int .i64 65535] rfl args_a ?_; (with_reducible refine (impl_in.calls a0_0 0 65535 true _ A5.out).mono ?_); rintro e w' ⟨rfl, ⟨nd, rfl⟩⟩; refine ⟨_, rfl, ?_⟩) | (go_at_call 47; (with_reducible refine (impl_in.calls a0_2 0 65535 t230 _ A7.out).mono ?_); rintro e w' ⟨rfl, ⟨nd, rfl⟩⟩))
   go_meet
   case rel => exact ⟨_, (!t230), eq_b, H', ⟨by first | omega | exact Nat.le_refl _⟩, ⟨blk_a⟩, ⟨blk_a⟩, ⟨below_a⟩⟩
  ·
   replace c6 := Bool.eq_false_iff.mpr c6; subst c6; have H1 : (impl_PackQuery.j0 k true a0_0 l0_1 a0_2) = some (r1, r2) := by rw [if_neg (show ¬ (false = true) by decide)] at H; exact H
   clear H; have H := H1; clear H1; have H' := Aside0.mk H; clear H; have hnb10 := NB227_228.out; have hnc10 := NB228_227.out; obtain ⟨hcz11_0, hcz11_1, hcz11_2, hfz11_0, hfz11_1, hfz11_2⟩ := bc3_ BK227.out
   go_wp2_with (first | ((with_reducible refine gate_callee (f := 47) rfl ?_); refine goesL_ (some 6) rfl rfl Try.func47 (by kernel_rfl) rfl #[.int .i64 a0_0, .int .i64 0, .int .i64 65535] rfl args_a ?_; (with_reducible refine (impl_in.calls a0_0 0 65535 false _ A5.out).mono ?_); rintro e w' ⟨rfl, ⟨nd, rfl⟩⟩; refine ⟨_, rfl, ?_⟩))
   go_meet
   case rel => exact ⟨_, (true), eq_b, H', ⟨by first | omega | exact Nat.le_refl _⟩, ⟨blk_a⟩, ⟨blk_a⟩, ⟨below_a⟩⟩
 case rest =>
  clear HC2
  try clear c1
  try clear p2
  try clear c3
  try clear c4
  try clear c6
  try clear c8
  try clear c10
  try clear hcz11_0 hcz11_1 hcz11_2
  try clear hcz9_0 hcz9_1 hcz9_2
  try clear hfz11_0 hfz11_1 hfz11_2
  try clear hfz9_0 hfz9_1 hfz9_2
  obtain ⟨kq, x13_1, rfl, HA, HJ1, BK227, BK228, HB⟩ := hcut
  cases kq with
  | zero => exact absurd HA.out (by simp [impl_PackQuery.j0])
  | succ kj1 =>
   have H := HA.out; clear HA; simp only [impl_PackQuery.j0] at H
   by_cases c12 : x13_1 = true
   ·
    subst c12; have H1 : ((impl_noBytes.f 3).bind fun bt231 => (some (bt231.1, bt231.2))) = some (r1, r2) := by rw [if_pos rfl] at H; exact H
    clear H; have H := H1; clear H1; replace H := Option.bind_eq_some_iff.mp H; obtain ⟨⟨t231, t232⟩, A130, H⟩ := H; replace H : (some (t231, t232)) = some (r1, r2) := H; have A13 := Aside0.mk A130; clear A130; simp only [Option.some.injEq, Prod.mk.injEq] at H; obtain ⟨rfl, rfl⟩ := H
    go_wp2_with (first | ((with_reducible refine gate_callee (f := 41) rfl ?_); refine goesL_ (some 14) rfl rfl Try.func41 (by kernel_rfl) rfl #[.int .i64 3] rfl args_a ?_; (with_reducible refine (impl_noBytes.calls 3 t231 t232 _ A13.out).mono ?_); rintro e w14 ⟨v233, rfl, ho0, hb⟩; refine ⟨_, rfl, ?_⟩; have HO234 := Aside0.mk (Kd.R_lower ho0 (below_size below_a)); replace BK227 := Aside0.mk (blk_below (g := gb227) blk_c hb); replace BK228 := Aside0.mk (blk_below (g := gb228) blk_c hb); replace HB := Aside0.mk (below_step below_a hb); (try clear hb); (try clear hb2); (try clear hk); (try clear hi); (try clear ho0); have hnb15 := NB228_227.out; have hnc15 := NB227_228.out; obtain ⟨hcz16_0, hcz16_1, hfz16_0, hfz16_1⟩ := bc2_ BK228.out; obtain ⟨Ao17, co17, eo17⟩ := Kd.R_slice HO234.out; subst eo17))
    refine bodyPost_ret (results_cell_row rfl _ _ gb228 26 #[.int .i64 t231, .slice Ao17 t232.length co17] (0, 0) _ rfl blk_a Try.underlying26 rfl (by kernel_rfl)) rfl ?_; exact ⟨_, eq_a, by (with_reducible repeat (first | apply Kd.R_alloc | apply Kd.R_drewN | apply Kd.R_drew)); exact Kd.R_mono (Kd.R_far (p := ⟨gb228, 1, none⟩) (Kd.R_far (p := ⟨gb228, 0, none⟩) (Kd.R_types HO234.out BK228.out (by decide)) (fun _ hk => hk.2) (.int .i64 t231)) (fun _ hk => hk.2) (.slice Ao17 t232.length co17)) (fun _ hk => trivial), below_a⟩
   ·
    replace c12 := Bool.eq_false_iff.mpr c12; subst c12; have H1 : ((impl_EncodeName.f kj1 l0_1).bind fun bt235 => (if bt235.1 = 0 then ((impl_shorts.f kj1 (([a0_0] : List Int))).bind fun t243 => ((impl_shorts.f kj1 (([1, 0, 0, 0] : List Int))).bind fun t252 => ((impl_shorts.f kj1 (([a0_2, 1] : List Int))).bind fun t258 => ((slices_Concat_byte_byte.f kj1 (([t243, (([1, 0] : List Int)), t252, bt235.2, t258] : List (List Int)))).bind fun t264 => (some (0, t264)))))) else (some (bt235.1, bt235.2)))) = some (r1, r2) := by rw [if_neg (show ¬ (false = true) by decide)] at H; exact H
    clear H; have H := H1; clear H1; replace H := Option.bind_eq_some_iff.mp H; obtain ⟨⟨t235, t236⟩, A180, H⟩ := H; replace H : (if t235 = 0 then ((impl_shorts.f kj1 (([a0_0] : List Int))).bind fun t243 => ((impl_shorts.f kj1 (([1, 0, 0, 0] : List Int))).bind fun t252 => ((impl_shorts.f kj1 (([a0_2, 1] : List Int))).bind fun t258 => ((slices_Concat_byte_byte.f kj1 (([t243, (([1, 0] : List Int)), t252, t236, t258] : List (List Int)))).bind fun t264 => (some (0, t264)))))) else (some (t235, t236))) = some (r1, r2) := H; have A18 := Aside0.mk A180; clear A180
    by_cases c19 : t235 = 0
    ·
     rw [if_pos c19] at H; have c19b0 : (t235 == 0) = true := beq_iff_eq.mpr c19; have c19b1 : (t235 != 0) = false := bne_eq_false_iff_eq.mpr c19; clear c19; obtain ⟨y240, hy240⟩ : ∃ y_ : List Int, y_ = (([a0_0] : List Int)) := ⟨_, rfl⟩; replace H : ((impl_shorts.f kj1 y240).bind fun t243 => ((impl_shorts.f kj1 (([1, 0, 0, 0] : List Int))).bind fun t252 => ((impl_shorts.f kj1 (([a0_2, 1] : List Int))).bind fun t258 => ((slices_Concat_byte_byte.f kj1 (([t243, (([1, 0] : List Int)), t252, t236, t258] : List (List Int)))).bind fun t264 => (some (0, t264)))))) = some (r1, r2) := by first | (rw [hy240]; with_reducible exact H) | (have H2_ := (Option.bind_some _ _).symm.trans H; rw [hy240]; with_reducible exact H2_) | (have H2_ := (Option.bind_some _ _).symm.trans H; with_reducible exact H2_) | with_reducible exact H | (rw [hy240]; exact H) | exact H
     have Ny240 := Aside0.mk hy240; clear hy240; replace H := Option.bind_eq_some_iff.mp H; obtain ⟨t243, A200, H⟩ := H; replace H : ((impl_shorts.f kj1 (([1, 0, 0, 0] : List Int))).bind fun t252 => ((impl_shorts.f kj1 (([a0_2, 1] : List Int))).bind fun t258 => ((slices_Concat_byte_byte.f kj1 (([t243, (([1, 0] : List Int)), t252, t236, t258] : List (List Int)))).bind fun t264 => (some (0, t264))))) = some (r1, r2) := H; have A20 := Aside0.mk A200; clear A200; obtain ⟨y246, hy246⟩ : ∃ y_ : List Int, y_ = (([1, 0] : List Int)) := ⟨_, rfl⟩; replace H : ((impl_shorts.f kj1 (([1, 0, 0, 0] : List Int))).bind fun t252 => ((impl_shorts.f kj1 (([a0_2, 1] : List Int))).bind fun t258 => ((slices_Concat_byte_byte.f kj1 (([t243, y246, t252, t236, t258] : List (List Int)))).bind fun t264 => (some (0, t264))))) = some (r1, r2) := by first | (rw [hy246]; with_reducible exact H) | (have H2_ := (Option.bind_some _ _).symm.trans H; rw [hy246]; with_reducible exact H2_) | (have H2_ := (Option.bind_some _ _).symm.trans H; with_reducible exact H2_) | with_reducible exact H | (rw [hy246]; exact H) | exact H
     have Ny246 := Aside0.mk hy246; clear hy246; obtain ⟨y249, hy249⟩ : ∃ y_ : List Int, y_ = (([1, 0, 0, 0] : List Int)) := ⟨_, rfl⟩; replace H : ((impl_shorts.f kj1 y249).bind fun t252 => ((impl_shorts.f kj1 (([a0_2, 1] : List Int))).bind fun t258 => ((slices_Concat_byte_byte.f kj1 (([t243, y246, t252, t236, t258] : List (List Int)))).bind fun t264 => (some (0, t264))))) = some (r1, r2) := by first | (rw [hy249]; with_reducible exact H) | (have H2_ := (Option.bind_some _ _).symm.trans H; rw [hy249]; with_reducible exact H2_) | (have H2_ := (Option.bind_some _ _).symm.trans H; with_reducible exact H2_) | with_reducible exact H | (rw [hy249]; exact H) | exact H
     have Ny249 := Aside0.mk hy249; clear hy249; replace H := Option.bind_eq_some_iff.mp H; obtain ⟨t252, A210, H⟩ := H; replace H : ((impl_shorts.f kj1 (([a0_2, 1] : List Int))).bind fun t258 => ((slices_Concat_byte_byte.f kj1 (([t243, y246, t252, t236, t258] : List (List Int)))).bind fun t264 => (some (0, t264)))) = some (r1, r2) := H; have A21 := Aside0.mk A210; clear A210; obtain ⟨y255, hy255⟩ : ∃ y_ : List Int, y_ = (([a0_2, 1] : List Int)) := ⟨_, rfl⟩; replace H : ((impl_shorts.f kj1 y255).bind fun t258 => ((slices_Concat_byte_byte.f kj1 (([t243, y246, t252, t236, t258] : List (List Int)))).bind fun t264 => (some (0, t264)))) = some (r1, r2) := by first | (rw [hy255]; with_reducible exact H) | (have H2_ := (Option.bind_some _ _).symm.trans H; rw [hy255]; with_reducible exact H2_) | (have H2_ := (Option.bind_some _ _).symm.trans H; with_reducible exact H2_) | with_reducible exact H | (rw [hy255]; exact H) | exact H
     have Ny255 := Aside0.mk hy255; clear hy255; replace H := Option.bind_eq_some_iff.mp H; obtain ⟨t258, A220, H⟩ := H; replace H : ((slices_Concat_byte_byte.f kj1 (([t243, y246, t252, t236, t258] : List (List Int)))).bind fun t264 => (some (0, t264))) = some (r1, r2) := H; have A22 := Aside0.mk A220; clear A220; obtain ⟨y261, hy261⟩ : ∃ y_ : List (List Int), y_ = (([t243, y246, t252, t236, t258] : List (List Int))) := ⟨_, rfl⟩; replace H : ((slices_Concat_byte_byte.f kj1 y261).bind fun t264 => (some (0, t264))) = some (r1, r2) := by first | (rw [hy261]; with_reducible exact H) | (have H2_ := (Option.bind_some _ _).symm.trans H; rw [hy261]; with_reducible exact H2_) | (have H2_ := (Option.bind_some _ _).symm.trans H; with_reducible exact H2_) | with_reducible exact H | (rw [hy261]; exact H) | exact H
     have Ny261 := Aside0.mk hy261; clear hy261; replace H := Option.bind_eq_some_iff.mp H; obtain ⟨t264, A230, H⟩ := H; replace H : (some (0, t264)) = some (r1, r2) := H; have A23 := Aside0.mk A230; clear A230; simp only [Option.some.injEq, Prod.mk.injEq] at H; obtain ⟨rfl, rfl⟩ := H; have hnb24 := NB227_228.out; have hnc24 := NB228_227.out; obtain ⟨hcz25_0, hcz25_1, hcz25_2, hfz25_0, hfz25_1, hfz25_2⟩ := bc3_ BK227.out
     try go_wp2_with (first | ((with_reducible refine gate_callee (f := 11) rfl ?_); refine goesL_ (some 17) rfl rfl Try.func11 (by kernel_rfl) rfl #[.slice A0_1 l0_1.length c0_1] rfl args_a ?_; (with_reducible refine (impl_EncodeName.calls kj1 _ _ l0_1 t235 t236 _ ?side1 ?side2 A18.out).mono ?_); (case side1 => repeat (first | exact (Kd.C_below HR0_1.out HB.out) | (with_reducible refine Kd.C_alloc ?_ _) | (with_reducible refine Kd.C_drewN ?_ _) | (with_reducible refine Kd.C_drew ?_))); (case side2 => exact HC0_1.out); rintro e w26 ⟨v237, rfl, ho0, hb⟩; refine ⟨_, rfl, ?_⟩; have HO238 := Aside0.mk (Kd.R_lower ho0 (below_size below_a)); replace BK227 := Aside0.mk (blk_below (g := gb227) blk_c hb); replace BK228 := Aside0.mk (blk_below (g := gb228) blk_c hb); replace HB := Aside0.mk (below_step below_a hb); (try clear hb); (try clear hb2); (try clear hk); (try clear hi); (try clear ho0)) | ((with_reducible refine gate_dst (N := 3) rfl ?_); refine box_event ?hg (N := 3) ?hd (cs := #[.int .i64 0, .slice none 0 0]) (t := 26) ?hr ?_; (case hd => rfl); (case hg => rfl); (case hr => first | (go_simp; done) | (go_simp; rfl)); intro gb239 hg w27 hbox hb; replace HO238 := Aside0.mk (Kd.R_below (R_a HO238.out) hb); have n1_ := Aside0.mk (blk_below (g := gb227) blk_c hb); have n2_ := Aside0.mk (blk_below (g := gb228) blk_c hb); have n3_ := Aside0.mk (below_step below_a hb); have BK239 := Aside0.mk (hbox); have GW239 := Aside0.mk (bsz_ (w := w) hg); have GE239 := Aside0.mk (bsz_ (w := w) hg); have NB227_239 := Aside0.mk (bne_ (g := gb227) hg); have NB239_227 := Aside0.mk (bne_ (g := gb227) hg).symm; have NB228_239 := Aside0.mk (bne_ (g := gb228) hg); have NB239_228 := Aside0.mk (bne_ (g := gb228) hg).symm; replace BK227 := n1_; replace BK228 := n2_; replace HB := n3_; clear n1_ n2_ n3_; clear hb hbox hg; have hnb28 := NB239_227.out; have hnc28 := NB227_239.out; have hnb29 := NB239_228.out; have hnc29 := NB228_239.out; obtain ⟨hcz30_0, hcz30_1, hfz30_0, hfz30_1⟩ := bc2_ BK239.out; obtain ⟨Ao31, co31, eo31⟩ := Kd.R_slice HO238.out; subst eo31))
     generalize hW_ : ((w27.setCell ⟨gb239, 0, none⟩ (.int .i64 t235)).setCell ⟨gb239, 1, none⟩ (.slice Ao31 t236.length co31)) = w32 at ⊢; have n0_ : Aside0 (Kd.R (Kd.int .u8) 5 w32 w.heap.size (fun _ => True) (.slice Ao31 t236.length co31) t236) := hW_ ▸ ⟨by (with_reducible repeat (first | apply Kd.R_alloc | apply Kd.R_drewN | apply Kd.R_drew)); exact Kd.R_mono (Kd.R_far (p := ⟨gb239, 1, none⟩) (Kd.R_far (p := ⟨gb239, 0, none⟩) (Kd.R_types HO238.out BK239.out (by decide)) (fun _ hk => hk.2) (.int .i64 t235)) (fun _ hk => hk.2) (.slice Ao31 t236.length co31)) (fun _ hk => trivial)⟩; have n1_ : Aside0 (w32.heap[gb227]? = some (.cells #[.int .i64 a0_0, .slice A0_1 l0_1.length c0_1, .int .i64 a0_2] 52 (0, 0))) := hW_ ▸ ⟨blk_a⟩; have n2_ : Aside0 (w32.heap[gb228]? = some (.cells #[.int .i64 0, .slice none 0 0] 26 (0, 0))) := hW_ ▸ ⟨blk_a⟩; have n3_ : Aside0 (w32.heap[gb239]? = some (.cells #[.int .i64 t235, .slice Ao31 t236.length co31] 26 (0, 0))) := hW_ ▸ ⟨blk_a⟩; have n4_ : Aside0 (Below w.heap.size w w32) := hW_ ▸ ⟨below_a⟩; (try clear HO238); (try clear BK227); (try clear BK228); (try clear BK239); (try clear HB); clear hW_; have HO238 := n0_; have BK227 := n1_; have BK228 := n2_; have BK239 := n3_; have HB := n4_; clear n0_ n1_ n2_ n3_ n4_; replace HO238 := Aside0.mk (Kd.R_drew HO238.out); replace BK227 := Aside0.mk (blk_drew BK227.out); replace BK228 := Aside0.mk (blk_drew BK228.out); replace BK239 := Aside0.mk (blk_drew BK239.out); replace HB := Aside0.mk (below_drew1 HB.out); refine start_ (n := 17) (S := fun w' => True) (ds := []) #[Z',Z',Z',Z',Z',Z',Z',Z',Z',Z',Z',Z',Z',Z',Z',Z',Z'] (by kernel_rfl) rfl rfl trivial (fun hHeld => ?_); refine with_tabW impl_PackQuery.tab6 impl_PackQuery.bits6 (fun HT_ HW_ => ?_); generalize w32.drew = w33 at HO238 BK227 BK228 BK239 HB hHeld ⊢; refine pure_ (i := 0) (N := some 22) (v := ?_) (a' := ?_) #[Y',Z',Z',Z',Z',Z',Z',Z',Z',Z',Z',Z',Z',Z',Z',Z',Z'] rfl rfl (any_of HT_.out (by kernel_rfl)) (fun _ _ _ h => h) (Or.inl ⟨by rfl, ?_⟩) ?_ ?_; rotate_left
     ·
      intro w'
      go_simp
      with_reducible rfl
     rotate_left
     ·
      simp only [Act.put, List.setIfInBounds_toArray, List.set_cons_zero, List.set_cons_succ, i64_w, i32_w]; rfl
     refine pure_ (i := 7) (N := some 29) (v := ?_) (a' := ?_) #[Y',Z',Z',Z',Z',Z',Z',Y',Z',Z',Z',Z',Z',Z',Z',Z',Z'] rfl rfl (any_of HT_.out (by kernel_rfl)) (fun _ _ _ h => h) (Or.inl ⟨by rfl, ?_⟩) ?_ ?_; rotate_left
     ·
      intro w'
      go_simp
      with_reducible rfl
     rotate_left
     ·
      simp only [Act.put, List.setIfInBounds_toArray, List.set_cons_zero, List.set_cons_succ, i64_w, i32_w]; rfl
     refine pure_ (i := 9) (N := some 31) (v := ?_) (a' := ?_) #[Y',Z',Z',Z',Z',Z',Z',Y',Z',Y',Z',Z',Z',Z',Z',Z',Z'] rfl rfl (any_of HT_.out (by kernel_rfl)) (fun _ _ _ h => h) (Or.inl ⟨by rfl, ?_⟩) ?_ ?_; rotate_left
     ·
      intro w'
      go_simp
      with_reducible rfl
     rotate_left
     ·
      simp only [Act.put, List.setIfInBounds_toArray, List.set_cons_zero, List.set_cons_succ, i64_w, i32_w]; rfl
     refine inv_at [1, 2, 3, 4, 5, 6, 8, 10, 11, 12, 13, 14, 15, 16] (fun a0_ b a w' => ∃ (v241 : Value) (v244 : Value) (v247 : Value) (v250 : Value) (v253 : Value) (v256 : Value) (v259 : Value) (v262 : Value) (v265 : Value) (m15_ : Value), a = putSel a0_ b [(1, 23, .int .i64 a0_0), (2, 24, v241), (3, 25, v244), (4, 26, v247), (5, 27, v250), (6, 28, v253), (8, 30, .slice Ao31 t236.length co31), (10, 32, .int .i64 a0_2), (11, 33, v256), (12, 34, v259), (13, 35, v262), (14, 36, v265), (15, 37, m15_)] ∧ (b 13 = false → Kd.R (Kd.int .u8) 5 w' w.heap.size (fun _ => True) (.slice Ao31 t236.length co31) t236) ∧ (w'.heap[gb227]? = some (.cells #[.int .i64 a0_0, .slice A0_1 l0_1.length c0_1, .int .i64 a0_2] 52 (0, 0))) ∧ (b 16 = false → w'.heap[gb228]? = some (.cells #[.int .i64 0, .slice none 0 0] 26 (0, 0))) ∧ (w'.heap[gb239]? = some (.cells #[.int .i64 t235, .slice Ao31 t236.length co31] 26 (0, 0))) ∧ (Below w.heap.size w w') ∧ (b 2 = true → Kd.R (Kd.int .i64) 2 w' w.heap.size (fun _ => True) v241 y240) ∧ (b 3 = true → b 13 = false → Kd.R (Kd.int .u8) 5 w' w.heap.size (fun k_ => some k_ ≠ (.slice Ao31 t236.length co31 : Value).ownBlock) v244 t243) ∧ (b 4 = true → b 13 = false → Kd.R (Kd.int .u8) 5 w' w.heap.size (fun k_ => some k_ ≠ (.slice Ao31 t236.length co31 : Value).ownBlock) v247 y246) ∧ (b 5 = true → Kd.R (Kd.int .i64) 2 w' w.heap.size (fun _ => True) v250 y249) ∧ (b 6 = true → b 13 = false → Kd.R (Kd.int .u8) 5 w' w.heap.size (fun k_ => some k_ ≠ (.slice Ao31 t236.length co31 : Value).ownBlock) v253 t252) ∧ (b 11 = true → Kd.R (Kd.int .i64) 2 w' w.heap.size (fun _ => True) v256 y255) ∧ (b 12 = true → b 13 = false → Kd.R (Kd.int .u8) 5 w' w.heap.size (fun k_ => some k_ ≠ (.slice Ao31 t236.length co31 : Value).ownBlock) v259 t258) ∧ (b 13 = true → Kd.N (Kd.slice 5 (Kd.int .u8)) 24 w' w.heap.size (fun k_ => k_ ≠ gb227 ∧ k_ ≠ gb228 ∧ k_ ≠ gb239) v262 y261) ∧ (b 14 = true → Kd.R (Kd.int .u8) 5 w' w.heap.size (fun _ => True) v265 t264) ∧ (b 16 = true → w'.heap[gb228]? = some (.cells #[.int .i64 0, v265] 26 (0, 0))) ∧ (b 15 = true → (m15_ : Value) = .agg #[.int .i64 0, v265])) HT_.out HW_.out (by kernel_rfl) (by kernel_rfl) ?_ ?_ ?_
     ·
      exact ⟨.bool false, .bool false, .bool false, .bool false, .bool false, .bool false, .bool false, .bool false, .bool false, .bool false, by simp only [putSel, Bool.false_eq_true, if_false], fun _ => HO238.out, BK227.out, fun _ => BK228.out, BK239.out, HB.out, fun h_ => absurd h_ (by decide), fun h_ => absurd h_ (by decide), fun h_ => absurd h_ (by decide), fun h_ => absurd h_ (by decide), fun h_ => absurd h_ (by decide), fun h_ => absurd h_ (by decide), fun h_ => absurd h_ (by decide), fun h_ => absurd h_ (by decide), fun h_ => absurd h_ (by decide), fun h_ => absurd h_ (by decide), fun h_ => absurd h_ (by decide)⟩
     ·
      clear BK227 BK228 BK239 HB HO238; refine steps_cons ?_ ?_
      ·
       rintro b a w' ⟨v241, v244, v247, v250, v253, v256, v259, v262, v265, m15_, ha, Q_HO238, Q_BK227, Q_BK228, Q_BK239, Q_HB, Q_HO242, Q_HO245, Q_HO248, Q_HO251, Q_HO254, Q_HO257, Q_HO260, Q_HO263, Q_HO266, Q_BK228_e16, Q_X15_⟩ hb_ hon hoff; refine ⟨_, rfl, fun K hK => ?_⟩; have e22 : a.tmps[22]? = some (.pointer (some ⟨gb227, 0, none⟩)) := by rw [ha]; exact (putSel_off rfl).trans rfl
       replace ha := Aside0.mk ha; have HO238 := Aside0.mk (Q_HO238 (hoff 13 (by kernel_rfl))); have BK227 := Aside0.mk Q_BK227; have BK228 := Aside0.mk (Q_BK228 (hoff 16 (by kernel_rfl))); have BK239 := Aside0.mk Q_BK239; have HB := Aside0.mk Q_HB; have hc0_ : w'.cell? ⟨gb227, 0, none⟩ = some (.int .i64 a0_0) := (blk_cell BK227.out 0).trans rfl; have hc1_ : w'.cell? ⟨gb227, 1, none⟩ = some (.slice A0_1 l0_1.length c0_1) := (blk_cell BK227.out 1).trans rfl; have hc2_ : w'.cell? ⟨gb227, 2, none⟩ = some (.int .i64 a0_2) := (blk_cell BK227.out 2).trans rfl; refine value_ (w1 := w') (v := .int .i64 a0_0) (by rfl) rfl ?_ ?_
       ·
        go_simp
        (try simp only [i64_w])
        try rfl
       refine hK.out _ _ ⟨v241, v244, v247, v250, v253, v256, v259, v262, v265, m15_, (by rw [ha.out]; exact putSel_upk 0 hb_ rfl rfl rfl), Q_HO238, Q_BK227, Q_BK228, Q_BK239, Q_HB, fun h0_ => absurd ((hoff 2 (by kernel_rfl)).symm.trans h0_) (by decide), fun h0_ _ => absurd ((hoff 3 (by kernel_rfl)).symm.trans h0_) (by decide), Q_HO248, Q_HO251, fun h0_ _ => absurd ((hoff 6 (by kernel_rfl)).symm.trans h0_) (by decide), Q_HO257, fun h0_ _ => absurd ((hoff 12 (by kernel_rfl)).symm.trans h0_) (by decide), fun h0_ => absurd ((hoff 13 (by kernel_rfl)).symm.trans h0_) (by decide), fun h0_ => absurd ((hoff 14 (by kernel_rfl)).symm.trans h0_) (by decide), fun h0_ => absurd ((hoff 16 (by kernel_rfl)).symm.trans h0_) (by decide), fun h0_ => absurd ((hoff 15 (by kernel_rfl)).symm.trans h0_) (by decide)⟩
      refine steps_cons ?_ ?_
      ·
       rintro b a w' ⟨v241, v244, v247, v250, v253, v256, v259, v262, v265, m15_, ha, Q_HO238, Q_BK227, Q_BK228, Q_BK239, Q_HB, Q_HO242, Q_HO245, Q_HO248, Q_HO251, Q_HO254, Q_HO257, Q_HO260, Q_HO263, Q_HO266, Q_BK228_e16, Q_X15_⟩ hb_ hon hoff; refine ⟨_, rfl, fun K hK => ?_⟩; have e23 : a.tmps[23]? = some (.int .i64 a0_0) := by rw [ha]; exact putSel_on (e := (1, 23, .int .i64 a0_0)) 0 rfl rfl (hon 1 (by kernel_rfl)) rfl
       replace ha := Aside0.mk ha; have HO238 := Aside0.mk (Q_HO238 (hoff 13 (by kernel_rfl))); have BK227 := Aside0.mk Q_BK227; have BK228 := Aside0.mk (Q_BK228 (hoff 16 (by kernel_rfl))); have BK239 := Aside0.mk Q_BK239; have HB := Aside0.mk Q_HB; refine Kd.R_lit_step (Kd.int .i64) _ 2 ?hg (N := 24) ?hd (xs := ([a0_0] : List Int)) (inner := [.int .i64 a0_0]) (ok := fun _ => True) (okp := fun _ => True) ?hr ?hp (fun _ hk => hk) trivial (Below.refl _ _) (Nat.le_refl _) (by simp) ?_; (case hd => rfl); (case hg => rfl); (case hr => first | (go_simp; done) | (go_simp; rfl)); (case hp => exact (Reps.one (show Kd.M (Kd.int .i64) _ _ _ a0_0 [.int .i64 a0_0] from rfl) (Reps.none _ _))); intro v241 w34 ho35 hb hg_ hnew_; clear hg_ hnew_; (first | rw [← Ny240.out] at ho35 | (simp only [Int.reduceToNat] at ho35; rw [← Ny240.out] at ho35)); have n0_ := Aside0.mk (Kd.R_below (R_a HO238.out) hb); have n1_ := Aside0.mk (Kd.R_lower ho35 (below_size below_a)); have n2_ := Aside0.mk (blk_below (g := gb227) blk_c hb); have n3_ := Aside0.mk (blk_below (g := gb228) blk_c hb); have n4_ := Aside0.mk (blk_below (g := gb239) blk_c hb); have n5_ := Aside0.mk (below_step below_a hb); have z_HO248 := fun (h0_ : b 4 = true) (h1_ : b 13 = false) => (show Kd.R (Kd.int .u8) 5 w34 w.heap.size (fun k_ => some k_ ≠ (.slice Ao31 t236.length co31 : Value).ownBlock) v247 y246 from by first | exact (Kd.R_below (by (with_reducible repeat (first | apply Kd.R_alloc | apply Kd.R_drewN | apply Kd.R_drew)); exact (Q_HO248 h0_ h1_)) hb) | exact Kd.R_mono (Kd.R_below (by (with_reducible repeat (first | apply Kd.R_alloc | apply Kd.R_drewN | apply Kd.R_drew)); exact (Q_HO248 h0_ h1_)) hb) (fun _ h_ => by first | trivial | exact h_ | exact h_.1)); have z_HO251 := fun (h0_ : b 5 = true) => (show Kd.R (Kd.int .i64) 2 w34 w.heap.size (fun _ => True) v250 y249 from by first | exact (Kd.R_elder' (by (with_reducible repeat (first | apply Kd.R_alloc | apply Kd.R_drewN | apply Kd.R_drew)); exact (Q_HO251 h0_)) (Kd.R_base ho35) hb) | exact Kd.R_mono (Kd.R_elder' (by (with_reducible repeat (first | apply Kd.R_alloc | apply Kd.R_drewN | apply Kd.R_drew)); exact (Q_HO251 h0_)) (Kd.R_base ho35) hb) (fun _ h_ => by first | trivial | exact h_ | exact h_.1)); have z_HO257 := fun (h0_ : b 11 = true) => (show Kd.R (Kd.int .i64) 2 w34 w.heap.size (fun _ => True) v256 y255 from by first | exact (Kd.R_elder' (by (with_reducible repeat (first | apply Kd.R_alloc | apply Kd.R_drewN | apply Kd.R_drew)); exact (Q_HO257 h0_)) (Kd.R_base ho35) hb) | exact Kd.R_mono (Kd.R_elder' (by (with_reducible repeat (first | apply Kd.R_alloc | apply Kd.R_drewN | apply Kd.R_drew)); exact (Q_HO257 h0_)) (Kd.R_base ho35) hb) (fun _ h_ => by first | trivial | exact h_ | exact h_.1)); clear HO238 BK227 BK228 BK239 HB; have HO238 := n0_; have HO242 := n1_; have BK227 := n2_; have BK228 := n3_; have BK239 := n4_; have HB := n5_; clear n0_ n1_ n2_ n3_ n4_ n5_ hb ho35; refine hK.out _ _ ⟨v241, v244, v247, v250, v253, v256, v259, v262, v265, m15_, (by rw [ha.out]; exact putSel_upk 1 hb_ rfl rfl rfl), fun _ => (by (with_reducible repeat (first | apply Kd.R_alloc | apply Kd.R_drewN | apply Kd.R_drew)); exact Kd.R_mono HO238.out (fun _ hk => by (try dsimp only at hk); simp only [hk, ne_eq, not_false_eq_true, and_self, and_true, true_and])), blk_a, fun _ => blk_a, blk_a, below_a, fun _ => (by (with_reducible repeat (first | apply Kd.R_alloc | apply Kd.R_drewN | apply Kd.R_drew)); exact Kd.R_mono HO242.out (fun _ hk => by (try dsimp only at hk); simp only [hk, ne_eq, not_false_eq_true, and_self, and_true, true_and])), fun h0_ _ => absurd ((hoff 3 (by kernel_rfl)).symm.trans h0_) (by decide), z_HO248, z_HO251, fun h0_ _ => absurd ((hoff 6 (by kernel_rfl)).symm.trans h0_) (by decide), z_HO257, fun h0_ _ => absurd ((hoff 12 (by kernel_rfl)).symm.trans h0_) (by decide), fun h0_ => absurd ((hoff 13 (by kernel_rfl)).symm.trans h0_) (by decide), fun h0_ => absurd ((hoff 14 (by kernel_rfl)).symm.trans h0_) (by decide), fun h0_ => absurd ((hoff 16 (by kernel_rfl)).symm.trans h0_) (by decide), fun h0_ => absurd ((hoff 15 (by kernel_rfl)).symm.trans h0_) (by decide)⟩
      refine steps_cons ?_ ?_
      ·
       rintro b a w' ⟨v241, v244, v247, v250, v253, v256, v259, v262, v265, m15_, ha, Q_HO238, Q_BK227, Q_BK228, Q_BK239, Q_HB, Q_HO242, Q_HO245, Q_HO248, Q_HO251, Q_HO254, Q_HO257, Q_HO260, Q_HO263, Q_HO266, Q_BK228_e16, Q_X15_⟩ hb_ hon hoff; refine ⟨_, rfl, fun K hK => ?_⟩; have e24 : a.tmps[24]? = some (v241) := by rw [ha]; exact putSel_on (e := (2, 24, v241)) 1 rfl rfl (hon 2 (by kernel_rfl)) rfl
       replace ha := Aside0.mk ha; have HO238 := Aside0.mk (Q_HO238 (hoff 13 (by kernel_rfl))); have BK227 := Aside0.mk Q_BK227; have BK228 := Aside0.mk (Q_BK228 (hoff 16 (by kernel_rfl))); have BK239 := Aside0.mk Q_BK239; have HB := Aside0.mk Q_HB; have HO242 := Aside0.mk (Q_HO242 (hon 2 (by kernel_rfl))); obtain ⟨Ao37, co37, eo37⟩ := Kd.R_slice HO242.out; (first | subst eo37 | (injection eo37 with f1_ f2_ f3_; have f4_ := f1_.symm; have f5_ := f3_.symm; clear f1_ f2_ f3_; subst f4_; subst f5_)); refine goes_ Try.func58 (by kernel_rfl) rfl #[.slice Ao37 y240.length co37] (by rfl) rfl rfl (by first | (simp only [List.map_toArray, List.map_cons, List.map_nil, Act.eval, Array.getD_eq_getD_getElem?, Option.getD_some, e24]; done) | (simp only [List.map_toArray, List.map_cons, List.map_nil, Act.eval, Array.getD_eq_getD_getElem?, Option.getD_some, e24]; rfl)) ?_
       with_reducible refine (impl_shorts.calls kj1 _ _ y240 t243 _ ?side1 ?side2 A20.out).mono ?_
       (case side1 => repeat (first | exact (Kd.R_reads' HO242.out).2.2 | (with_reducible refine Kd.C_alloc ?_ _) | (with_reducible refine Kd.C_drewN ?_ _) | (with_reducible refine Kd.C_drew ?_))); (case side2 => exact (Kd.R_reads' HO242.out).2.1); rintro e w38 ⟨v244, rfl, ho0, hb⟩; refine ⟨_, rfl, ?_⟩; have n0_ := Aside0.mk (Kd.R_elder' (R_a HO238.out) (Kd.R_base ho0) hb); have n1_ := Aside0.mk (Kd.R_below (R_a HO242.out) hb); have n2_ := Aside0.mk (Kd.R_lower (Kd.R_new' ho0 (Kd.R_lt (R_a HO238.out))) (below_size below_a)); have n3_ := Aside0.mk (blk_below (g := gb227) blk_c hb); have n4_ := Aside0.mk (blk_below (g := gb228) blk_c hb); have n5_ := Aside0.mk (blk_below (g := gb239) blk_c hb); have n6_ := Aside0.mk (below_step below_a hb); have z_HO248 := fun (h0_ : b 4 = true) (h1_ : b 13 = false) => (show Kd.R (Kd.int .u8) 5 w38 w.heap.size (fun k_ => some k_ ≠ (.slice Ao31 t236.length co31 : Value).ownBlock) v247 y246 from by first | exact (Kd.R_elder' (by (with_reducible repeat (first | apply Kd.R_alloc | apply Kd.R_drewN | apply Kd.R_drew)); exact (Q_HO248 h0_ h1_)) (Kd.R_base ho0) hb) | exact Kd.R_mono (Kd.R_elder' (by (with_reducible repeat (first | apply Kd.R_alloc | apply Kd.R_drewN | apply Kd.R_drew)); exact (Q_HO248 h0_ h1_)) (Kd.R_base ho0) hb) (fun _ h_ => by first | trivial | exact h_ | exact h_.1)); have z_HO251 := fun (h0_ : b 5 = true) => (show Kd.R (Kd.int .i64) 2 w38 w.heap.size (fun _ => True) v250 y249 from by first | exact (Kd.R_below (by (with_reducible repeat (first | apply Kd.R_alloc | apply Kd.R_drewN | apply Kd.R_drew)); exact (Q_HO251 h0_)) hb) | exact Kd.R_mono (Kd.R_below (by (with_reducible repeat (first | apply Kd.R_alloc | apply Kd.R_drewN | apply Kd.R_drew)); exact (Q_HO251 h0_)) hb) (fun _ h_ => by first | trivial | exact h_ | exact h_.1)); have z_HO257 := fun (h0_ : b 11 = true) => (show Kd.R (Kd.int .i64) 2 w38 w.heap.size (fun _ => True) v256 y255 from by first | exact (Kd.R_below (by (with_reducible repeat (first | apply Kd.R_alloc | apply Kd.R_drewN | apply Kd.R_drew)); exact (Q_HO257 h0_)) hb) | exact Kd.R_mono (Kd.R_below (by (with_reducible repeat (first | apply Kd.R_alloc | apply Kd.R_drewN | apply Kd.R_drew)); exact (Q_HO257 h0_)) hb) (fun _ h_ => by first | trivial | exact h_ | exact h_.1)); clear HO238 HO242 BK227 BK228 BK239 HB; have HO238 := n0_; have HO242 := n1_; have HO245 := n2_; have BK227 := n3_; have BK228 := n4_; have BK239 := n5_; have HB := n6_; clear n0_ n1_ n2_ n3_ n4_ n5_ n6_; (try clear hb); (try clear hb2); (try clear hk); (try clear hi); (try clear ho0); refine hK.out _ _ ⟨.slice Ao37 y240.length co37, v244, v247, v250, v253, v256, v259, v262, v265, m15_, (by rw [ha.out]; exact putSel_upk 2 hb_ rfl rfl rfl), fun _ => (by (with_reducible repeat (first | apply Kd.R_alloc | apply Kd.R_drewN | apply Kd.R_drew)); exact Kd.R_mono HO238.out (fun _ hk => by (try dsimp only at hk); simp only [hk, ne_eq, not_false_eq_true, and_self, and_true, true_and])), blk_a, fun _ => blk_a, blk_a, below_a, fun _ => (by (with_reducible repeat (first | apply Kd.R_alloc | apply Kd.R_drewN | apply Kd.R_drew)); exact Kd.R_mono HO242.out (fun _ hk => by (try dsimp only at hk); simp only [hk, ne_eq, not_false_eq_true, and_self, and_true, true_and])), fun _ _ => (by (with_reducible repeat (first | apply Kd.R_alloc | apply Kd.R_drewN | apply Kd.R_drew)); exact Kd.R_mono HO245.out (fun _ hk => by (try dsimp only at hk); simp only [hk, ne_eq, not_false_eq_true, and_self, and_true, true_and])), z_HO248, z_HO251, fun h0_ _ => absurd ((hoff 6 (by kernel_rfl)).symm.trans h0_) (by decide), z_HO257, fun h0_ _ => absurd ((hoff 12 (by kernel_rfl)).symm.trans h0_) (by decide), fun h0_ => absurd ((hoff 13 (by kernel_rfl)).symm.trans h0_) (by decide), fun h0_ => absurd ((hoff 14 (by kernel_rfl)).symm.trans h0_) (by decide), fun h0_ => absurd ((hoff 16 (by kernel_rfl)).symm.trans h0_) (by decide), fun h0_ => absurd ((hoff 15 (by kernel_rfl)).symm.trans h0_) (by decide)⟩
      refine steps_cons ?_ ?_
      ·
       rintro b a w' ⟨v241, v244, v247, v250, v253, v256, v259, v262, v265, m15_, ha, Q_HO238, Q_BK227, Q_BK228, Q_BK239, Q_HB, Q_HO242, Q_HO245, Q_HO248, Q_HO251, Q_HO254, Q_HO257, Q_HO260, Q_HO263, Q_HO266, Q_BK228_e16, Q_X15_⟩ hb_ hon hoff; refine ⟨_, rfl, fun K hK => ?_⟩; replace ha := Aside0.mk ha; have HO238 := Aside0.mk (Q_HO238 (hoff 13 (by kernel_rfl))); have BK227 := Aside0.mk Q_BK227; have BK228 := Aside0.mk (Q_BK228 (hoff 16 (by kernel_rfl))); have BK239 := Aside0.mk Q_BK239; have HB := Aside0.mk Q_HB; refine Kd.R_lit_step (Kd.int .u8) _ 5 ?hg (N := 26) ?hd (xs := ([1, 0] : List Int)) (inner := [.int .u8 1, .int .u8 0]) (ok := fun _ => True) (okp := fun _ => True) ?hr ?hp (fun _ hk => hk) trivial (Below.refl _ _) (Nat.le_refl _) (by simp) ?_; (case hd => rfl); (case hg => rfl); (case hr => first | (go_simp; done) | (go_simp; rfl)); (case hp => exact (Reps.one (show Kd.M (Kd.int .u8) _ _ _ 1 [.int .u8 1] from rfl) (Reps.one (show Kd.M (Kd.int .u8) _ _ _ 0 [.int .u8 0] from rfl) (Reps.none _ _)))); intro v247 w34 ho35 hb hg_ hnew_; clear hg_ hnew_; (first | rw [← Ny246.out] at ho35 | (simp only [Int.reduceToNat] at ho35; rw [← Ny246.out] at ho35)); have n0_ := Aside0.mk (Kd.R_elder' (R_a HO238.out) (Kd.R_base ho35) hb); have n1_ := Aside0.mk (Kd.R_lower (Kd.R_new' ho35 (Kd.R_lt (R_a HO238.out))) (below_size below_a)); have n2_ := Aside0.mk (blk_below (g := gb227) blk_c hb); have n3_ := Aside0.mk (blk_below (g := gb228) blk_c hb); have n4_ := Aside0.mk (blk_below (g := gb239) blk_c hb); have n5_ := Aside0.mk (below_step below_a hb); have z_HO242 := fun (h0_ : b 2 = true) => (show Kd.R (Kd.int .i64) 2 w34 w.heap.size (fun _ => True) v241 y240 from by first | exact (Kd.R_below (by (with_reducible repeat (first | apply Kd.R_alloc | apply Kd.R_drewN | apply Kd.R_drew)); exact (Q_HO242 h0_)) hb) | exact Kd.R_mono (Kd.R_below (by (with_reducible repeat (first | apply Kd.R_alloc | apply Kd.R_drewN | apply Kd.R_drew)); exact (Q_HO242 h0_)) hb) (fun _ h_ => by first | trivial | exact h_ | exact h_.1)); have z_HO245 := fun (h0_ : b 3 = true) (h1_ : b 13 = false) => (show Kd.R (Kd.int .u8) 5 w34 w.heap.size (fun k_ => some k_ ≠ (.slice Ao31 t236.length co31 : Value).ownBlock) v244 t243 from by first | exact (Kd.R_elder' (by (with_reducible repeat (first | apply Kd.R_alloc | apply Kd.R_drewN | apply Kd.R_drew)); exact (Q_HO245 h0_ h1_)) (Kd.R_base ho35) hb) | exact Kd.R_mono (Kd.R_elder' (by (with_reducible repeat (first | apply Kd.R_alloc | apply Kd.R_drewN | apply Kd.R_drew)); exact (Q_HO245 h0_ h1_)) (Kd.R_base ho35) hb) (fun _ h_ => by first | trivial | exact h_ | exact h_.1)); have z_HO251 := fun (h0_ : b 5 = true) => (show Kd.R (Kd.int .i64) 2 w34 w.heap.size (fun _ => True) v250 y249 from by first | exact (Kd.R_below (by (with_reducible repeat (first | apply Kd.R_alloc | apply Kd.R_drewN | apply Kd.R_drew)); exact (Q_HO251 h0_)) hb) | exact Kd.R_mono (Kd.R_below (by (with_reducible repeat (first | apply Kd.R_alloc | apply Kd.R_drewN | apply Kd.R_drew)); exact (Q_HO251 h0_)) hb) (fun _ h_ => by first | trivial | exact h_ | exact h_.1)); have z_HO254 := fun (h0_ : b 6 = true) (h1_ : b 13 = false) => (show Kd.R (Kd.int .u8) 5 w34 w.heap.size (fun k_ => some k_ ≠ (.slice Ao31 t236.length co31 : Value).ownBlock) v253 t252 from by first | exact (Kd.R_elder' (by (with_reducible repeat (first | apply Kd.R_alloc | apply Kd.R_drewN | apply Kd.R_drew)); exact (Q_HO254 h0_ h1_)) (Kd.R_base ho35) hb) | exact Kd.R_mono (Kd.R_elder' (by (with_reducible repeat (first | apply Kd.R_alloc | apply Kd.R_drewN | apply Kd.R_drew)); exact (Q_HO254 h0_ h1_)) (Kd.R_base ho35) hb) (fun _ h_ => by first | trivial | exact h_ | exact h_.1)); have z_HO257 := fun (h0_ : b 11 = true) => (show Kd.R (Kd.int .i64) 2 w34 w.heap.size (fun _ => True) v256 y255 from by first | exact (Kd.R_below (by (with_reducible repeat (first | apply Kd.R_alloc | apply Kd.R_drewN | apply Kd.R_drew)); exact (Q_HO257 h0_)) hb) | exact Kd.R_mono (Kd.R_below (by (with_reducible repeat (first | apply Kd.R_alloc | apply Kd.R_drewN | apply Kd.R_drew)); exact (Q_HO257 h0_)) hb) (fun _ h_ => by first | trivial | exact h_ | exact h_.1)); have z_HO260 := fun (h0_ : b 12 = true) (h1_ : b 13 = false) => (show Kd.R (Kd.int .u8) 5 w34 w.heap.size (fun k_ => some k_ ≠ (.slice Ao31 t236.length co31 : Value).ownBlock) v259 t258 from by first | exact (Kd.R_elder' (by (with_reducible repeat (first | apply Kd.R_alloc | apply Kd.R_drewN | apply Kd.R_drew)); exact (Q_HO260 h0_ h1_)) (Kd.R_base ho35) hb) | exact Kd.R_mono (Kd.R_elder' (by (with_reducible repeat (first | apply Kd.R_alloc | apply Kd.R_drewN | apply Kd.R_drew)); exact (Q_HO260 h0_ h1_)) (Kd.R_base ho35) hb) (fun _ h_ => by first | trivial | exact h_ | exact h_.1)); clear HO238 BK227 BK228 BK239 HB; have HO238 := n0_; have HO248 := n1_; have BK227 := n2_; have BK228 := n3_; have BK239 := n4_; have HB := n5_; clear n0_ n1_ n2_ n3_ n4_ n5_ hb ho35; refine hK.out _ _ ⟨v241, v244, v247, v250, v253, v256, v259, v262, v265, m15_, (by rw [ha.out]; exact putSel_upk 3 hb_ rfl rfl rfl), fun _ => (by (with_reducible repeat (first | apply Kd.R_alloc | apply Kd.R_drewN | apply Kd.R_drew)); exact Kd.R_mono HO238.out (fun _ hk => by (try dsimp only at hk); simp only [hk, ne_eq, not_false_eq_true, and_self, and_true, true_and])), blk_a, fun _ => blk_a, blk_a, below_a, z_HO242, z_HO245, fun _ _ => (by (with_reducible repeat (first | apply Kd.R_alloc | apply Kd.R_drewN | apply Kd.R_drew)); exact Kd.R_mono HO248.out (fun _ hk => by (try dsimp only at hk); simp only [hk, ne_eq, not_false_eq_true, and_self, and_true, true_and])), z_HO251, z_HO254, z_HO257, z_HO260, fun h0_ => absurd ((hoff 13 (by kernel_rfl)).symm.trans h0_) (by decide), fun h0_ => absurd ((hoff 14 (by kernel_rfl)).symm.trans h0_) (by decide), fun h0_ => absurd ((hoff 16 (by kernel_rfl)).symm.trans h0_) (by decide), fun h0_ => absurd ((hoff 15 (by kernel_rfl)).symm.trans h0_) (by decide)⟩
      refine steps_cons ?_ ?_
      ·
       rintro b a w' ⟨v241, v244, v247, v250, v253, v256, v259, v262, v265, m15_, ha, Q_HO238, Q_BK227, Q_BK228, Q_BK239, Q_HB, Q_HO242, Q_HO245, Q_HO248, Q_HO251, Q_HO254, Q_HO257, Q_HO260, Q_HO263, Q_HO266, Q_BK228_e16, Q_X15_⟩ hb_ hon hoff; refine ⟨_, rfl, fun K hK => ?_⟩; replace ha := Aside0.mk ha; have HO238 := Aside0.mk (Q_HO238 (hoff 13 (by kernel_rfl))); have BK227 := Aside0.mk Q_BK227; have BK228 := Aside0.mk (Q_BK228 (hoff 16 (by kernel_rfl))); have BK239 := Aside0.mk Q_BK239; have HB := Aside0.mk Q_HB; refine Kd.R_lit_step (Kd.int .i64) _ 2 ?hg (N := 27) ?hd (xs := ([1, 0, 0, 0] : List Int)) (inner := [.int .i64 1, .int .i64 0, .int .i64 0, .int .i64 0]) (ok := fun _ => True) (okp := fun _ => True) ?hr ?hp (fun _ hk => hk) trivial (Below.refl _ _) (Nat.le_refl _) (by simp) ?_; (case hd => rfl); (case hg => rfl); (case hr => first | (go_simp; done) | (go_simp; rfl)); (case hp => exact (Reps.one (show Kd.M (Kd.int .i64) _ _ _ 1 [.int .i64 1] from rfl) (Reps.one (show Kd.M (Kd.int .i64) _ _ _ 0 [.int .i64 0] from rfl) (Reps.one (show Kd.M (Kd.int .i64) _ _ _ 0 [.int .i64 0] from rfl) (Reps.one (show Kd.M (Kd.int .i64) _ _ _ 0 [.int .i64 0] from rfl) (Reps.none _ _)))))); intro v250 w34 ho35 hb hg_ hnew_; clear hg_ hnew_; (first | rw [← Ny249.out] at ho35 | (simp only [Int.reduceToNat] at ho35; rw [← Ny249.out] at ho35)); have n0_ := Aside0.mk (Kd.R_below (R_a HO238.out) hb); have n1_ := Aside0.mk (Kd.R_lower ho35 (below_size below_a)); have n2_ := Aside0.mk (blk_below (g := gb227) blk_c hb); have n3_ := Aside0.mk (blk_below (g := gb228) blk_c hb); have n4_ := Aside0.mk (blk_below (g := gb239) blk_c hb); have n5_ := Aside0.mk (below_step below_a hb); have z_HO242 := fun (h0_ : b 2 = true) => (show Kd.R (Kd.int .i64) 2 w34 w.heap.size (fun _ => True) v241 y240 from by first | exact (Kd.R_elder' (by (with_reducible repeat (first | apply Kd.R_alloc | apply Kd.R_drewN | apply Kd.R_drew)); exact (Q_HO242 h0_)) (Kd.R_base ho35) hb) | exact Kd.R_mono (Kd.R_elder' (by (with_reducible repeat (first | apply Kd.R_alloc | apply Kd.R_drewN | apply Kd.R_drew)); exact (Q_HO242 h0_)) (Kd.R_base ho35) hb) (fun _ h_ => by first | trivial | exact h_ | exact h_.1)); have z_HO245 := fun (h0_ : b 3 = true) (h1_ : b 13 = false) => (show Kd.R (Kd.int .u8) 5 w34 w.heap.size (fun k_ => some k_ ≠ (.slice Ao31 t236.length co31 : Value).ownBlock) v244 t243 from by first | exact (Kd.R_below (by (with_reducible repeat (first | apply Kd.R_alloc | apply Kd.R_drewN | apply Kd.R_drew)); exact (Q_HO245 h0_ h1_)) hb) | exact Kd.R_mono (Kd.R_below (by (with_reducible repeat (first | apply Kd.R_alloc | apply Kd.R_drewN | apply Kd.R_drew)); exact (Q_HO245 h0_ h1_)) hb) (fun _ h_ => by first | trivial | exact h_ | exact h_.1)); have z_HO248 := fun (h0_ : b 4 = true) (h1_ : b 13 = false) => (show Kd.R (Kd.int .u8) 5 w34 w.heap.size (fun k_ => some k_ ≠ (.slice Ao31 t236.length co31 : Value).ownBlock) v247 y246 from by first | exact (Kd.R_below (by (with_reducible repeat (first | apply Kd.R_alloc | apply Kd.R_drewN | apply Kd.R_drew)); exact (Q_HO248 h0_ h1_)) hb) | exact Kd.R_mono (Kd.R_below (by (with_reducible repeat (first | apply Kd.R_alloc | apply Kd.R_drewN | apply Kd.R_drew)); exact (Q_HO248 h0_ h1_)) hb) (fun _ h_ => by first | trivial | exact h_ | exact h_.1)); have z_HO257 := fun (h0_ : b 11 = true) => (show Kd.R (Kd.int .i64) 2 w34 w.heap.size (fun _ => True) v256 y255 from by first | exact (Kd.R_elder' (by (with_reducible repeat (first | apply Kd.R_alloc | apply Kd.R_drewN | apply Kd.R_drew)); exact (Q_HO257 h0_)) (Kd.R_base ho35) hb) | exact Kd.R_mono (Kd.R_elder' (by (with_reducible repeat (first | apply Kd.R_alloc | apply Kd.R_drewN | apply Kd.R_drew)); exact (Q_HO257 h0_)) (Kd.R_base ho35) hb) (fun _ h_ => by first | trivial | exact h_ | exact h_.1)); clear HO238 BK227 BK228 BK239 HB; have HO238 := n0_; have HO251 := n1_; have BK227 := n2_; have BK228 := n3_; have BK239 := n4_; have HB := n5_; clear n0_ n1_ n2_ n3_ n4_ n5_ hb ho35; refine hK.out _ _ ⟨v241, v244, v247, v250, v253, v256, v259, v262, v265, m15_, (by rw [ha.out]; exact putSel_upk 4 hb_ rfl rfl rfl), fun _ => (by (with_reducible repeat (first | apply Kd.R_alloc | apply Kd.R_drewN | apply Kd.R_drew)); exact Kd.R_mono HO238.out (fun _ hk => by (try dsimp only at hk); simp only [hk, ne_eq, not_false_eq_true, and_self, and_true, true_and])), blk_a, fun _ => blk_a, blk_a, below_a, z_HO242, z_HO245, z_HO248, fun _ => (by (with_reducible repeat (first | apply Kd.R_alloc | apply Kd.R_drewN | apply Kd.R_drew)); exact Kd.R_mono HO251.out (fun _ hk => by (try dsimp only at hk); simp only [hk, ne_eq, not_false_eq_true, and_self, and_true, true_and])), fun h0_ _ => absurd ((hoff 6 (by kernel_rfl)).symm.trans h0_) (by decide), z_HO257, fun h0_ _ => absurd ((hoff 12 (by kernel_rfl)).symm.trans h0_) (by decide), fun h0_ => absurd ((hoff 13 (by kernel_rfl)).symm.trans h0_) (by decide), fun h0_ => absurd ((hoff 14 (by kernel_rfl)).symm.trans h0_) (by decide), fun h0_ => absurd ((hoff 16 (by kernel_rfl)).symm.trans h0_) (by decide), fun h0_ => absurd ((hoff 15 (by kernel_rfl)).symm.trans h0_) (by decide)⟩
      refine steps_cons ?_ ?_
      ·
       rintro b a w' ⟨v241, v244, v247, v250, v253, v256, v259, v262, v265, m15_, ha, Q_HO238, Q_BK227, Q_BK228, Q_BK239, Q_HB, Q_HO242, Q_HO245, Q_HO248, Q_HO251, Q_HO254, Q_HO257, Q_HO260, Q_HO263, Q_HO266, Q_BK228_e16, Q_X15_⟩ hb_ hon hoff; refine ⟨_, rfl, fun K hK => ?_⟩; have e27 : a.tmps[27]? = some (v250) := by rw [ha]; exact putSel_on (e := (5, 27, v250)) 4 rfl rfl (hon 5 (by kernel_rfl)) rfl
       replace ha := Aside0.mk ha; have HO238 := Aside0.mk (Q_HO238 (hoff 13 (by kernel_rfl))); have BK227 := Aside0.mk Q_BK227; have BK228 := Aside0.mk (Q_BK228 (hoff 16 (by kernel_rfl))); have BK239 := Aside0.mk Q_BK239; have HB := Aside0.mk Q_HB; have HO242 := Aside0.mk (Q_HO242 (hon 2 (by kernel_rfl))); have HO245 := Aside0.mk (Q_HO245 (hon 3 (by kernel_rfl)) (hoff 13 (by kernel_rfl))); have HO251 := Aside0.mk (Q_HO251 (hon 5 (by kernel_rfl))); obtain ⟨Ao41, co41, eo41⟩ := Kd.R_slice HO251.out; (first | subst eo41 | (injection eo41 with f1_ f2_ f3_; have f4_ := f1_.symm; have f5_ := f3_.symm; clear f1_ f2_ f3_; subst f4_; subst f5_)); refine goes_ Try.func58 (by kernel_rfl) rfl #[.slice Ao41 y249.length co41] (by rfl) rfl rfl (by first | (simp only [List.map_toArray, List.map_cons, List.map_nil, Act.eval, Array.getD_eq_getD_getElem?, Option.getD_some, e27]; done) | (simp only [List.map_toArray, List.map_cons, List.map_nil, Act.eval, Array.getD_eq_getD_getElem?, Option.getD_some, e27]; rfl)) ?_
       with_reducible refine (impl_shorts.calls kj1 _ _ y249 t252 _ ?side1 ?side2 A21.out).mono ?_
       (case side1 => repeat (first | exact (Kd.R_reads' HO251.out).2.2 | (with_reducible refine Kd.C_alloc ?_ _) | (with_reducible refine Kd.C_drewN ?_ _) | (with_reducible refine Kd.C_drew ?_))); (case side2 => exact (Kd.R_reads' HO251.out).2.1); rintro e w42 ⟨v253, rfl, ho0, hb⟩; refine ⟨_, rfl, ?_⟩; have n0_ := Aside0.mk (Kd.R_elder' (R_a HO238.out) (Kd.R_base ho0) hb); have n1_ := Aside0.mk (Kd.R_below (R_a HO242.out) hb); have n2_ := Aside0.mk (Kd.R_elder' (R_a HO245.out) (Kd.R_base ho0) hb); have n3_ := Aside0.mk (Kd.R_below (R_a HO251.out) hb); have n4_ := Aside0.mk (Kd.R_lower (Kd.R_new' (Kd.R_new' ho0 (Kd.R_lt (R_a HO238.out))) (Kd.R_lt (R_a HO245.out))) (below_size below_a)); have n5_ := Aside0.mk (blk_below (g := gb227) blk_c hb); have n6_ := Aside0.mk (blk_below (g := gb228) blk_c hb); have n7_ := Aside0.mk (blk_below (g := gb239) blk_c hb); have n8_ := Aside0.mk (below_step below_a hb); have z_HO248 := fun (h0_ : b 4 = true) (h1_ : b 13 = false) => (show Kd.R (Kd.int .u8) 5 w42 w.heap.size (fun k_ => some k_ ≠ (.slice Ao31 t236.length co31 : Value).ownBlock) v247 y246 from by first | exact (Kd.R_elder' (by (with_reducible repeat (first | apply Kd.R_alloc | apply Kd.R_drewN | apply Kd.R_drew)); exact (Q_HO248 h0_ h1_)) (Kd.R_base ho0) hb) | exact Kd.R_mono (Kd.R_elder' (by (with_reducible repeat (first | apply Kd.R_alloc | apply Kd.R_drewN | apply Kd.R_drew)); exact (Q_HO248 h0_ h1_)) (Kd.R_base ho0) hb) (fun _ h_ => by first | trivial | exact h_ | exact h_.1)); have z_HO257 := fun (h0_ : b 11 = true) => (show Kd.R (Kd.int .i64) 2 w42 w.heap.size (fun _ => True) v256 y255 from by first | exact (Kd.R_below (by (with_reducible repeat (first | apply Kd.R_alloc | apply Kd.R_drewN | apply Kd.R_drew)); exact (Q_HO257 h0_)) hb) | exact Kd.R_mono (Kd.R_below (by (with_reducible repeat (first | apply Kd.R_alloc | apply Kd.R_drewN | apply Kd.R_drew)); exact (Q_HO257 h0_)) hb) (fun _ h_ => by first | trivial | exact h_ | exact h_.1)); clear HO238 HO242 HO245 HO251 BK227 BK228 BK239 HB; have HO238 := n0_; have HO242 := n1_; have HO245 := n2_; have HO251 := n3_; have HO254 := n4_; have BK227 := n5_; have BK228 := n6_; have BK239 := n7_; have HB := n8_; clear n0_ n1_ n2_ n3_ n4_ n5_ n6_ n7_ n8_; (try clear hb); (try clear hb2); (try clear hk); (try clear hi); (try clear ho0); refine hK.out _ _ ⟨v241, v244, v247, .slice Ao41 y249.length co41, v253, v256, v259, v262, v265, m15_, (by rw [ha.out]; exact putSel_upk 5 hb_ rfl rfl rfl), fun _ => (by (with_reducible repeat (first | apply Kd.R_alloc | apply Kd.R_drewN | apply Kd.R_drew)); exact Kd.R_mono HO238.out (fun _ hk => by (try dsimp only at hk); simp only [hk, ne_eq, not_false_eq_true, and_self, and_true, true_and])), blk_a, fun _ => blk_a, blk_a, below_a, fun _ => (by (with_reducible repeat (first | apply Kd.R_alloc | apply Kd.R_drewN | apply Kd.R_drew)); exact Kd.R_mono HO242.out (fun _ hk => by (try dsimp only at hk); simp only [hk, ne_eq, not_false_eq_true, and_self, and_true, true_and])), fun _ _ => (by (with_reducible repeat (first | apply Kd.R_alloc | apply Kd.R_drewN | apply Kd.R_drew)); exact Kd.R_mono HO245.out (fun _ hk => by (try dsimp only at hk); simp only [hk, ne_eq, not_false_eq_true, and_self, and_true, true_and])), z_HO248, fun _ => (by (with_reducible repeat (first | apply Kd.R_alloc | apply Kd.R_drewN | apply Kd.R_drew)); exact Kd.R_mono HO251.out (fun _ hk => by (try dsimp only at hk); simp only [hk, ne_eq, not_false_eq_true, and_self, and_true, true_and])), fun _ _ => (by (with_reducible repeat (first | apply Kd.R_alloc | apply Kd.R_drewN | apply Kd.R_drew)); exact Kd.R_mono HO254.out (fun _ hk => by (try dsimp only at hk); simp only [hk, ne_eq, not_false_eq_true, and_self, and_true, true_and])), z_HO257, fun h0_ _ => absurd ((hoff 12 (by kernel_rfl)).symm.trans h0_) (by decide), fun h0_ => absurd ((hoff 13 (by kernel_rfl)).symm.trans h0_) (by decide), fun h0_ => absurd ((hoff 14 (by kernel_rfl)).symm.trans h0_) (by decide), fun h0_ => absurd ((hoff 16 (by kernel_rfl)).symm.trans h0_) (by decide), fun h0_ => absurd ((hoff 15 (by kernel_rfl)).symm.trans h0_) (by decide)⟩
      refine steps_cons ?_ ?_
      ·
       rintro b a w' ⟨v241, v244, v247, v250, v253, v256, v259, v262, v265, m15_, ha, Q_HO238, Q_BK227, Q_BK228, Q_BK239, Q_HB, Q_HO242, Q_HO245, Q_HO248, Q_HO251, Q_HO254, Q_HO257, Q_HO260, Q_HO263, Q_HO266, Q_BK228_e16, Q_X15_⟩ hb_ hon hoff; refine ⟨_, rfl, fun K hK => ?_⟩; have e29 : a.tmps[29]? = some (.pointer (some ⟨gb239, 1, none⟩)) := by rw [ha]; exact (putSel_off rfl).trans rfl
       replace ha := Aside0.mk ha; have HO238 := Aside0.mk (Q_HO238 (hoff 13 (by kernel_rfl))); have BK227 := Aside0.mk Q_BK227; have BK228 := Aside0.mk (Q_BK228 (hoff 16 (by kernel_rfl))); have BK239 := Aside0.mk Q_BK239; have HB := Aside0.mk Q_HB; have hc0_ : w'.cell? ⟨gb239, 0, none⟩ = some (.int .i64 t235) := (blk_cell BK239.out 0).trans rfl; have hc1_ : w'.cell? ⟨gb239, 1, none⟩ = some (.slice Ao31 t236.length co31) := (blk_cell BK239.out 1).trans rfl; refine value_ (w1 := w') (v := .slice Ao31 t236.length co31) (by rfl) rfl ?_ ?_
       ·
        go_simp
        (try simp only [i64_w])
        try rfl
       refine hK.out _ _ ⟨v241, v244, v247, v250, v253, v256, v259, v262, v265, m15_, (by rw [ha.out]; exact putSel_upk 6 hb_ rfl rfl rfl), Q_HO238, Q_BK227, Q_BK228, Q_BK239, Q_HB, Q_HO242, Q_HO245, Q_HO248, Q_HO251, Q_HO254, Q_HO257, Q_HO260, fun h0_ => absurd ((hoff 13 (by kernel_rfl)).symm.trans h0_) (by decide), fun h0_ => absurd ((hoff 14 (by kernel_rfl)).symm.trans h0_) (by decide), fun h0_ => absurd ((hoff 16 (by kernel_rfl)).symm.trans h0_) (by decide), fun h0_ => absurd ((hoff 15 (by kernel_rfl)).symm.trans h0_) (by decide)⟩
      refine steps_cons ?_ ?_
      ·
       rintro b a w' ⟨v241, v244, v247, v250, v253, v256, v259, v262, v265, m15_, ha, Q_HO238, Q_BK227, Q_BK228, Q_BK239, Q_HB, Q_HO242, Q_HO245, Q_HO248, Q_HO251, Q_HO254, Q_HO257, Q_HO260, Q_HO263, Q_HO266, Q_BK228_e16, Q_X15_⟩ hb_ hon hoff; refine ⟨_, rfl, fun K hK => ?_⟩; have e31 : a.tmps[31]? = some (.pointer (some ⟨gb227, 2, none⟩)) := by rw [ha]; exact (putSel_off rfl).trans rfl
       replace ha := Aside0.mk ha; have HO238 := Aside0.mk (Q_HO238 (hoff 13 (by kernel_rfl))); have BK227 := Aside0.mk Q_BK227; have BK228 := Aside0.mk (Q_BK228 (hoff 16 (by kernel_rfl))); have BK239 := Aside0.mk Q_BK239; have HB := Aside0.mk Q_HB; have hc0_ : w'.cell? ⟨gb227, 0, none⟩ = some (.int .i64 a0_0) := (blk_cell BK227.out 0).trans rfl; have hc1_ : w'.cell? ⟨gb227, 1, none⟩ = some (.slice A0_1 l0_1.length c0_1) := (blk_cell BK227.out 1).trans rfl; have hc2_ : w'.cell? ⟨gb227, 2, none⟩ = some (.int .i64 a0_2) := (blk_cell BK227.out 2).trans rfl; refine value_ (w1 := w') (v := .int .i64 a0_2) (by rfl) rfl ?_ ?_
       ·
        go_simp
        (try simp only [i64_w])
        try rfl
       refine hK.out _ _ ⟨v241, v244, v247, v250, v253, v256, v259, v262, v265, m15_, (by rw [ha.out]; exact putSel_upk 7 hb_ rfl rfl rfl), Q_HO238, Q_BK227, Q_BK228, Q_BK239, Q_HB, Q_HO242, Q_HO245, Q_HO248, Q_HO251, Q_HO254, fun h0_ => absurd ((hoff 11 (by kernel_rfl)).symm.trans h0_) (by decide), fun h0_ _ => absurd ((hoff 12 (by kernel_rfl)).symm.trans h0_) (by decide), fun h0_ => absurd ((hoff 13 (by kernel_rfl)).symm.trans h0_) (by decide), fun h0_ => absurd ((hoff 14 (by kernel_rfl)).symm.trans h0_) (by decide), fun h0_ => absurd ((hoff 16 (by kernel_rfl)).symm.trans h0_) (by decide), fun h0_ => absurd ((hoff 15 (by kernel_rfl)).symm.trans h0_) (by decide)⟩
      refine steps_cons ?_ ?_
      ·
       rintro b a w' ⟨v241, v244, v247, v250, v253, v256, v259, v262, v265, m15_, ha, Q_HO238, Q_BK227, Q_BK228, Q_BK239, Q_HB, Q_HO242, Q_HO245, Q_HO248, Q_HO251, Q_HO254, Q_HO257, Q_HO260, Q_HO263, Q_HO266, Q_BK228_e16, Q_X15_⟩ hb_ hon hoff; refine ⟨_, rfl, fun K hK => ?_⟩; have e32 : a.tmps[32]? = some (.int .i64 a0_2) := by rw [ha]; exact putSel_on (e := (10, 32, .int .i64 a0_2)) 7 rfl rfl (hon 10 (by kernel_rfl)) rfl
       replace ha := Aside0.mk ha; have HO238 := Aside0.mk (Q_HO238 (hoff 13 (by kernel_rfl))); have BK227 := Aside0.mk Q_BK227; have BK228 := Aside0.mk (Q_BK228 (hoff 16 (by kernel_rfl))); have BK239 := Aside0.mk Q_BK239; have HB := Aside0.mk Q_HB; refine Kd.R_lit_step (Kd.int .i64) _ 2 ?hg (N := 33) ?hd (xs := ([a0_2, 1] : List Int)) (inner := [.int .i64 a0_2, .int .i64 1]) (ok := fun _ => True) (okp := fun _ => True) ?hr ?hp (fun _ hk => hk) trivial (Below.refl _ _) (Nat.le_refl _) (by simp) ?_; (case hd => rfl); (case hg => rfl); (case hr => first | (go_simp; done) | (go_simp; rfl)); (case hp => exact (Reps.one (show Kd.M (Kd.int .i64) _ _ _ a0_2 [.int .i64 a0_2] from rfl) (Reps.one (show Kd.M (Kd.int .i64) _ _ _ 1 [.int .i64 1] from rfl) (Reps.none _ _)))); intro v256 w34 ho35 hb hg_ hnew_; clear hg_ hnew_; (first | rw [← Ny255.out] at ho35 | (simp only [Int.reduceToNat] at ho35; rw [← Ny255.out] at ho35)); have n0_ := Aside0.mk (Kd.R_below (R_a HO238.out) hb); have n1_ := Aside0.mk (Kd.R_lower ho35 (below_size below_a)); have n2_ := Aside0.mk (blk_below (g := gb227) blk_c hb); have n3_ := Aside0.mk (blk_below (g := gb228) blk_c hb); have n4_ := Aside0.mk (blk_below (g := gb239) blk_c hb); have n5_ := Aside0.mk (below_step below_a hb); have z_HO242 := fun (h0_ : b 2 = true) => (show Kd.R (Kd.int .i64) 2 w34 w.heap.size (fun _ => True) v241 y240 from by first | exact (Kd.R_elder' (by (with_reducible repeat (first | apply Kd.R_alloc | apply Kd.R_drewN | apply Kd.R_drew)); exact (Q_HO242 h0_)) (Kd.R_base ho35) hb) | exact Kd.R_mono (Kd.R_elder' (by (with_reducible repeat (first | apply Kd.R_alloc | apply Kd.R_drewN | apply Kd.R_drew)); exact (Q_HO242 h0_)) (Kd.R_base ho35) hb) (fun _ h_ => by first | trivial | exact h_ | exact h_.1)); have z_HO245 := fun (h0_ : b 3 = true) (h1_ : b 13 = false) => (show Kd.R (Kd.int .u8) 5 w34 w.heap.size (fun k_ => some k_ ≠ (.slice Ao31 t236.length co31 : Value).ownBlock) v244 t243 from by first | exact (Kd.R_below (by (with_reducible repeat (first | apply Kd.R_alloc | apply Kd.R_drewN | apply Kd.R_drew)); exact (Q_HO245 h0_ h1_)) hb) | exact Kd.R_mono (Kd.R_below (by (with_reducible repeat (first | apply Kd.R_alloc | apply Kd.R_drewN | apply Kd.R_drew)); exact (Q_HO245 h0_ h1_)) hb) (fun _ h_ => by first | trivial | exact h_ | exact h_.1)); have z_HO248 := fun (h0_ : b 4 = true) (h1_ : b 13 = false) => (show Kd.R (Kd.int .u8) 5 w34 w.heap.size (fun k_ => some k_ ≠ (.slice Ao31 t236.length co31 : Value).ownBlock) v247 y246 from by first | exact (Kd.R_below (by (with_reducible repeat (first | apply Kd.R_alloc | apply Kd.R_drewN | apply Kd.R_drew)); exact (Q_HO248 h0_ h1_)) hb) | exact Kd.R_mono (Kd.R_below (by (with_reducible repeat (first | apply Kd.R_alloc | apply Kd.R_drewN | apply Kd.R_drew)); exact (Q_HO248 h0_ h1_)) hb) (fun _ h_ => by first | trivial | exact h_ | exact h_.1)); have z_HO251 := fun (h0_ : b 5 = true) => (show Kd.R (Kd.int .i64) 2 w34 w.heap.size (fun _ => True) v250 y249 from by first | exact (Kd.R_elder' (by (with_reducible repeat (first | apply Kd.R_alloc | apply Kd.R_drewN | apply Kd.R_drew)); exact (Q_HO251 h0_)) (Kd.R_base ho35) hb) | exact Kd.R_mono (Kd.R_elder' (by (with_reducible repeat (first | apply Kd.R_alloc | apply Kd.R_drewN | apply Kd.R_drew)); exact (Q_HO251 h0_)) (Kd.R_base ho35) hb) (fun _ h_ => by first | trivial | exact h_ | exact h_.1)); have z_HO254 := fun (h0_ : b 6 = true) (h1_ : b 13 = false) => (show Kd.R (Kd.int .u8) 5 w34 w.heap.size (fun k_ => some k_ ≠ (.slice Ao31 t236.length co31 : Value).ownBlock) v253 t252 from by first | exact (Kd.R_below (by (with_reducible repeat (first | apply Kd.R_alloc | apply Kd.R_drewN | apply Kd.R_drew)); exact (Q_HO254 h0_ h1_)) hb) | exact Kd.R_mono (Kd.R_below (by (with_reducible repeat (first | apply Kd.R_alloc | apply Kd.R_drewN | apply Kd.R_drew)); exact (Q_HO254 h0_ h1_)) hb) (fun _ h_ => by first | trivial | exact h_ | exact h_.1)); clear HO238 BK227 BK228 BK239 HB; have HO238 := n0_; have HO257 := n1_; have BK227 := n2_; have BK228 := n3_; have BK239 := n4_; have HB := n5_; clear n0_ n1_ n2_ n3_ n4_ n5_ hb ho35; refine hK.out _ _ ⟨v241, v244, v247, v250, v253, v256, v259, v262, v265, m15_, (by rw [ha.out]; exact putSel_upk 8 hb_ rfl rfl rfl), fun _ => (by (with_reducible repeat (first | apply Kd.R_alloc | apply Kd.R_drewN | apply Kd.R_drew)); exact Kd.R_mono HO238.out (fun _ hk => by (try dsimp only at hk); simp only [hk, ne_eq, not_false_eq_true, and_self, and_true, true_and])), blk_a, fun _ => blk_a, blk_a, below_a, z_HO242, z_HO245, z_HO248, z_HO251, z_HO254, fun _ => (by (with_reducible repeat (first | apply Kd.R_alloc | apply Kd.R_drewN | apply Kd.R_drew)); exact Kd.R_mono HO257.out (fun _ hk => by (try dsimp only at hk); simp only [hk, ne_eq, not_false_eq_true, and_self, and_true, true_and])), fun h0_ _ => absurd ((hoff 12 (by kernel_rfl)).symm.trans h0_) (by decide), fun h0_ => absurd ((hoff 13 (by kernel_rfl)).symm.trans h0_) (by decide), fun h0_ => absurd ((hoff 14 (by kernel_rfl)).symm.trans h0_) (by decide), fun h0_ => absurd ((hoff 16 (by kernel_rfl)).symm.trans h0_) (by decide), fun h0_ => absurd ((hoff 15 (by kernel_rfl)).symm.trans h0_) (by decide)⟩
      refine steps_cons ?_ ?_
      ·
       rintro b a w' ⟨v241, v244, v247, v250, v253, v256, v259, v262, v265, m15_, ha, Q_HO238, Q_BK227, Q_BK228, Q_BK239, Q_HB, Q_HO242, Q_HO245, Q_HO248, Q_HO251, Q_HO254, Q_HO257, Q_HO260, Q_HO263, Q_HO266, Q_BK228_e16, Q_X15_⟩ hb_ hon hoff; refine ⟨_, rfl, fun K hK => ?_⟩; have e33 : a.tmps[33]? = some (v256) := by rw [ha]; exact putSel_on (e := (11, 33, v256)) 8 rfl rfl (hon 11 (by kernel_rfl)) rfl
       replace ha := Aside0.mk ha; have HO238 := Aside0.mk (Q_HO238 (hoff 13 (by kernel_rfl))); have BK227 := Aside0.mk Q_BK227; have BK228 := Aside0.mk (Q_BK228 (hoff 16 (by kernel_rfl))); have BK239 := Aside0.mk Q_BK239; have HB := Aside0.mk Q_HB; have HO242 := Aside0.mk (Q_HO242 (hon 2 (by kernel_rfl))); have HO245 := Aside0.mk (Q_HO245 (hon 3 (by kernel_rfl)) (hoff 13 (by kernel_rfl))); have HO251 := Aside0.mk (Q_HO251 (hon 5 (by kernel_rfl))); have HO254 := Aside0.mk (Q_HO254 (hon 6 (by kernel_rfl)) (hoff 13 (by kernel_rfl))); have HO257 := Aside0.mk (Q_HO257 (hon 11 (by kernel_rfl))); obtain ⟨Ao45, co45, eo45⟩ := Kd.R_slice HO257.out; (first | subst eo45 | (injection eo45 with f1_ f2_ f3_; have f4_ := f1_.symm; have f5_ := f3_.symm; clear f1_ f2_ f3_; subst f4_; subst f5_)); refine goes_ Try.func58 (by kernel_rfl) rfl #[.slice Ao45 y255.length co45] (by rfl) rfl rfl (by first | (simp only [List.map_toArray, List.map_cons, List.map_nil, Act.eval, Array.getD_eq_getD_getElem?, Option.getD_some, e33]; done) | (simp only [List.map_toArray, List.map_cons, List.map_nil, Act.eval, Array.getD_eq_getD_getElem?, Option.getD_some, e33]; rfl)) ?_
       with_reducible refine (impl_shorts.calls kj1 _ _ y255 t258 _ ?side1 ?side2 A22.out).mono ?_
       (case side1 => repeat (first | exact (Kd.R_reads' HO257.out).2.2 | (with_reducible refine Kd.C_alloc ?_ _) | (with_reducible refine Kd.C_drewN ?_ _) | (with_reducible refine Kd.C_drew ?_))); (case side2 => exact (Kd.R_reads' HO257.out).2.1); rintro e w46 ⟨v259, rfl, ho0, hb⟩; refine ⟨_, rfl, ?_⟩; have n0_ := Aside0.mk (Kd.R_elder' (R_a HO238.out) (Kd.R_base ho0) hb); have n1_ := Aside0.mk (Kd.R_below (R_a HO242.out) hb); have n2_ := Aside0.mk (Kd.R_elder' (R_a HO245.out) (Kd.R_base ho0) hb); have n3_ := Aside0.mk (Kd.R_below (R_a HO251.out) hb); have n4_ := Aside0.mk (Kd.R_elder' (R_a HO254.out) (Kd.R_base ho0) hb); have n5_ := Aside0.mk (Kd.R_below (R_a HO257.out) hb); have n6_ := Aside0.mk (Kd.R_lower (Kd.R_new' (Kd.R_new' (Kd.R_new' ho0 (Kd.R_lt (R_a HO238.out))) (Kd.R_lt (R_a HO245.out))) (Kd.R_lt (R_a HO254.out))) (below_size below_a)); have n7_ := Aside0.mk (blk_below (g := gb227) blk_c hb); have n8_ := Aside0.mk (blk_below (g := gb228) blk_c hb); have n9_ := Aside0.mk (blk_below (g := gb239) blk_c hb); have n10_ := Aside0.mk (below_step below_a hb); have z_HO248 := fun (h0_ : b 4 = true) (h1_ : b 13 = false) => (show Kd.R (Kd.int .u8) 5 w46 w.heap.size (fun k_ => some k_ ≠ (.slice Ao31 t236.length co31 : Value).ownBlock) v247 y246 from by first | exact (Kd.R_elder' (by (with_reducible repeat (first | apply Kd.R_alloc | apply Kd.R_drewN | apply Kd.R_drew)); exact (Q_HO248 h0_ h1_)) (Kd.R_base ho0) hb) | exact Kd.R_mono (Kd.R_elder' (by (with_reducible repeat (first | apply Kd.R_alloc | apply Kd.R_drewN | apply Kd.R_drew)); exact (Q_HO248 h0_ h1_)) (Kd.R_base ho0) hb) (fun _ h_ => by first | trivial | exact h_ | exact h_.1)); clear HO238 HO242 HO245 HO251 HO254 HO257 BK227 BK228 BK239 HB; have HO238 := n0_; have HO242 := n1_; have HO245 := n2_; have HO251 := n3_; have HO254 := n4_; have HO257 := n5_; have HO260 := n6_; have BK227 := n7_; have BK228 := n8_; have BK239 := n9_; have HB := n10_; clear n0_ n1_ n2_ n3_ n4_ n5_ n6_ n7_ n8_ n9_ n10_; (try clear hb); (try clear hb2); (try clear hk); (try clear hi); (try clear ho0); refine hK.out _ _ ⟨v241, v244, v247, v250, v253, .slice Ao45 y255.length co45, v259, v262, v265, m15_, (by rw [ha.out]; exact putSel_upk 9 hb_ rfl rfl rfl), fun _ => (by (with_reducible repeat (first | apply Kd.R_alloc | apply Kd.R_drewN | apply Kd.R_drew)); exact Kd.R_mono HO238.out (fun _ hk => by (try dsimp only at hk); simp only [hk, ne_eq, not_false_eq_true, and_self, and_true, true_and])), blk_a, fun _ => blk_a, blk_a, below_a, fun _ => (by (with_reducible repeat (first | apply Kd.R_alloc | apply Kd.R_drewN | apply Kd.R_drew)); exact Kd.R_mono HO242.out (fun _ hk => by (try dsimp only at hk); simp only [hk, ne_eq, not_false_eq_true, and_self, and_true, true_and])), fun _ _ => (by (with_reducible repeat (first | apply Kd.R_alloc | apply Kd.R_drewN | apply Kd.R_drew)); exact Kd.R_mono HO245.out (fun _ hk => by (try dsimp only at hk); simp only [hk, ne_eq, not_false_eq_true, and_self, and_true, true_and])), z_HO248, fun _ => (by (with_reducible repeat (first | apply Kd.R_alloc | apply Kd.R_drewN | apply Kd.R_drew)); exact Kd.R_mono HO251.out (fun _ hk => by (try dsimp only at hk); simp only [hk, ne_eq, not_false_eq_true, and_self, and_true, true_and])), fun _ _ => (by (with_reducible repeat (first | apply Kd.R_alloc | apply Kd.R_drewN | apply Kd.R_drew)); exact Kd.R_mono HO254.out (fun _ hk => by (try dsimp only at hk); simp only [hk, ne_eq, not_false_eq_true, and_self, and_true, true_and])), fun _ => (by (with_reducible repeat (first | apply Kd.R_alloc | apply Kd.R_drewN | apply Kd.R_drew)); exact Kd.R_mono HO257.out (fun _ hk => by (try dsimp only at hk); simp only [hk, ne_eq, not_false_eq_true, and_self, and_true, true_and])), fun _ _ => (by (with_reducible repeat (first | apply Kd.R_alloc | apply Kd.R_drewN | apply Kd.R_drew)); exact Kd.R_mono HO260.out (fun _ hk => by (try dsimp only at hk); simp only [hk, ne_eq, not_false_eq_true, and_self, and_true, true_and])), fun h0_ => absurd ((hoff 13 (by kernel_rfl)).symm.trans h0_) (by decide), fun h0_ => absurd ((hoff 14 (by kernel_rfl)).symm.trans h0_) (by decide), fun h0_ => absurd ((hoff 16 (by kernel_rfl)).symm.trans h0_) (by decide), fun h0_ => absurd ((hoff 15 (by kernel_rfl)).symm.trans h0_) (by decide)⟩
      refine steps_cons ?_ ?_
      ·
       rintro b a w' ⟨v241, v244, v247, v250, v253, v256, v259, v262, v265, m15_, ha, Q_HO238, Q_BK227, Q_BK228, Q_BK239, Q_HB, Q_HO242, Q_HO245, Q_HO248, Q_HO251, Q_HO254, Q_HO257, Q_HO260, Q_HO263, Q_HO266, Q_BK228_e16, Q_X15_⟩ hb_ hon hoff; refine ⟨_, rfl, fun K hK => ?_⟩; have e25 : a.tmps[25]? = some (v244) := by rw [ha]; exact putSel_on (e := (3, 25, v244)) 2 rfl rfl (hon 3 (by kernel_rfl)) rfl
       have e26 : a.tmps[26]? = some (v247) := by rw [ha]; exact putSel_on (e := (4, 26, v247)) 3 rfl rfl (hon 4 (by kernel_rfl)) rfl
       have e28 : a.tmps[28]? = some (v253) := by rw [ha]; exact putSel_on (e := (6, 28, v253)) 5 rfl rfl (hon 6 (by kernel_rfl)) rfl
       have e30 : a.tmps[30]? = some (.slice Ao31 t236.length co31) := by rw [ha]; exact putSel_on (e := (8, 30, .slice Ao31 t236.length co31)) 6 rfl rfl (hon 8 (by kernel_rfl)) rfl
       have e34 : a.tmps[34]? = some (v259) := by rw [ha]; exact putSel_on (e := (12, 34, v259)) 9 rfl rfl (hon 12 (by kernel_rfl)) rfl
       replace ha := Aside0.mk ha; have HO238 := Aside0.mk (Q_HO238 hb_); have BK227 := Aside0.mk Q_BK227; have BK228 := Aside0.mk (Q_BK228 (hoff 16 (by kernel_rfl))); have BK239 := Aside0.mk Q_BK239; have HB := Aside0.mk Q_HB; have HO242 := Aside0.mk (Q_HO242 (hon 2 (by kernel_rfl))); have HO245 := Aside0.mk (Q_HO245 (hon 3 (by kernel_rfl)) hb_); have HO248 := Aside0.mk (Q_HO248 (hon 4 (by kernel_rfl)) hb_); have HO251 := Aside0.mk (Q_HO251 (hon 5 (by kernel_rfl))); have HO254 := Aside0.mk (Q_HO254 (hon 6 (by kernel_rfl)) hb_); have HO257 := Aside0.mk (Q_HO257 (hon 11 (by kernel_rfl))); have HO260 := Aside0.mk (Q_HO260 (hon 12 (by kernel_rfl)) hb_); obtain ⟨Ao49, co49, eo49⟩ := Kd.R_slice HO245.out; (first | subst eo49 | (injection eo49 with f1_ f2_ f3_; have f4_ := f1_.symm; have f5_ := f3_.symm; clear f1_ f2_ f3_; subst f4_; subst f5_)); obtain ⟨Ao50, co50, eo50⟩ := Kd.R_slice HO248.out; (first | subst eo50 | (injection eo50 with f1_ f2_ f3_; have f4_ := f1_.symm; have f5_ := f3_.symm; clear f1_ f2_ f3_; subst f4_; subst f5_)); obtain ⟨Ao51, co51, eo51⟩ := Kd.R_slice HO254.out; (first | subst eo51 | (injection eo51 with f1_ f2_ f3_; have f4_ := f1_.symm; have f5_ := f3_.symm; clear f1_ f2_ f3_; subst f4_; subst f5_)); obtain ⟨Ao52, co52, eo52⟩ := Kd.R_slice HO260.out; (first | subst eo52 | (injection eo52 with f1_ f2_ f3_; have f4_ := f1_.symm; have f5_ := f3_.symm; clear f1_ f2_ f3_; subst f4_; subst f5_)); refine Kd.N_lit_step (Kd.slice 5 (Kd.int .u8)) _ 24 ?hg (N' := 35) ?hd (xs := ([t243, y246, t252, t236, t258] : List (List Int))) (inner := [.slice Ao49 t243.length co49, .slice Ao50 y246.length co50, .slice Ao51 t252.length co51, .slice Ao31 t236.length co31, .slice Ao52 t258.length co52]) (ok := (fun k_ => some k_ ≠ (v241 : Value).ownBlock ∧ some k_ ≠ (v250 : Value).ownBlock ∧ some k_ ≠ (v256 : Value).ownBlock ∧ k_ ≠ gb227 ∧ k_ ≠ gb228 ∧ k_ ≠ gb239)) (okp := (fun k_ => some k_ ≠ (v241 : Value).ownBlock ∧ some k_ ≠ (v250 : Value).ownBlock ∧ some k_ ≠ (v256 : Value).ownBlock ∧ k_ ≠ gb227 ∧ k_ ≠ gb228 ∧ k_ ≠ gb239)) ?hr ?hp (fun _ hk => hk) ((show ∀ k_, w'.heap.size ≤ k_ → (fun k_ => some k_ ≠ (v241 : Value).ownBlock ∧ some k_ ≠ (v250 : Value).ownBlock ∧ some k_ ≠ (v256 : Value).ownBlock ∧ k_ ≠ gb227 ∧ k_ ≠ gb228 ∧ k_ ≠ gb239) k_ from fun k_ hk => ⟨Kd.fresh' (Kd.R_lt (R_a HO242.out)) k_ hk, Kd.fresh' (Kd.R_lt (R_a HO251.out)) k_ hk, Kd.fresh' (Kd.R_lt (R_a HO257.out)) k_ hk, Kd.freshB (g := gb227) blk_c k_ hk, Kd.freshB (g := gb228) blk_c k_ hk, Kd.freshB (g := gb239) blk_c k_ hk⟩) _ (Nat.le_refl _)) (Below.refl _ _) (Nat.le_refl _) (by simp) ?_; (case hd => rfl); (case hg => rfl); (case hr => first | (go_simp; done) | (go_simp; rfl)); (case hp => exact (Reps.one (show Kd.FK (Kd.slice 5 (Kd.int .u8)) _ _ t243 [.slice Ao49 t243.length co49] from (Kd.FK_slice_mk (Kd.R_reads' (Kd.R_mono (ok' := (fun k_ => some k_ ≠ (v241 : Value).ownBlock ∧ some k_ ≠ (v250 : Value).ownBlock ∧ some k_ ≠ (v256 : Value).ownBlock ∧ k_ ≠ gb227 ∧ k_ ≠ gb228 ∧ k_ ≠ gb239)) (Kd.R_types (Kd.R_types (Kd.R_types (Kd.R_apart' (Kd.R_apart' (Kd.R_apart' (HO245.out) (Kd.R_typed HO242.out) (by decide)) (Kd.R_typed HO251.out) (by decide)) (Kd.R_typed HO257.out) (by decide)) BK227.out (by decide)) BK228.out (by decide)) BK239.out (by decide)) (fun k_ hk => ⟨hk.1.1.1.1.1.2, ⟨hk.1.1.1.1.2, ⟨hk.1.1.1.2, ⟨hk.1.1.2, ⟨hk.1.2, hk.2⟩⟩⟩⟩⟩))).2.1 (Kd.R_F (Kd.R_mono (ok' := (fun k_ => some k_ ≠ (v241 : Value).ownBlock ∧ some k_ ≠ (v250 : Value).ownBlock ∧ some k_ ≠ (v256 : Value).ownBlock ∧ k_ ≠ gb227 ∧ k_ ≠ gb228 ∧ k_ ≠ gb239)) (Kd.R_types (Kd.R_types (Kd.R_types (Kd.R_apart' (Kd.R_apart' (Kd.R_apart' (HO245.out) (Kd.R_typed HO242.out) (by decide)) (Kd.R_typed HO251.out) (by decide)) (Kd.R_typed HO257.out) (by decide)) BK227.out (by decide)) BK228.out (by decide)) BK239.out (by decide)) (fun k_ hk => ⟨hk.1.1.1.1.1.2, ⟨hk.1.1.1.1.2, ⟨hk.1.1.1.2, ⟨hk.1.1.2, ⟨hk.1.2, hk.2⟩⟩⟩⟩⟩))))) (Reps.one (show Kd.FK (Kd.slice 5 (Kd.int .u8)) _ _ y246 [.slice Ao50 y246.length co50] from (Kd.FK_slice_mk (Kd.R_reads' (Kd.R_mono (ok' := (fun k_ => some k_ ≠ (v241 : Value).ownBlock ∧ some k_ ≠ (v250 : Value).ownBlock ∧ some k_ ≠ (v256 : Value).ownBlock ∧ k_ ≠ gb227 ∧ k_ ≠ gb228 ∧ k_ ≠ gb239)) (Kd.R_types (Kd.R_types (Kd.R_types (Kd.R_apart' (Kd.R_apart' (Kd.R_apart' (HO248.out) (Kd.R_typed HO242.out) (by decide)) (Kd.R_typed HO251.out) (by decide)) (Kd.R_typed HO257.out) (by decide)) BK227.out (by decide)) BK228.out (by decide)) BK239.out (by decide)) (fun k_ hk => ⟨hk.1.1.1.1.1.2, ⟨hk.1.1.1.1.2, ⟨hk.1.1.1.2, ⟨hk.1.1.2, ⟨hk.1.2, hk.2⟩⟩⟩⟩⟩))).2.1 (Kd.R_F (Kd.R_mono (ok' := (fun k_ => some k_ ≠ (v241 : Value).ownBlock ∧ some k_ ≠ (v250 : Value).ownBlock ∧ some k_ ≠ (v256 : Value).ownBlock ∧ k_ ≠ gb227 ∧ k_ ≠ gb228 ∧ k_ ≠ gb239)) (Kd.R_types (Kd.R_types (Kd.R_types (Kd.R_apart' (Kd.R_apart' (Kd.R_apart' (HO248.out) (Kd.R_typed HO242.out) (by decide)) (Kd.R_typed HO251.out) (by decide)) (Kd.R_typed HO257.out) (by decide)) BK227.out (by decide)) BK228.out (by decide)) BK239.out (by decide)) (fun k_ hk => ⟨hk.1.1.1.1.1.2, ⟨hk.1.1.1.1.2, ⟨hk.1.1.1.2, ⟨hk.1.1.2, ⟨hk.1.2, hk.2⟩⟩⟩⟩⟩))))) (Reps.one (show Kd.FK (Kd.slice 5 (Kd.int .u8)) _ _ t252 [.slice Ao51 t252.length co51] from (Kd.FK_slice_mk (Kd.R_reads' (Kd.R_mono (ok' := (fun k_ => some k_ ≠ (v241 : Value).ownBlock ∧ some k_ ≠ (v250 : Value).ownBlock ∧ some k_ ≠ (v256 : Value).ownBlock ∧ k_ ≠ gb227 ∧ k_ ≠ gb228 ∧ k_ ≠ gb239)) (Kd.R_types (Kd.R_types (Kd.R_types (Kd.R_apart' (Kd.R_apart' (Kd.R_apart' (HO254.out) (Kd.R_typed HO242.out) (by decide)) (Kd.R_typed HO251.out) (by decide)) (Kd.R_typed HO257.out) (by decide)) BK227.out (by decide)) BK228.out (by decide)) BK239.out (by decide)) (fun k_ hk => ⟨hk.1.1.1.1.1.2, ⟨hk.1.1.1.1.2, ⟨hk.1.1.1.2, ⟨hk.1.1.2, ⟨hk.1.2, hk.2⟩⟩⟩⟩⟩))).2.1 (Kd.R_F (Kd.R_mono (ok' := (fun k_ => some k_ ≠ (v241 : Value).ownBlock ∧ some k_ ≠ (v250 : Value).ownBlock ∧ some k_ ≠ (v256 : Value).ownBlock ∧ k_ ≠ gb227 ∧ k_ ≠ gb228 ∧ k_ ≠ gb239)) (Kd.R_types (Kd.R_types (Kd.R_types (Kd.R_apart' (Kd.R_apart' (Kd.R_apart' (HO254.out) (Kd.R_typed HO242.out) (by decide)) (Kd.R_typed HO251.out) (by decide)) (Kd.R_typed HO257.out) (by decide)) BK227.out (by decide)) BK228.out (by decide)) BK239.out (by decide)) (fun k_ hk => ⟨hk.1.1.1.1.1.2, ⟨hk.1.1.1.1.2, ⟨hk.1.1.1.2, ⟨hk.1.1.2, ⟨hk.1.2, hk.2⟩⟩⟩⟩⟩))))) (Reps.one (show Kd.FK (Kd.slice 5 (Kd.int .u8)) _ _ t236 [.slice Ao31 t236.length co31] from (Kd.FK_slice_mk (Kd.R_reads' (Kd.R_mono (ok' := (fun k_ => some k_ ≠ (v241 : Value).ownBlock ∧ some k_ ≠ (v250 : Value).ownBlock ∧ some k_ ≠ (v256 : Value).ownBlock ∧ k_ ≠ gb227 ∧ k_ ≠ gb228 ∧ k_ ≠ gb239)) (Kd.R_types (Kd.R_types (Kd.R_types (Kd.R_apart' (Kd.R_apart' (Kd.R_apart' (HO238.out) (Kd.R_typed HO242.out) (by decide)) (Kd.R_typed HO251.out) (by decide)) (Kd.R_typed HO257.out) (by decide)) BK227.out (by decide)) BK228.out (by decide)) BK239.out (by decide)) (fun k_ hk => ⟨hk.1.1.1.1.1.2, ⟨hk.1.1.1.1.2, ⟨hk.1.1.1.2, ⟨hk.1.1.2, ⟨hk.1.2, hk.2⟩⟩⟩⟩⟩))).2.1 (Kd.R_F (Kd.R_mono (ok' := (fun k_ => some k_ ≠ (v241 : Value).ownBlock ∧ some k_ ≠ (v250 : Value).ownBlock ∧ some k_ ≠ (v256 : Value).ownBlock ∧ k_ ≠ gb227 ∧ k_ ≠ gb228 ∧ k_ ≠ gb239)) (Kd.R_types (Kd.R_types (Kd.R_types (Kd.R_apart' (Kd.R_apart' (Kd.R_apart' (HO238.out) (Kd.R_typed HO242.out) (by decide)) (Kd.R_typed HO251.out) (by decide)) (Kd.R_typed HO257.out) (by decide)) BK227.out (by decide)) BK228.out (by decide)) BK239.out (by decide)) (fun k_ hk => ⟨hk.1.1.1.1.1.2, ⟨hk.1.1.1.1.2, ⟨hk.1.1.1.2, ⟨hk.1.1.2, ⟨hk.1.2, hk.2⟩⟩⟩⟩⟩))))) (Reps.one (show Kd.FK (Kd.slice 5 (Kd.int .u8)) _ _ t258 [.slice Ao52 t258.length co52] from (Kd.FK_slice_mk (Kd.R_reads' (Kd.R_mono (ok' := (fun k_ => some k_ ≠ (v241 : Value).ownBlock ∧ some k_ ≠ (v250 : Value).ownBlock ∧ some k_ ≠ (v256 : Value).ownBlock ∧ k_ ≠ gb227 ∧ k_ ≠ gb228 ∧ k_ ≠ gb239)) (Kd.R_types (Kd.R_types (Kd.R_types (Kd.R_apart' (Kd.R_apart' (Kd.R_apart' (HO260.out) (Kd.R_typed HO242.out) (by decide)) (Kd.R_typed HO251.out) (by decide)) (Kd.R_typed HO257.out) (by decide)) BK227.out (by decide)) BK228.out (by decide)) BK239.out (by decide)) (fun k_ hk => ⟨hk.1.1.1.1.1.2, ⟨hk.1.1.1.1.2, ⟨hk.1.1.1.2, ⟨hk.1.1.2, ⟨hk.1.2, hk.2⟩⟩⟩⟩⟩))).2.1 (Kd.R_F (Kd.R_mono (ok' := (fun k_ => some k_ ≠ (v241 : Value).ownBlock ∧ some k_ ≠ (v250 : Value).ownBlock ∧ some k_ ≠ (v256 : Value).ownBlock ∧ k_ ≠ gb227 ∧ k_ ≠ gb228 ∧ k_ ≠ gb239)) (Kd.R_types (Kd.R_types (Kd.R_types (Kd.R_apart' (Kd.R_apart' (Kd.R_apart' (HO260.out) (Kd.R_typed HO242.out) (by decide)) (Kd.R_typed HO251.out) (by decide)) (Kd.R_typed HO257.out) (by decide)) BK227.out (by decide)) BK228.out (by decide)) BK239.out (by decide)) (fun k_ hk => ⟨hk.1.1.1.1.1.2, ⟨hk.1.1.1.1.2, ⟨hk.1.1.1.2, ⟨hk.1.1.2, ⟨hk.1.2, hk.2⟩⟩⟩⟩⟩))))) (Reps.none _ _))))))); intro v262 w53 ho54 hb hg_ hnew_; clear hg_ hnew_; (first | rw [← Ny261.out] at ho54 | (simp only [Int.reduceToNat] at ho54; rw [← Ny261.out] at ho54)); replace HO242 := Aside0.mk (Kd.R_below (R_a HO242.out) hb); replace HO251 := Aside0.mk (Kd.R_below (R_a HO251.out) hb); replace HO257 := Aside0.mk (Kd.R_below (R_a HO257.out) hb); have HO263 := Aside0.mk (Kd.N_lower ho54 (below_size below_a)); replace BK227 := Aside0.mk (blk_below (g := gb227) blk_c hb); replace BK228 := Aside0.mk (blk_below (g := gb228) blk_c hb); replace BK239 := Aside0.mk (blk_below (g := gb239) blk_c hb); replace HB := Aside0.mk (below_step below_a hb); clear HO238 HO245 HO248 HO254 HO260 hb ho54; refine hK.out _ _ ⟨v241, .slice Ao49 t243.length co49, .slice Ao50 y246.length co50, v250, .slice Ao51 t252.length co51, v256, .slice Ao52 t258.length co52, v262, v265, m15_, (by rw [ha.out]; exact putSel_upk 10 hb_ rfl rfl rfl), fun h0_ => absurd ((up_self b 13).symm.trans h0_) (by decide), blk_a, fun _ => blk_a, blk_a, below_a, fun _ => (by (with_reducible repeat (first | apply Kd.R_alloc | apply Kd.R_drewN | apply Kd.R_drew)); exact Kd.R_mono HO242.out (fun _ hk => by (try dsimp only at hk); simp only [hk, ne_eq, not_false_eq_true, and_self, and_true, true_and])), fun _ h1_ => absurd ((up_self b 13).symm.trans h1_) (by decide), fun _ h1_ => absurd ((up_self b 13).symm.trans h1_) (by decide), fun _ => (by (with_reducible repeat (first | apply Kd.R_alloc | apply Kd.R_drewN | apply Kd.R_drew)); exact Kd.R_mono HO251.out (fun _ hk => by (try dsimp only at hk); simp only [hk, ne_eq, not_false_eq_true, and_self, and_true, true_and])), fun _ h1_ => absurd ((up_self b 13).symm.trans h1_) (by decide), fun _ => (by (with_reducible repeat (first | apply Kd.R_alloc | apply Kd.R_drewN | apply Kd.R_drew)); exact Kd.R_mono HO257.out (fun _ hk => by (try dsimp only at hk); simp only [hk, ne_eq, not_false_eq_true, and_self, and_true, true_and])), fun _ h1_ => absurd ((up_self b 13).symm.trans h1_) (by decide), fun _ => (by (with_reducible repeat (first | apply Kd.N_alloc | apply Kd.N_drewN | apply Kd.N_drew)); exact Kd.N_mono HO263.out (fun _ hk => by (try dsimp only at hk); simp only [hk, ne_eq, not_false_eq_true, and_self, and_true, true_and])), fun h0_ => absurd ((hoff 14 (by kernel_rfl)).symm.trans h0_) (by decide), fun h0_ => absurd ((hoff 16 (by kernel_rfl)).symm.trans h0_) (by decide), fun h0_ => absurd ((hoff 15 (by kernel_rfl)).symm.trans h0_) (by decide)⟩
      refine steps_cons ?_ ?_
      ·
       rintro b a w' ⟨v241, v244, v247, v250, v253, v256, v259, v262, v265, m15_, ha, Q_HO238, Q_BK227, Q_BK228, Q_BK239, Q_HB, Q_HO242, Q_HO245, Q_HO248, Q_HO251, Q_HO254, Q_HO257, Q_HO260, Q_HO263, Q_HO266, Q_BK228_e16, Q_X15_⟩ hb_ hon hoff; refine ⟨_, rfl, fun K hK => ?_⟩; have e35 : a.tmps[35]? = some (v262) := by rw [ha]; exact putSel_on (e := (13, 35, v262)) 10 rfl rfl (hon 13 (by kernel_rfl)) rfl
       replace ha := Aside0.mk ha; have BK227 := Aside0.mk Q_BK227; have BK228 := Aside0.mk (Q_BK228 (hoff 16 (by kernel_rfl))); have BK239 := Aside0.mk Q_BK239; have HB := Aside0.mk Q_HB; have HO242 := Aside0.mk (Q_HO242 (hon 2 (by kernel_rfl))); have HO251 := Aside0.mk (Q_HO251 (hon 5 (by kernel_rfl))); have HO257 := Aside0.mk (Q_HO257 (hon 11 (by kernel_rfl))); have HO263 := Aside0.mk (Q_HO263 (hon 13 (by kernel_rfl))); obtain ⟨Ao55, co55, eo55⟩ := Kd.N_slice HO263.out; (first | subst eo55 | (injection eo55 with f1_ f2_ f3_; have f4_ := f1_.symm; have f5_ := f3_.symm; clear f1_ f2_ f3_; subst f4_; subst f5_)); refine goes_ Try.func57 (by kernel_rfl) rfl #[.slice Ao55 y261.length co55] (by rfl) rfl rfl (by first | (simp only [List.map_toArray, List.map_cons, List.map_nil, Act.eval, Array.getD_eq_getD_getElem?, Option.getD_some, e35]; done) | (simp only [List.map_toArray, List.map_cons, List.map_nil, Act.eval, Array.getD_eq_getD_getElem?, Option.getD_some, e35]; rfl)) ?_
       with_reducible refine (slices_Concat_byte_byte.calls kj1 _ _ y261 t264 _ ?side1 ?side2 A23.out).mono ?_
       (case side1 => repeat (first | exact (Kd.N_reads' HO263.out).2.2 | (with_reducible refine Kd.C_alloc ?_ _) | (with_reducible refine Kd.C_drewN ?_ _) | (with_reducible refine Kd.C_drew ?_))); (case side2 => exact (Kd.N_reads' HO263.out).2.1); rintro e w56 ⟨v265, rfl, ho0, hb⟩; refine ⟨_, rfl, ?_⟩; replace HO242 := Aside0.mk (Kd.R_below (R_a HO242.out) hb); replace HO251 := Aside0.mk (Kd.R_below (R_a HO251.out) hb); replace HO257 := Aside0.mk (Kd.R_below (R_a HO257.out) hb); replace HO263 := Aside0.mk (Kd.N_elder' (by (with_reducible repeat (first | apply Kd.N_alloc | apply Kd.N_drewN | apply Kd.N_drew)); exact HO263.out) (Kd.R_base ho0) hb); have HO266 := Aside0.mk (Kd.R_lower ho0 (below_size below_a)); replace BK227 := Aside0.mk (blk_below (g := gb227) blk_c hb); replace BK228 := Aside0.mk (blk_below (g := gb228) blk_c hb); replace BK239 := Aside0.mk (blk_below (g := gb239) blk_c hb); replace HB := Aside0.mk (below_step below_a hb); (try clear hb); (try clear hb2); (try clear hk); (try clear hi); (try clear ho0); obtain ⟨Ao57, co57, eo57⟩ := Kd.R_slice HO266.out; (first | subst eo57 | (injection eo57 with f1_ f2_ f3_; have f4_ := f1_.symm; have f5_ := f3_.symm; clear f1_ f2_ f3_; subst f4_; subst f5_)); refine hK.out _ _ ⟨v241, v244, v247, v250, v253, v256, v259, .slice Ao55 y261.length co55, .slice Ao57 t264.length co57, m15_, (by rw [ha.out]; exact putSel_upk 11 hb_ rfl rfl rfl), fun h0_ => absurd ((hon 13 (by kernel_rfl)).symm.trans h0_) (by decide), blk_a, fun _ => blk_a, blk_a, below_a, fun _ => (by (with_reducible repeat (first | apply Kd.R_alloc | apply Kd.R_drewN | apply Kd.R_drew)); exact Kd.R_mono HO242.out (fun _ hk => by (try dsimp only at hk); simp only [hk, ne_eq, not_false_eq_true, and_self, and_true, true_and])), fun _ h1_ => absurd ((hon 13 (by kernel_rfl)).symm.trans h1_) (by decide), fun _ h1_ => absurd ((hon 13 (by kernel_rfl)).symm.trans h1_) (by decide), fun _ => (by (with_reducible repeat (first | apply Kd.R_alloc | apply Kd.R_drewN | apply Kd.R_drew)); exact Kd.R_mono HO251.out (fun _ hk => by (try dsimp only at hk); simp only [hk, ne_eq, not_false_eq_true, and_self, and_true, true_and])), fun _ h1_ => absurd ((hon 13 (by kernel_rfl)).symm.trans h1_) (by decide), fun _ => (by (with_reducible repeat (first | apply Kd.R_alloc | apply Kd.R_drewN | apply Kd.R_drew)); exact Kd.R_mono HO257.out (fun _ hk => by (try dsimp only at hk); simp only [hk, ne_eq, not_false_eq_true, and_self, and_true, true_and])), fun _ h1_ => absurd ((hon 13 (by kernel_rfl)).symm.trans h1_) (by decide), fun _ => (by (with_reducible repeat (first | apply Kd.N_alloc | apply Kd.N_drewN | apply Kd.N_drew)); exact Kd.N_mono HO263.out (fun _ hk => by (try dsimp only at hk); simp only [hk, ne_eq, not_false_eq_true, and_self, and_true, true_and])), fun _ => (by (with_reducible repeat (first | apply Kd.R_alloc | apply Kd.R_drewN | apply Kd.R_drew)); exact Kd.R_mono HO266.out (fun _ hk => by (try dsimp only at hk); simp only [hk, ne_eq, not_false_eq_true, and_self, and_true, true_and])), fun h0_ => absurd ((hoff 16 (by kernel_rfl)).symm.trans h0_) (by decide), fun h0_ => absurd ((hoff 15 (by kernel_rfl)).symm.trans h0_) (by decide)⟩
      refine steps_cons ?_ ?_
      ·
       rintro b a w' ⟨v241, v244, v247, v250, v253, v256, v259, v262, v265, m15_, ha, Q_HO238, Q_BK227, Q_BK228, Q_BK239, Q_HB, Q_HO242, Q_HO245, Q_HO248, Q_HO251, Q_HO254, Q_HO257, Q_HO260, Q_HO263, Q_HO266, Q_BK228_e16, Q_X15_⟩ hb_ hon hoff; refine ⟨_, rfl, fun K hK => ?_⟩; have e36 : a.tmps[36]? = some (v265) := by rw [ha]; exact putSel_on (e := (14, 36, v265)) 11 rfl rfl (hon 14 (by kernel_rfl)) rfl
       replace ha := Aside0.mk ha; have BK227 := Aside0.mk Q_BK227; have BK228 := Aside0.mk (Q_BK228 (hoff 16 (by kernel_rfl))); have BK239 := Aside0.mk Q_BK239; have HB := Aside0.mk Q_HB; have HO242 := Aside0.mk (Q_HO242 (hon 2 (by kernel_rfl))); have HO251 := Aside0.mk (Q_HO251 (hon 5 (by kernel_rfl))); have HO257 := Aside0.mk (Q_HO257 (hon 11 (by kernel_rfl))); have HO263 := Aside0.mk (Q_HO263 (hon 13 (by kernel_rfl))); have HO266 := Aside0.mk (Q_HO266 (hon 14 (by kernel_rfl))); obtain ⟨Ao15_0, co15_0, eo_⟩ := Kd.R_slice HO266.out; subst eo_; refine value_ (w1 := w') (v := .agg #[.int .i64 0, .slice Ao15_0 t264.length co15_0]) (by rfl) rfl ?_ ?_
       ·
        go_simp
        (try simp only [i64_w])
        try rfl
       refine hK.out _ _ ⟨v241, v244, v247, v250, v253, v256, v259, v262, .slice Ao15_0 t264.length co15_0, (.agg #[.int .i64 0, .slice Ao15_0 t264.length co15_0]), (by rw [ha.out]; exact putSel_upk 12 hb_ rfl rfl rfl), fun h0_ => absurd ((hon 13 (by kernel_rfl)).symm.trans h0_) (by decide), Q_BK227, Q_BK228, Q_BK239, Q_HB, Q_HO242, fun _ h1_ => absurd ((hon 13 (by kernel_rfl)).symm.trans h1_) (by decide), fun _ h1_ => absurd ((hon 13 (by kernel_rfl)).symm.trans h1_) (by decide), Q_HO251, fun _ h1_ => absurd ((hon 13 (by kernel_rfl)).symm.trans h1_) (by decide), Q_HO257, fun _ h1_ => absurd ((hon 13 (by kernel_rfl)).symm.trans h1_) (by decide), Q_HO263, Q_HO266, fun h0_ => absurd ((hoff 16 (by kernel_rfl)).symm.trans h0_) (by decide), fun _ => rfl⟩
      refine steps_cons ?_ ?_
      ·
       rintro b a w' ⟨v241, v244, v247, v250, v253, v256, v259, v262, v265, m15_, ha, Q_HO238, Q_BK227, Q_BK228, Q_BK239, Q_HB, Q_HO242, Q_HO245, Q_HO248, Q_HO251, Q_HO254, Q_HO257, Q_HO260, Q_HO263, Q_HO266, Q_BK228_e16, Q_X15_⟩ hb_ hon hoff; refine ⟨_, rfl, fun K hK => ?_⟩; have e2 : a.tmps[2]? = some (.pointer (some ⟨gb228, 0, none⟩)) := by rw [ha]; exact (putSel_off rfl).trans rfl
       have e37 : a.tmps[37]? = some (m15_) := by rw [ha]; exact putSel_on (e := (15, 37, m15_)) 12 rfl rfl (hon 15 (by kernel_rfl)) rfl
       rw [Q_X15_ (hon 15 (by kernel_rfl))] at e37; replace ha := Aside0.mk ha; have BK227 := Aside0.mk Q_BK227; have BK228 := Aside0.mk (Q_BK228 hb_); have BK239 := Aside0.mk Q_BK239; have HB := Aside0.mk Q_HB; have HO242 := Aside0.mk (Q_HO242 (hon 2 (by kernel_rfl))); have HO251 := Aside0.mk (Q_HO251 (hon 5 (by kernel_rfl))); have HO257 := Aside0.mk (Q_HO257 (hon 11 (by kernel_rfl))); have HO263 := Aside0.mk (Q_HO263 (hon 13 (by kernel_rfl))); have HO266 := Aside0.mk (Q_HO266 (hon 14 (by kernel_rfl))); obtain ⟨Ao58, co58, eo58⟩ := Kd.R_slice HO266.out; (first | subst eo58 | (injection eo58 with f1_ f2_ f3_; have f4_ := f1_.symm; have f5_ := f3_.symm; clear f1_ f2_ f3_; subst f4_; subst f5_)); have hs59 : w'.cell? ⟨gb228, 0, none⟩ = some (.int .i64 0) := (blk_cell BK228.out 0).trans rfl; have hfs59 := blk_frozen BK228.out 0; have hns59_0 := NB227_228.out; have hns59_2 := NB239_228.out; have hms59_0 := NB228_227.out; have hms59_2 := NB228_239.out; have hs60 : w'.cell? ⟨gb228, 1, none⟩ = some (.slice none 0 0) := (blk_cell BK228.out 1).trans rfl; have hfs60 := blk_frozen BK228.out 1; have hns60_0 := NB227_228.out; have hns60_2 := NB239_228.out; have hms60_0 := NB228_227.out; have hms60_2 := NB228_239.out; refine skip_ (w1 := ?_) (by rfl) rfl ?_ ?_; rotate_left
       ·
        go_simp
        rfl
       refine hK.out _ _ ⟨v241, v244, v247, v250, v253, v256, v259, v262, .slice Ao58 t264.length co58, m15_, (by rw [ha.out]; exact putSel_none (v := undef) rfl), fun h0_ => absurd ((hon 13 (by kernel_rfl)).symm.trans h0_) (by decide), blk_a, fun h0_ => absurd ((up_self b 16).symm.trans h0_) (by decide), blk_a, below_a, fun _ => (by (with_reducible repeat (first | apply Kd.R_alloc | apply Kd.R_drewN | apply Kd.R_drew)); exact Kd.R_mono (Kd.R_far (p := ⟨gb228, 1, none⟩) (Kd.R_far (p := ⟨gb228, 0, none⟩) (Kd.R_types HO242.out BK228.out (by decide)) (fun _ hk => hk.2) (.int .i64 0)) (fun _ hk => hk.2) (.slice Ao58 t264.length co58)) (fun _ hk => by (try dsimp only at hk); simp only [hk, ne_eq, not_false_eq_true, and_self, and_true, true_and])), fun _ h1_ => absurd ((hon 13 (by kernel_rfl)).symm.trans h1_) (by decide), fun _ h1_ => absurd ((hon 13 (by kernel_rfl)).symm.trans h1_) (by decide), fun _ => (by (with_reducible repeat (first | apply Kd.R_alloc | apply Kd.R_drewN | apply Kd.R_drew)); exact Kd.R_mono (Kd.R_far (p := ⟨gb228, 1, none⟩) (Kd.R_far (p := ⟨gb228, 0, none⟩) (Kd.R_types HO251.out BK228.out (by decide)) (fun _ hk => hk.2) (.int .i64 0)) (fun _ hk => hk.2) (.slice Ao58 t264.length co58)) (fun _ hk => by (try dsimp only at hk); simp only [hk, ne_eq, not_false_eq_true, and_self, and_true, true_and])), fun _ h1_ => absurd ((hon 13 (by kernel_rfl)).symm.trans h1_) (by decide), fun _ => (by (with_reducible repeat (first | apply Kd.R_alloc | apply Kd.R_drewN | apply Kd.R_drew)); exact Kd.R_mono (Kd.R_far (p := ⟨gb228, 1, none⟩) (Kd.R_far (p := ⟨gb228, 0, none⟩) (Kd.R_types HO257.out BK228.out (by decide)) (fun _ hk => hk.2) (.int .i64 0)) (fun _ hk => hk.2) (.slice Ao58 t264.length co58)) (fun _ hk => by (try dsimp only at hk); simp only [hk, ne_eq, not_false_eq_true, and_self, and_true, true_and])), fun _ h1_ => absurd ((hon 13 (by kernel_rfl)).symm.trans h1_) (by decide), fun _ => (by (with_reducible repeat (first | apply Kd.N_alloc | apply Kd.N_drewN | apply Kd.N_drew)); exact Kd.N_mono (Kd.N_far (p := ⟨gb228, 1, none⟩) (Kd.N_far (p := ⟨gb228, 0, none⟩) (Kd.N_mono HO263.out (fun k_ hk => (⟨hk, by (try dsimp only at hk); simp only [hk, ne_eq, not_false_eq_true]⟩ : _ ∧ k_ ≠ gb228))) (fun _ hk => hk.2) (.int .i64 0)) (fun _ hk => hk.2) (.slice Ao58 t264.length co58)) (fun _ hk => by (try dsimp only at hk); simp only [hk, ne_eq, not_false_eq_true, and_self, and_true, true_and])), fun _ => (by (with_reducible repeat (first | apply Kd.R_alloc | apply Kd.R_drewN | apply Kd.R_drew)); exact Kd.R_mono (Kd.R_far (p := ⟨gb228, 1, none⟩) (Kd.R_far (p := ⟨gb228, 0, none⟩) (Kd.R_types HO266.out BK228.out (by decide)) (fun _ hk => hk.2) (.int .i64 0)) (fun _ hk => hk.2) (.slice Ao58 t264.length co58)) (fun _ hk => by (try dsimp only at hk); simp only [hk, ne_eq, not_false_eq_true, and_self, and_true, true_and])), fun _ => blk_a, Q_X15_⟩
      exact steps_nil
     rintro b a w59 hall ⟨v241, v244, v247, v250, v253, v256, v259, v262, v265, m15_, ha, Q_HO238, Q_BK227, Q_BK228, Q_BK239, Q_HB, Q_HO242, Q_HO245, Q_HO248, Q_HO251, Q_HO254, Q_HO257, Q_HO260, Q_HO263, Q_HO266, Q_BK228_e16, Q_X15_⟩; clear BK227 BK228 BK239 HB HO238; have hb1_ := hall 1 (by kernel_rfl); have hb2_ := hall 2 (by kernel_rfl); have hb3_ := hall 3 (by kernel_rfl); have hb4_ := hall 4 (by kernel_rfl); have hb5_ := hall 5 (by kernel_rfl); have hb6_ := hall 6 (by kernel_rfl); have hb8_ := hall 8 (by kernel_rfl); have hb10_ := hall 10 (by kernel_rfl); have hb11_ := hall 11 (by kernel_rfl); have hb12_ := hall 12 (by kernel_rfl); have hb13_ := hall 13 (by kernel_rfl); have hb14_ := hall 14 (by kernel_rfl); have hb15_ := hall 15 (by kernel_rfl); have hb16_ := hall 16 (by kernel_rfl); subst ha; obtain rfl := Q_X15_ hb15_; simp only [putSel, hb1_, hb2_, hb3_, hb4_, hb5_, hb6_, hb8_, hb10_, hb11_, hb12_, hb13_, hb14_, hb15_, hb16_, if_true, Act.put, List.setIfInBounds_toArray, List.set_cons_zero, List.set_cons_succ]; clear Q_HO238; have BK227 := Aside0.mk Q_BK227; clear Q_BK227 Q_BK228; have BK239 := Aside0.mk Q_BK239; clear Q_BK239; have HB := Aside0.mk Q_HB; clear Q_HB; have HO242 := Aside0.mk (Q_HO242 hb2_); clear Q_HO242 Q_HO245 Q_HO248; have HO251 := Aside0.mk (Q_HO251 hb5_); clear Q_HO251 Q_HO254; have HO257 := Aside0.mk (Q_HO257 hb11_); clear Q_HO257 Q_HO260; have HO263 := Aside0.mk (Q_HO263 hb13_); clear Q_HO263; have HO266 := Aside0.mk (Q_HO266 hb14_); clear Q_HO266; have BK228 := Aside0.mk (Q_BK228_e16 hb16_); clear Q_BK228_e16 hall hb1_ hb2_ hb3_ hb4_ hb5_ hb6_ hb8_ hb10_ hb11_ hb12_ hb13_ hb14_ hb15_ hb16_; obtain ⟨Ao60, co60, eo60⟩ := Kd.R_slice HO266.out; (first | subst eo60 | (injection eo60 with f1_ f2_ f3_; have f4_ := f1_.symm; have f5_ := f3_.symm; clear f1_ f2_ f3_; subst f4_; subst f5_))
     try go_wp2
     refine bodyPost_ret (results_cell_row rfl _ _ gb228 26 #[.int .i64 0, .slice Ao60 t264.length co60] (0, 0) _ rfl blk_a Try.underlying26 rfl (by kernel_rfl)) rfl ?_; exact ⟨_, eq_a, R_a HO266.out, below_a⟩
    ·
     rw [if_neg c19] at H; have c19b0 : (t235 == 0) = false := beq_eq_false_iff_ne.mpr c19; have c19b1 : (t235 != 0) = true := bne_iff_ne.mpr c19; simp only [Option.some.injEq, Prod.mk.injEq] at H; obtain ⟨rfl, rfl⟩ := H; have hnb61 := NB227_228.out; have hnc61 := NB228_227.out; obtain ⟨hcz62_0, hcz62_1, hcz62_2, hfz62_0, hfz62_1, hfz62_2⟩ := bc3_ BK227.out
     go_wp2_with (first | ((with_reducible refine gate_callee (f := 11) rfl ?_); refine goesL_ (some 17) rfl rfl Try.func11 (by kernel_rfl) rfl #[.slice A0_1 l0_1.length c0_1] rfl args_a ?_; (with_reducible refine (impl_EncodeName.calls kj1 _ _ l0_1 t235 t236 _ ?side1 ?side2 A18.out).mono ?_); (case side1 => repeat (first | exact (Kd.C_below HR0_1.out HB.out) | (with_reducible refine Kd.C_alloc ?_ _) | (with_reducible refine Kd.C_drewN ?_ _) | (with_reducible refine Kd.C_drew ?_))); (case side2 => exact HC0_1.out); rintro e w63 ⟨v237, rfl, ho0, hb⟩; refine ⟨_, rfl, ?_⟩; have HO238 := Aside0.mk (Kd.R_lower ho0 (below_size below_a)); replace BK227 := Aside0.mk (blk_below (g := gb227) blk_c hb); replace BK228 := Aside0.mk (blk_below (g := gb228) blk_c hb); replace HB := Aside0.mk (below_step below_a hb); (try clear hb); (try clear hb2); (try clear hk); (try clear hi); (try clear ho0)) | ((with_reducible refine gate_dst (N := 3) rfl ?_); refine box_event ?hg (N := 3) ?hd (cs := #[.int .i64 0, .slice none 0 0]) (t := 26) ?hr ?_; (case hd => rfl); (case hg => rfl); (case hr => first | (go_simp; done) | (go_simp; rfl)); intro gb239 hg w64 hbox hb; replace HO238 := Aside0.mk (Kd.R_below (R_a HO238.out) hb); have n1_ := Aside0.mk (blk_below (g := gb227) blk_c hb); have n2_ := Aside0.mk (blk_below (g := gb228) blk_c hb); have n3_ := Aside0.mk (below_step below_a hb); have BK239 := Aside0.mk (hbox); have GW239 := Aside0.mk (bsz_ (w := w) hg); have GE239 := Aside0.mk (bsz_ (w := w) hg); have NB227_239 := Aside0.mk (bne_ (g := gb227) hg); have NB239_227 := Aside0.mk (bne_ (g := gb227) hg).symm; have NB228_239 := Aside0.mk (bne_ (g := gb228) hg); have NB239_228 := Aside0.mk (bne_ (g := gb228) hg).symm; replace BK227 := n1_; replace BK228 := n2_; replace HB := n3_; clear n1_ n2_ n3_; clear hb hbox hg; have hnb65 := NB239_227.out; have hnc65 := NB227_239.out; have hnb66 := NB239_228.out; have hnc66 := NB228_239.out; obtain ⟨hcz67_0, hcz67_1, hfz67_0, hfz67_1⟩ := bc2_ BK239.out; obtain ⟨Ao68, co68, eo68⟩ := Kd.R_slice HO238.out; subst eo68; obtain ⟨hcz69_0, hcz69_1, hfz69_0, hfz69_1⟩ := bc2_ BK228.out))
     refine bodyPost_ret (results_cell_row rfl _ _ gb228 26 #[.int .i64 t235, .slice Ao68 t236.length co68] (0, 0) _ rfl (by (with_reducible repeat (first | refine blk_drewN ?_ _ | refine blk_drew ?_ | refine blk_alloc ?_ _)); refine blk_put (cs := #[.int .i64 t235, .slice none 0 0]) ?_ 1 _ rfl; (with_reducible repeat (first | refine blk_drewN ?_ _ | refine blk_drew ?_ | refine blk_alloc ?_ _)); refine blk_put (cs := #[.int .i64 0, .slice none 0 0]) ?_ 0 _ rfl; (with_reducible repeat (first | refine blk_drewN ?_ _ | refine blk_drew ?_ | refine blk_alloc ?_ _)); refine blk_far ?_ NB228_239.out _; (with_reducible repeat (first | refine blk_drewN ?_ _ | refine blk_drew ?_ | refine blk_alloc ?_ _)); refine blk_far ?_ NB228_239.out _; (with_reducible repeat (first | refine blk_drewN ?_ _ | refine blk_drew ?_ | refine blk_alloc ?_ _)); exact BK228.out) Try.underlying26 rfl (by kernel_rfl)) rfl ?_; exact ⟨_, eq_a, by (with_reducible repeat (first | apply Kd.R_alloc | apply Kd.R_drewN | apply Kd.R_drew)); exact Kd.R_mono (Kd.R_far (p := ⟨gb228, 1, none⟩) (Kd.R_far (p := ⟨gb228, 0, none⟩) (Kd.R_far (p := ⟨gb239, 1, none⟩) (Kd.R_far (p := ⟨gb239, 0, none⟩) (Kd.R_types (Kd.R_types HO238.out BK239.out (by decide)) BK228.out (by decide)) (fun _ hk => hk.1.2) (.int .i64 t235)) (fun _ hk => hk.1.2) (.slice Ao68 t236.length co68)) (fun _ hk => hk.2) (.int .i64 t235)) (fun _ hk => hk.2) (.slice Ao68 t236.length co68)) (fun _ hk => trivial), below_a⟩

/-! ### impl_noInt: function 71 -/
def impl_noInt.f (a0 : Int) : Option (Int × Int) := some (a0, 0)
set_option maxHeartbeats 8000000 in
set_option maxRecDepth 100000 in
theorem impl_noInt.calls (a0 : Int) (r1 : Int) (r2 : Int) (w : World) (h : impl_noInt.f a0 = some (r1, r2)) :
  Calls Try.prog 71 #[.int .i64 a0] w fun e w' => e = .returned (.agg #[.int .i64 r1, .int .i64 r2]) ∧ Below w.heap.size w w' := by
 have hu96 := Try.underlying96
 have HB := Aside0.mk (Below.refl w.heap.size w)
 have H : (some (a0, 0)) = some (r1, r2) := h
 clear h
 simp only [Option.some.injEq, Prod.mk.injEq] at H
 obtain ⟨rfl, rfl⟩ := H
 go_enter Try.func71, Try.ntmps71
 go_wp2_with (first | ((with_reducible refine gate_dst (N := 2) rfl ?_); refine box_event ?hg (N := 2) ?hd (cs := #[.int .i64 0, .int .i64 0]) (t := 96) ?hr ?_; (case hd => rfl); (case hg => rfl); (case hr => first | (go_simp; done) | (go_simp; rfl)); intro gb267 hg w2 hbox hb; have n0_ := Aside0.mk (below_step below_a hb); have BK267 := Aside0.mk (hbox); have GW267 := Aside0.mk (bsz_ (w := w) hg); have GE267 := Aside0.mk (bsz_ (w := w) hg); replace HB := n0_; clear n0_; clear hb hbox hg; obtain ⟨hcz3_0, hcz3_1, hfz3_0, hfz3_1⟩ := bc2_ BK267.out))
 refine bodyPost_ret (results_cell_row rfl _ _ gb267 96 #[.int .i64 a0, .int .i64 0] (0, 0) _ rfl blk_a Try.underlying96 rfl (by kernel_rfl)) rfl ?_
 exact ⟨eq_a, below_a⟩

/-! ### impl_ReadWord: function 69 -/
mutual
def impl_ReadWord.j0 : Nat → List Int → Int → Int → Bool → Option (Int × Int)
 | 0, _, _, _, _ => none
 | k + 1, x0, x1, x2, x30 => if x30 = true then ((impl_noInt.f 3).bind fun bt270 => (some (bt270.1, bt270.2))) else (if 0 ≤ x1 then (if x1 ≤ (wrap64 (x1 + x2)) then (if (wrap64 (x1 + x2)) ≤ (x0.length : Int) then (impl_ReadWord.l0 k 0 ((x0.take ((wrap64 (x1 + x2)) : Int).toNat).drop (x1 : Int).toNat) (((x0.take ((wrap64 (x1 + x2)) : Int).toNat).drop (x1 : Int).toNat).length : Int) 0) else (none)) else (none)) else (none))
def impl_ReadWord.l0 : Nat → Int → List Int → Int → Int → Option (Int × Int)
 | 0, _, _, _, _ => none
 | k + 1, x7, x37, x38, x39 => if x39 < x38 then (if 0 ≤ x39 then (if x39 < (x37.length : Int) then (impl_ReadWord.l0 k (Go.bits .or .u64 (IntKind.u64.wrap (x7 * 256)) (IntKind.u64.wrap (rd x37 x39))) x37 x38 (wrap64 (x39 + 1))) else (none)) else (none)) else (if x7 > 9223372036854775807 then ((impl_noInt.f 1).bind fun bt274 => (some (bt274.1, bt274.2))) else (some (0, wrap64 (x7))))
end
def impl_ReadWord.f (k : Nat) (l0 : List Int) (a1 : Int) (a2 : Int) : Option (Int × Int) := (impl_in.f a2 1 8).bind fun t269 => (if t269 = true then (if a1 < 0 then (impl_ReadWord.j0 k l0 a1 a2 true) else (if a1 > (l0.length : Int) then (impl_ReadWord.j0 k l0 a1 a2 true) else (impl_ReadWord.j0 k l0 a1 a2 (decide ((wrap64 ((l0.length : Int) - a1)) < a2))))) else (impl_ReadWord.j0 k l0 a1 a2 true))
theorem impl_ReadWord.mono_l : ∀ k, (∀ y0 y1 y2 y3, LeO (impl_ReadWord.j0 k y0 y1 y2 y3) (impl_ReadWord.j0 (k + 1) y0 y1 y2 y3)) ∧ (∀ y0 y1 y2 y3, LeO (impl_ReadWord.l0 k y0 y1 y2 y3) (impl_ReadWord.l0 (k + 1) y0 y1 y2 y3))
 | 0 => ⟨fun _ _ _ _ r h => by simp [impl_ReadWord.j0] at h, fun _ _ _ _ r h => by simp [impl_ReadWord.l0] at h⟩
 | k + 1 => by
  obtain ⟨ih0, ih1⟩ := impl_ReadWord.mono_l k; refine ⟨?_, ?_⟩
  ·
   intro y0 y1 y2 y3
   unfold impl_ReadWord.j0
   repeat' first
   | (with_reducible exact ih0 _ _ _ _)
   | (with_reducible exact ih1 _ _ _ _)
   | (with_reducible exact LeO.refl _)
   | (with_reducible exact LeO.none _)
   | (with_reducible refine LeO.ite ?_ ?_)
   | (with_reducible refine LeO.bind ?_ (fun _ => ?_))
   | exact ih0 _ _ _ _
   | exact ih1 _ _ _ _
   | exact LeO.none _
   | refine LeO.ite ?_ ?_
   | refine LeO.bind ?_ (fun _ => ?_)
  ·
   intro y0 y1 y2 y3
   unfold impl_ReadWord.l0
   repeat' first
   | (with_reducible exact ih0 _ _ _ _)
   | (with_reducible exact ih1 _ _ _ _)
   | (with_reducible exact LeO.refl _)
   | (with_reducible exact LeO.none _)
   | (with_reducible refine LeO.ite ?_ ?_)
   | (with_reducible refine LeO.bind ?_ (fun _ => ?_))
   | exact ih0 _ _ _ _
   | exact ih1 _ _ _ _
   | exact LeO.none _
   | refine LeO.ite ?_ ?_
   | refine LeO.bind ?_ (fun _ => ?_)
theorem impl_ReadWord.mono : ∀ a0 a1 a2 k, LeO (impl_ReadWord.f k a0 a1 a2) (impl_ReadWord.f (k + 1) a0 a1 a2) := by
 intro a0 a1 a2 k
 obtain ⟨ih0, ih1⟩ := impl_ReadWord.mono_l k
 unfold impl_ReadWord.f
 repeat' first
   | (with_reducible exact ih0 _ _ _ _)
   | (with_reducible exact ih1 _ _ _ _)
   | (with_reducible exact LeO.refl _)
   | (with_reducible exact LeO.none _)
   | (with_reducible refine LeO.ite ?_ ?_)
   | (with_reducible refine LeO.bind ?_ (fun _ => ?_))
   | exact ih0 _ _ _ _
   | exact ih1 _ _ _ _
   | exact LeO.none _
   | refine LeO.ite ?_ ?_
   | refine LeO.bind ?_ (fun _ => ?_)
set_option maxHeartbeats 8000000 in
set_option maxRecDepth 100000 in
theorem impl_ReadWord.calls (k : Nat) (A0 : Option Addr) (c0 : Nat) (l0 : List Int) (a1 : Int) (a2 : Int) (r1 : Int) (r2 : Int) (w : World) (hr0 : Kd.C (Kd.int .u8) w A0 l0.length l0) (hc0 : l0.length ≤ c0) (h : impl_ReadWord.f k l0 a1 a2 = some (r1, r2)) :
  Calls Try.prog 69 #[.slice A0 l0.length c0, .int .i64 a1, .int .i64 a2] w fun e w' => e = .returned (.agg #[.int .i64 r1, .int .i64 r2]) ∧ Below w.heap.size w w' := by
 have hu96 := Try.underlying96
 have HR0 := Aside0.mk hr0
 have HC0 := Aside0.mk hc0
 clear hr0 hc0
 have HB := Aside0.mk (Below.refl w.heap.size w)
 have H : ((impl_in.f a2 1 8).bind fun t269 => (if t269 = true then (if a1 < 0 then (impl_ReadWord.j0 k l0 a1 a2 true) else (if a1 > (l0.length : Int) then (impl_ReadWord.j0 k l0 a1 a2 true) else (impl_ReadWord.j0 k l0 a1 a2 (decide ((wrap64 ((l0.length : Int) - a1)) < a2))))) else (impl_ReadWord.j0 k l0 a1 a2 true))) = some (r1, r2) := h
 clear h
 have HC4 := Aside0.mk H
 clear H
 go_enter Try.func69, Try.ntmps69
 go_upto_region 1 with (first | ((with_reducible refine gate_dst (N := 6) rfl ?_); (try (refine gate_guard (by rfl) ?_; dsimp only)); refine box_event ?hg (N := 6) ?hd (cs := #[.int .i64 0, .int .i64 0]) (t := 96) ?hr ?_; (case hd => rfl); (case hg => rfl); (case hr => first | (go_simp; done) | (go_simp; rfl)); intro gb268 hg w5 hbox hb; have n0_ := Aside0.mk (below_step below_a hb); have BK268 := Aside0.mk (hbox); have GW268 := Aside0.mk (bsz_ (w := w) hg); have GE268 := Aside0.mk (bsz_ (w := w) hg); replace HB := n0_; clear n0_; clear hb hbox hg))
 (try simp only [Act.put, List.setIfInBounds_toArray, List.set_cons_zero, List.set_cons_succ])
 go_cut [30] (fun v30 wc => ∃ (kq : Nat) (x30_3 : Bool), v30 = .bool x30_3 ∧ Aside0 (impl_ReadWord.j0 kq l0 a1 a2 x30_3 = some (r1, r2)) ∧ Aside0 (kq ≤ k) ∧ Aside0 (wc.heap[gb268]? = some (.cells #[.int .i64 0, .int .i64 0] 96 (0, 0))) ∧ Aside0 (Below w.heap.size w wc))
 case first =>
  have H := HC4.out; clear HC4; replace H := Option.bind_eq_some_iff.mp H; obtain ⟨t269, A60, H⟩ := H; replace H : (if t269 = true then (if a1 < 0 then (impl_ReadWord.j0 k l0 a1 a2 true) else (if a1 > (l0.length : Int) then (impl_ReadWord.j0 k l0 a1 a2 true) else (impl_ReadWord.j0 k l0 a1 a2 (decide ((wrap64 ((l0.length : Int) - a1)) < a2))))) else (impl_ReadWord.j0 k l0 a1 a2 true)) = some (r1, r2) := H; have A6 := Aside0.mk A60; clear A60
  by_cases c7 : t269 = true
  ·
   subst c7; have H1 : (if a1 < 0 then (impl_ReadWord.j0 k l0 a1 a2 true) else (if a1 > (l0.length : Int) then (impl_ReadWord.j0 k l0 a1 a2 true) else (impl_ReadWord.j0 k l0 a1 a2 (decide ((wrap64 ((l0.length : Int) - a1)) < a2))))) = some (r1, r2) := by rw [if_pos rfl] at H; exact H
   clear H; have H := H1; clear H1
   by_cases c8 : a1 < 0
   ·
    rw [if_pos c8] at H; have c8b0 : decide (a1 < 0) = true := decide_eq_true c8; clear c8; (first | rw [c8b0] | (simp only [i64_w, i32_w]; rw [c8b0]) | skip); have H' := Aside0.mk H; clear H
    go_wp2_with (first | ((with_reducible refine gate_callee (f := 47) rfl ?_); refine goesL_ (some 11) rfl rfl Try.func47 (by kernel_rfl) rfl #[.int .i64 a2, .int .i64 1, .int .i64 8] rfl args_a ?_; (with_reducible refine (impl_in.calls a2 1 8 true _ A6.out).mono ?_); rintro e w' ⟨rfl, ⟨nd, rfl⟩⟩; refine ⟨_, rfl, ?_⟩))
    go_meet
    case rel => exact ⟨_, (true), eq_b, H', ⟨by first | omega | exact Nat.le_refl _⟩, ⟨blk_a⟩, ⟨below_a⟩⟩
   ·
    rw [if_neg c8] at H; have c8b0 : decide (a1 < 0) = false := decide_eq_false c8; clear c8; (first | rw [c8b0] | (simp only [i64_w, i32_w]; rw [c8b0]) | skip)
    by_cases c9 : a1 > (l0.length : Int)
    ·
     rw [if_pos c9] at H; have c9b0 : decide ((l0.length : Int) < a1) = true := decide_eq_true c9; clear c9; have H' := Aside0.mk H; clear H
     go_wp2_with (first | ((with_reducible refine gate_callee (f := 47) rfl ?_); refine goesL_ (some 11) rfl rfl Try.func47 (by kernel_rfl) rfl #[.int .i64 a2, .int .i64 1, .int .i64 8] rfl args_a ?_; (with_reducible refine (impl_in.calls a2 1 8 true _ A6.out).mono ?_); rintro e w' ⟨rfl, ⟨nd, rfl⟩⟩; refine ⟨_, rfl, ?_⟩))
     go_meet
     case rel => exact ⟨_, (true), eq_b, H', ⟨by first | omega | exact Nat.le_refl _⟩, ⟨blk_a⟩, ⟨below_a⟩⟩
    ·
     rw [if_neg c9] at H; have c9b0 : decide ((l0.length : Int) < a1) = false := decide_eq_false c9; clear c9; have H' := Aside0.mk H; clear H
     go_wp2_with (first | ((with_reducible refine gate_callee (f := 47) rfl ?_); refine goesL_ (some 11) rfl rfl Try.func47 (by kernel_rfl) rfl #[.int .i64 a2, .int .i64 1, .int .i64 8] rfl args_a ?_; (with_reducible refine (impl_in.calls a2 1 8 true _ A6.out).mono ?_); rintro e w' ⟨rfl, ⟨nd, rfl⟩⟩; refine ⟨_, rfl, ?_⟩))
     go_meet
     case rel => exact ⟨_, (decide ((wrap64 ((l0.length : Int) - a1)) < a2)), eq_b, H', ⟨by first | omega | exact Nat.le_refl _⟩, ⟨blk_a⟩, ⟨below_a⟩⟩
  ·
   replace c7 := Bool.eq_false_iff.mpr c7; subst c7; have H1 : (impl_ReadWord.j0 k l0 a1 a2 true) = some (r1, r2) := by rw [if_neg (show ¬ (false = true) by decide)] at H; exact H
   clear H; have H := H1; clear H1; have H' := Aside0.mk H; clear H
   go_wp2_with (first | ((with_reducible refine gate_callee (f := 47) rfl ?_); refine goesL_ (some 11) rfl rfl Try.func47 (by kernel_rfl) rfl #[.int .i64 a2, .int .i64 1, .int .i64 8] rfl args_a ?_; (with_reducible refine (impl_in.calls a2 1 8 false _ A6.out).mono ?_); rintro e w' ⟨rfl, ⟨nd, rfl⟩⟩; refine ⟨_, rfl, ?_⟩))
   go_meet
   case rel => exact ⟨_, (true), eq_b, H', ⟨by first | omega | exact Nat.le_refl _⟩, ⟨blk_a⟩, ⟨below_a⟩⟩
 case rest =>
  clear HC4
  try clear p2
  try clear c4
  try clear c6
  try clear p6
  try clear c7
  try clear c8 c8b0
  try clear c9 c9b0
  obtain ⟨kq, x30_3, rfl, HA, HJ3, BK268, HB⟩ := hcut
  cases kq with
  | zero => exact absurd HA.out (by simp [impl_ReadWord.j0])
  | succ kj3 =>
   have H := HA.out; clear HA; simp only [impl_ReadWord.j0] at H
   by_cases c10 : x30_3 = true
   ·
    subst c10; have H1 : ((impl_noInt.f 3).bind fun bt270 => (some (bt270.1, bt270.2))) = some (r1, r2) := by rw [if_pos rfl] at H; exact H
    clear H; have H := H1; clear H1; replace H := Option.bind_eq_some_iff.mp H; obtain ⟨⟨t270, t271⟩, A110, H⟩ := H; replace H : (some (t270, t271)) = some (r1, r2) := H; have A11 := Aside0.mk A110; clear A110; simp only [Option.some.injEq, Prod.mk.injEq] at H; obtain ⟨rfl, rfl⟩ := H
    go_wp2_with (first | ((with_reducible refine gate_callee (f := 71) rfl ?_); refine goesL_ (some 31) rfl rfl Try.func71 (by kernel_rfl) rfl #[.int .i64 3] rfl args_a ?_; (with_reducible refine (impl_noInt.calls 3 t270 t271 _ A11.out).mono ?_); rintro e w12 ⟨rfl, hb⟩; refine ⟨_, rfl, ?_⟩; replace BK268 := Aside0.mk (blk_below (g := gb268) blk_c hb); replace HB := Aside0.mk (below_step below_a hb); (try clear hb); (try clear hb2); (try clear hk); (try clear hi); obtain ⟨hcz13_0, hcz13_1, hfz13_0, hfz13_1⟩ := bc2_ BK268.out))
    refine bodyPost_ret (results_cell_row rfl _ _ gb268 96 #[.int .i64 t270, .int .i64 t271] (0, 0) _ rfl blk_a Try.underlying96 rfl (by kernel_rfl)) rfl ?_; exact ⟨eq_a, below_a⟩
   ·
    replace c10 := Bool.eq_false_iff.mpr c10; subst c10; have H1 : (if 0 ≤ a1 then (if a1 ≤ (wrap64 (a1 + a2)) then (if (wrap64 (a1 + a2)) ≤ (l0.length : Int) then (impl_ReadWord.l0 kj3 0 ((l0.take ((wrap64 (a1 + a2)) : Int).toNat).drop (a1 : Int).toNat) (((l0.take ((wrap64 (a1 + a2)) : Int).toNat).drop (a1 : Int).toNat).length : Int) 0) else (none)) else (none)) else (none)) = some (r1, r2) := by rw [if_neg (show ¬ (false = true) by decide)] at H; exact H
    clear H; have H := H1; clear H1
    by_cases c14 : 0 ≤ a1
    ·
     rw [if_pos c14] at H; have c14b0 := eq_true c14; have c14b1 : decide (0 ≤ a1) = true := decide_eq_true c14; clear c14
     by_cases c15 : a1 ≤ (wrap64 (a1 + a2))
     ·
      rw [if_pos c15] at H; have c15b0 := eq_true c15; have c15b1 : decide (a1 ≤ (wrap64 (a1 + a2))) = true := decide_eq_true c15
      by_cases c16 : (wrap64 (a1 + a2)) ≤ (l0.length : Int)
      ·
       rw [if_pos c16] at H; have c16b0 := eq_true c16; have c16b1 : decide ((wrap64 (a1 + a2)) ≤ (l0.length : Int)) = true := decide_eq_true c16; have H' := Aside0.mk H; clear H; obtain ⟨i017, hi017, _, hsz17, _⟩ := info_parts info5; obtain ⟨A17, hcut17, hA17, hC17⟩ := print_mid_of (P := Try.prog) (Value.int .u8) 0 24 5 .i64 .i64 Try.underlying24 hi017 hsz17 A0 c0 l0 a1 (wrap64 (a1 + a2)) (of_decide_eq_true (by first | (with_reducible assumption) | assumption)) (by first | omega | exact of_decide_eq_true (by first | (with_reducible assumption) | assumption)) (of_decide_eq_true (by first | (with_reducible assumption) | assumption)) HC0.out; have HR272 := Aside0.mk (Kd.C_of_reads (h1 := fun _ => rfl) (hA17 _ (Kd.reads_of_C HR0.out))); have HC272 := Aside0.mk hC17; clear hA17 hC17 hi017 hsz17; have HLN272 := Aside0.mk (show ((l0.take ((wrap64 (a1 + a2)) : Int).toNat).drop (a1 : Int).toNat).length = (wrap64 (a1 + a2)).toNat - a1.toNat from by have h_ : ((wrap64 (a1 + a2)) : Int) ≤ (l0.length : Int) := of_decide_eq_true (by first | (with_reducible assumption) | assumption); rw [List.length_drop, List.length_take]; omega)
       go_wp2
       go_loopg [7, 39] kj3 (fun kq v7 v39 w' => ∃ (x7_2 : Int) (x39_2 : Int), v7 = .int .u64 x7_2 ∧ v39 = .int .i64 x39_2 ∧ Aside0 (impl_ReadWord.l0 kq x7_2 ((l0.take ((wrap64 (a1 + a2)) : Int).toNat).drop (a1 : Int).toNat) (((l0.take ((wrap64 (a1 + a2)) : Int).toNat).drop (a1 : Int).toNat).length : Int) x39_2 = some (r1, r2)) ∧ Aside0 (kq ≤ kj3) ∧ Aside0 (w'.heap[gb268]? = some (.cells #[.int .i64 0, .int .i64 0] 96 (0, 0))) ∧ Aside0 (Below w.heap.size w w'))
       case atStart => exact ⟨(0), (0), eq_b, eq_b, H', ⟨Nat.le_refl _⟩, ⟨blk_a⟩, ⟨below_a⟩⟩
       case round =>
        clear H'
        try clear c1
        try clear p2 p2
        try clear c4
        try clear c6
        try clear p6 p6
        try clear c7
        try clear c8 c8b0
        try clear c9 c9b0
        try clear c10
        try clear c14 c14b0 c14b1
        try clear c15 c15b0 c15b1
        try clear c16 c16b0 c16b1
        try clear hcz13_0 hcz13_1
        try clear hfz13_0 hfz13_1
        obtain ⟨x7_2, x39_2, rfl, rfl, HA, HK2, BK268, HB⟩ := hrel
        cases gk with
        | zero => exact absurd HA.out (by simp [impl_ReadWord.l0])
        | succ k2 =>
         have H := HA.out; clear HA; simp only [impl_ReadWord.l0] at H
         by_cases c18 : x39_2 < (((l0.take ((wrap64 (a1 + a2)) : Int).toNat).drop (a1 : Int).toNat).length : Int)
         ·
          rw [if_pos c18] at H; have c18b0 : decide (x39_2 < (((l0.take ((wrap64 (a1 + a2)) : Int).toNat).drop (a1 : Int).toNat).length : Int)) = true := decide_eq_true c18; (try (have c18b1 : decide (x39_2 < (((wrap64 (a1 + a2)).toNat - a1.toNat : Nat) : Int)) = true := by rw [← HLN272.out]; exact decide_eq_true c18)); (try (have c18b2 : (x39_2 < (((wrap64 (a1 + a2)).toNat - a1.toNat : Nat) : Int)) = True := by rw [← HLN272.out]; exact eq_true (of_decide_eq_true (decide_eq_true c18)))); (try (have c18b3 : decide (x39_2 < (((l0.take ((IntKind.i64.wrap (a1 + a2)) : Int).toNat).drop (a1 : Int).toNat).length : Int)) = true := by simp only [i64_w]; exact decide_eq_true c18)); clear c18
          by_cases c19 : 0 ≤ x39_2
          ·
           rw [if_pos c19] at H; have c19b0 : decide (0 ≤ x39_2) = true := decide_eq_true c19; clear c19
           by_cases c20 : x39_2 < (((l0.take ((wrap64 (a1 + a2)) : Int).toNat).drop (a1 : Int).toNat).length : Int)
           ·
            rw [if_pos c20] at H; have c20b0 : decide (x39_2 < (((l0.take ((wrap64 (a1 + a2)) : Int).toNat).drop (a1 : Int).toNat).length : Int)) = true := decide_eq_true c20; (try (have c20b1 : decide (x39_2 < (((wrap64 (a1 + a2)).toNat - a1.toNat : Nat) : Int)) = true := by rw [← HLN272.out]; exact decide_eq_true c20)); (try (have c20b2 : (x39_2 < (((wrap64 (a1 + a2)).toNat - a1.toNat : Nat) : Int)) = True := by rw [← HLN272.out]; exact eq_true (of_decide_eq_true (decide_eq_true c20)))); (try (have c20b3 : decide (x39_2 < (((l0.take ((IntKind.i64.wrap (a1 + a2)) : Int).toNat).drop (a1 : Int).toNat).length : Int)) = true := by simp only [i64_w]; exact decide_eq_true c20)); clear c20; have H' := Aside0.mk H; clear H; have p273 : 0 ≤ (x39_2 : Int) := of_decide_eq_true (by first | (with_reducible assumption) | assumption); have q273 : x39_2 < (((l0.take ((wrap64 (a1 + a2)) : Int).toNat).drop (a1 : Int).toNat).length : Int) := of_decide_eq_true (by first | (with_reducible assumption) | assumption); obtain ⟨ad273, e273, hx273_0⟩ := Kd.at_int HR272.out x39_2 p273 q273
            cases e273
            replace hx273_0 := (HB.out.cell (World.block_lt_of_cell? w _ hx273_0)).trans hx273_0; replace p273 := eq_true p273; replace q273 := eq_true q273
            go_wp2
            go_roundg k2
            case measure => have := HJ3.out; have := HK2.out; omega
            case rel => exact ⟨(Go.bits .or .u64 (IntKind.u64.wrap (x7_2 * 256)) (IntKind.u64.wrap (rd ((l0.take ((wrap64 (a1 + a2)) : Int).toNat).drop (a1 : Int).toNat) x39_2))), (wrap64 (x39_2 + 1)), eq_b, eq_b, H', ⟨by have := HJ3.out; have := HK2.out; omega⟩, ⟨blk_a⟩, ⟨below_a⟩⟩
           ·
            rw [if_neg c20] at H; exact absurd H (by simp)
          ·
           rw [if_neg c19] at H; exact absurd H (by simp)
         ·
          rw [if_neg c18] at H; have c18b0 : decide (x39_2 < (((l0.take ((wrap64 (a1 + a2)) : Int).toNat).drop (a1 : Int).toNat).length : Int)) = false := decide_eq_false c18; (try (have c18b1 : decide (x39_2 < (((wrap64 (a1 + a2)).toNat - a1.toNat : Nat) : Int)) = false := by rw [← HLN272.out]; exact decide_eq_false c18)); (try (have c18b2 : (x39_2 < (((wrap64 (a1 + a2)).toNat - a1.toNat : Nat) : Int)) = False := by rw [← HLN272.out]; exact eq_false (of_decide_eq_false (decide_eq_false c18)))); (try (have c18b3 : decide (x39_2 < (((l0.take ((IntKind.i64.wrap (a1 + a2)) : Int).toNat).drop (a1 : Int).toNat).length : Int)) = false := by simp only [i64_w]; exact decide_eq_false c18)); clear c18
          by_cases c21 : x7_2 > 9223372036854775807
          ·
           rw [if_pos c21] at H; have c21b0 : decide (9223372036854775807 < x7_2) = true := decide_eq_true c21; clear c21; replace H := Option.bind_eq_some_iff.mp H; obtain ⟨⟨t274, t275⟩, A220, H⟩ := H; replace H : (some (t274, t275)) = some (r1, r2) := H; have A22 := Aside0.mk A220; clear A220; simp only [Option.some.injEq, Prod.mk.injEq] at H; obtain ⟨rfl, rfl⟩ := H
           go_wp2_with (first | ((with_reducible refine gate_callee (f := 71) rfl ?_); refine goesL_ (some 51) rfl rfl Try.func71 (by kernel_rfl) rfl #[.int .i64 1] rfl args_a ?_; (with_reducible refine (impl_noInt.calls 1 t274 t275 _ A22.out).mono ?_); rintro e w23 ⟨rfl, hb⟩; refine ⟨_, rfl, ?_⟩; replace BK268 := Aside0.mk (blk_below (g := gb268) blk_c hb); replace HB := Aside0.mk (below_step below_a hb); (try clear hb); (try clear hb2); (try clear hk); (try clear hi); obtain ⟨hcz24_0, hcz24_1, hfz24_0, hfz24_1⟩ := bc2_ BK268.out))
           refine bodyPost_ret (results_cell_row rfl _ _ gb268 96 #[.int .i64 t274, .int .i64 t275] (0, 0) _ rfl blk_a Try.underlying96 rfl (by kernel_rfl)) rfl ?_; exact ⟨eq_a, below_a⟩
          ·
           rw [if_neg c21] at H; have c21b0 : decide (9223372036854775807 < x7_2) = false := decide_eq_false c21; clear c21; simp only [Option.some.injEq, Prod.mk.injEq] at H; obtain ⟨rfl, rfl⟩ := H; obtain ⟨hcz25_0, hcz25_1, hfz25_0, hfz25_1⟩ := bc2_ BK268.out
           go_wp2
           try simp only [i64_w]
           refine bodyPost_ret (results_cell_row rfl _ _ gb268 96 #[.int .i64 0, .int .i64 (wrap64 (x7_2))] (0, 0) _ rfl blk_a Try.underlying96 rfl (by kernel_rfl)) rfl ?_; exact ⟨eq_a, below_a⟩
      ·
       rw [if_neg c16] at H; exact absurd H (by simp)
     ·
      rw [if_neg c15] at H; exact absurd H (by simp)
    ·
     rw [if_neg c14] at H; exact absurd H (by simp)

/-! ### impl_number: function 60 -/
def impl_number.f (k : Nat) (l0 : List Int) (a1 : Int) (a2 : Int) : Option (Int × Bool) := (impl_ReadWord.f k l0 a1 a2).bind fun bt276 => (some (bt276.2, (bt276.1 == 0)))
theorem impl_number.mono : ∀ a0 a1 a2 k, LeO (impl_number.f k a0 a1 a2) (impl_number.f (k + 1) a0 a1 a2) := by
 intro a0 a1 a2 k
 unfold impl_number.f
 repeat' first
   | (with_reducible exact impl_ReadWord.mono _ _ _ _)
   | (with_reducible exact LeO.refl _)
   | (with_reducible exact LeO.none _)
   | (with_reducible refine LeO.ite ?_ ?_)
   | (with_reducible refine LeO.bind ?_ (fun _ => ?_))
   | exact impl_ReadWord.mono _ _ _ _
   | exact LeO.none _
   | refine LeO.ite ?_ ?_
   | refine LeO.bind ?_ (fun _ => ?_)
set_option maxHeartbeats 8000000 in
set_option maxRecDepth 100000 in
theorem impl_number.calls (k : Nat) (A0 : Option Addr) (c0 : Nat) (l0 : List Int) (a1 : Int) (a2 : Int) (r1 : Int) (r2 : Bool) (w : World) (hr0 : Kd.C (Kd.int .u8) w A0 l0.length l0) (hc0 : l0.length ≤ c0) (h : impl_number.f k l0 a1 a2 = some (r1, r2)) :
  Calls Try.prog 60 #[.slice A0 l0.length c0, .int .i64 a1, .int .i64 a2] w fun e w' => e = .returned (.tuple #[.int .i64 r1, .bool r2]) ∧ Below w.heap.size w w' := by
 have hu96 := Try.underlying96
 have HR0 := Aside0.mk hr0
 have HC0 := Aside0.mk hc0
 clear hr0 hc0
 have HB := Aside0.mk (Below.refl w.heap.size w)
 have H : ((impl_ReadWord.f k l0 a1 a2).bind fun bt276 => (some (bt276.2, (bt276.1 == 0)))) = some (r1, r2) := h
 clear h
 replace H := Option.bind_eq_some_iff.mp H
 obtain ⟨⟨t276, t277⟩, A40, H⟩ := H
 replace H : (some (t277, (t276 == 0))) = some (r1, r2) := H
 have A4 := Aside0.mk A40
 clear A40
 simp only [Option.some.injEq, Prod.mk.injEq] at H
 obtain ⟨rfl, rfl⟩ := H
 go_enter Try.func60, Try.ntmps60
 go_wp2_with (first | (go_at_call 69; (with_reducible refine (impl_ReadWord.calls k _ _ l0 a1 a2 t276 t277 _ ?side1 ?side2 A4.out).mono ?_); (case side1 => repeat (first | exact HR0.out | (with_reducible refine Kd.C_alloc ?_ _) | (with_reducible refine Kd.C_drewN ?_ _) | (with_reducible refine Kd.C_drew ?_))); (case side2 => exact HC0.out); rintro e w5 ⟨rfl, hb⟩; replace HB := Aside0.mk (below_step below_a hb); (try clear hb); (try clear hb2); (try clear hk); (try clear hi)) | ((with_reducible refine gate_dst (N := 8) rfl ?_); refine box_event ?hg (N := 8) ?hd (cs := #[.int .i64 0, .int .i64 0]) (t := 96) ?hr ?_; (case hd => rfl); (case hg => rfl); (case hr => first | (go_simp; done) | (go_simp; rfl)); intro gb278 hg w6 hbox hb; have n0_ := Aside0.mk (below_step below_a hb); have BK278 := Aside0.mk (hbox); have GW278 := Aside0.mk (bsz_ (w := w) hg); have GE278 := Aside0.mk (bsz_ (w := w) hg); replace HB := n0_; clear n0_; clear hb hbox hg; obtain ⟨hcz7_0, hcz7_1, hfz7_0, hfz7_1⟩ := bc2_ BK278.out))
 repeat (go_quiet (first | (go_at_call 69; (with_reducible refine (impl_ReadWord.calls k _ _ l0 a1 a2 t276 t277 _ ?side1 ?side2 A4.out).mono ?_); (case side1 => repeat (first | exact HR0.out | (with_reducible refine Kd.C_alloc ?_ _) | (with_reducible refine Kd.C_drewN ?_ _) | (with_reducible refine Kd.C_drew ?_))); (case side2 => exact HC0.out); rintro e w5 ⟨rfl, hb⟩; replace HB := Aside0.mk (below_step below_a hb); (try clear hb); (try clear hb2); (try clear hk); (try clear hi)) | ((with_reducible refine gate_dst (N := 8) rfl ?_); refine box_event ?hg (N := 8) ?hd (cs := #[.int .i64 0, .int .i64 0]) (t := 96) ?hr ?_; (case hd => rfl); (case hg => rfl); (case hr => first | (go_simp; done) | (go_simp; rfl)); intro gb278 hg w6 hbox hb; have n0_ := Aside0.mk (below_step below_a hb); have BK278 := Aside0.mk (hbox); have GW278 := Aside0.mk (bsz_ (w := w) hg); have GE278 := Aside0.mk (bsz_ (w := w) hg); replace HB := n0_; clear n0_; clear hb hbox hg; obtain ⟨hcz7_0, hcz7_1, hfz7_0, hfz7_1⟩ := bc2_ BK278.out)); try go_wp2_with (first | (go_at_call 69; (with_reducible refine (impl_ReadWord.calls k _ _ l0 a1 a2 t276 t277 _ ?side1 ?side2 A4.out).mono ?_); (case side1 => repeat (first | exact HR0.out | (with_reducible refine Kd.C_alloc ?_ _) | (with_reducible refine Kd.C_drewN ?_ _) | (with_reducible refine Kd.C_drew ?_))); (case side2 => exact HC0.out); rintro e w5 ⟨rfl, hb⟩; replace HB := Aside0.mk (below_step below_a hb); (try clear hb); (try clear hb2); (try clear hk); (try clear hi)) | ((with_reducible refine gate_dst (N := 8) rfl ?_); refine box_event ?hg (N := 8) ?hd (cs := #[.int .i64 0, .int .i64 0]) (t := 96) ?hr ?_; (case hd => rfl); (case hg => rfl); (case hr => first | (go_simp; done) | (go_simp; rfl)); intro gb278 hg w6 hbox hb; have n0_ := Aside0.mk (below_step below_a hb); have BK278 := Aside0.mk (hbox); have GW278 := Aside0.mk (bsz_ (w := w) hg); have GE278 := Aside0.mk (bsz_ (w := w) hg); replace HB := n0_; clear n0_; clear hb hbox hg; obtain ⟨hcz7_0, hcz7_1, hfz7_0, hfz7_1⟩ := bc2_ BK278.out)))
 go_ret2
 exact ⟨eq_a, below_a⟩

/-! ### bytes_Equal: function 61 -/
def bytes_Equal.f (l0 : List Int) (l1 : List Int) : Option (Bool) := some ((strOfNums l0).toList == (strOfNums l1).toList)
set_option maxHeartbeats 8000000 in
set_option maxRecDepth 100000 in
theorem bytes_Equal.calls (A0 : Option Addr) (c0 : Nat) (l0 : List Int) (A1 : Option Addr) (c1 : Nat) (l1 : List Int) (r : Bool) (w : World) (hr0 : Kd.C (Kd.int .u8) w A0 l0.length l0) (hc0 : l0.length ≤ c0) (hr1 : Kd.C (Kd.int .u8) w A1 l1.length l1) (hc1 : l1.length ≤ c1) (h : bytes_Equal.f l0 l1 = some r) :
  Calls Try.prog 61 #[.slice A0 l0.length c0, .slice A1 l1.length c1] w fun e w' => e = .returned (.bool r) ∧ Drawn0 w w' := by
 have HR0 := Aside0.mk hr0
 have HC0 := Aside0.mk hc0
 clear hr0 hc0
 have HR1 := Aside0.mk hr1
 have HC1 := Aside0.mk hc1
 clear hr1 hc1
 have H : (some ((strOfNums l0).toList == (strOfNums l1).toList)) = some r := h
 clear h
 obtain rfl := Option.some.inj H
 have hcv3 := Kd.C_string (P := Try.prog) (A := A0) (c := c0) Try.underlying24 Try.underlying5 Try.underlying9 HR0.out
 have hcv4 := Kd.C_string (P := Try.prog) (A := A1) (c := c1) Try.underlying24 Try.underlying5 Try.underlying9 HR1.out
 go_enter Try.func61, Try.ntmps61
 go_wp2
 go_ret
 exact ⟨eq_b, by repeat (first | exact Drawn0.refl _ | apply Drawn0.step)⟩

end Go.Proofs.Ytllkeaghjacalaa.MFnExactReadQuery
