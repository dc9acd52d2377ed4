-- Laid by a program of this session (the kit's print, turned where it falls short; the texts of functions that it does not take are proved by hand).
import Derived.Test.YtbnibakamdhpdaaMFnExactTakeAllx0
import Derived.Test.YtbnibakamdhpdaaMFnExactTakeAllx1
namespace Go.Proofs.Ytbnibakamdhpdaa.MFnExactTakeAll
open Go.RowKit Go.Proofs.YtbnibakamdhpdaaW.PrintWords Go.Proofs.YtbnibakamdhpdaaW.PrintLast Go.Proofs.YtbnibakamdhpdaaW.PrintMore
attribute [local go_sem] max2_int min2_int max_two min_two max_three min_three max_four min_four   -- for this text's walks alone
set_option linter.unusedVariables false
set_option linter.unusedSimpArgs false

attribute [local go_sem] isSome_setCell
/-! ### impl_TakeCounter: function 9 -/
def impl_TakeCounter.j0 : Nat → Int → Int → Int → List Int → Option (Int × Int × List Int)
 | 0, _, _, _, _ => none
 | k + 1, x1, x5, x111000, x111001 => if x5 = 0 then ((slices_Clone_int64_int64.f x111001).bind fun t115 => ((some (([x1] : List Int) : List Int)).bind fun y118 => (if t115.length + y118.length < 17592186044416 then ((slices_Sort_int64_int64.f (t115 ++ y118)).bind fun t125 => ((slices_DeleteFunc_int64_int64.f t125 (mx x111000 x1)).bind fun t126 => (some (0, mx x111000 x1, t126)))) else (none)))) else (some (x5, 0, ([] : List Int)))
def impl_TakeCounter.f (k : Nat) (a0_0 : Int) (l0_1 : List Int) (a1 : Int) : Option (Int × Int × List Int) := (impl_WindowFault.f k a0_0 l0_1).bind fun t112 => (if t112 = 0 then ((impl_in.f a1 0 1000000000).bind fun t113 => (if t113 = true then ((slices_Contains_int64_int64.f k l0_1 a1).bind fun t114 => (if t114 = true then (impl_TakeCounter.j0 k a1 6 a0_0 l0_1) else (if a1 ≤ (wrap64 (a0_0 - 16)) then (impl_TakeCounter.j0 k a1 8 a0_0 l0_1) else (impl_TakeCounter.j0 k a1 t112 a0_0 l0_1)))) else (impl_TakeCounter.j0 k a1 3 a0_0 l0_1))) else (impl_TakeCounter.j0 k a1 t112 a0_0 l0_1))
theorem impl_TakeCounter.mono_l : ∀ k, (∀ y0 y1 y2 y3, LeO (impl_TakeCounter.j0 k y0 y1 y2 y3) (impl_TakeCounter.j0 (k + 1) y0 y1 y2 y3))
 | 0 => fun _ _ _ _ r h => by simp [impl_TakeCounter.j0] at h
 | k + 1 => by
  have ih0 := impl_TakeCounter.mono_l k
  ·
   intro y0 y1 y2 y3
   unfold impl_TakeCounter.j0
   repeat' first
   | (with_reducible exact ih0 _ _ _ _)
   | (with_reducible exact impl_WindowFault.mono _ _ _)
   | (with_reducible exact slices_Contains_int64_int64.mono _ _ _)
   | (with_reducible exact LeO.refl _)
   | (with_reducible exact LeO.none _)
   | (with_reducible refine LeO.ite ?_ ?_)
   | (with_reducible refine LeO.bind ?_ (fun _ => ?_))
   | exact ih0 _ _ _ _
   | exact impl_WindowFault.mono _ _ _
   | exact slices_Contains_int64_int64.mono _ _ _
   | exact LeO.none _
   | refine LeO.ite ?_ ?_
   | refine LeO.bind ?_ (fun _ => ?_)
theorem impl_TakeCounter.mono : ∀ a0 a1 a2 k, LeO (impl_TakeCounter.f k a0 a1 a2) (impl_TakeCounter.f (k + 1) a0 a1 a2) := by
 intro a0 a1 a2 k
 have ih0 := impl_TakeCounter.mono_l k
 unfold impl_TakeCounter.f
 repeat' first
   | (with_reducible exact ih0 _ _ _ _)
   | (with_reducible exact impl_WindowFault.mono _ _ _)
   | (with_reducible exact slices_Contains_int64_int64.mono _ _ _)
   | (with_reducible exact LeO.refl _)
   | (with_reducible exact LeO.none _)
   | (with_reducible refine LeO.ite ?_ ?_)
   | (with_reducible refine LeO.bind ?_ (fun _ => ?_))
   | exact ih0 _ _ _ _
   | exact impl_WindowFault.mono _ _ _
   | exact slices_Contains_int64_int64.mono _ _ _
   | exact LeO.none _
   | refine LeO.ite ?_ ?_
   | refine LeO.bind ?_ (fun _ => ?_)
def impl_TakeCounter.T11 : Bool × List (List Nat × List Nat) := (true, [([], []), ([0], [0]), ([], []), ([1, 2], [1, 2]), ([], []), ([4], [4]), ([5], [5]), ([], []), ([7], [7]), ([6, 8, 6], [6, 8]), ([3, 9], [3, 9]), ([], []), ([11, 10, 9, 0, 1, 2, 3, 4, 5, 6, 7, 8, 9, 10, 11], [10, 11])])
def impl_TakeCounter.B11 : List Nat := [0, 1, 0, 7, 0, 16, 48, 0, 128, 496, 1023, 0, 4095]
theorem impl_TakeCounter.tab11 : rtab .any (opsOf Try.f9 11) = impl_TakeCounter.T11 := by kernel_rfl
theorem impl_TakeCounter.bits11 : waitsOk impl_TakeCounter.T11.2 impl_TakeCounter.B11 = true := by kernel_rfl
set_option maxHeartbeats 8000000 in
set_option maxRecDepth 100000 in
theorem impl_TakeCounter.calls (k : Nat) (a0_0 : Int) (A0_1 : Option Addr) (c0_1 : Nat) (l0_1 : List Int) (a1 : Int) (r1 : Int) (r2 : Int) (r3 : List Int) (w : World) (hr0_1 : Kd.C (Kd.int .i64) w A0_1 l0_1.length l0_1) (hc0_1 : l0_1.length ≤ c0_1) (h : impl_TakeCounter.f k a0_0 l0_1 a1 = some (r1, r2, r3)) :
  Calls Try.prog 9 #[.agg #[.int .i64 a0_0, .slice A0_1 l0_1.length c0_1], .int .i64 a1] w fun e w' => ∃ v2_ : Value, e = .returned (.agg #[.int .i64 r1, .int .i64 r2, v2_]) ∧ Kd.R (Kd.int .i64) 2 w' w.heap.size (fun _ => True) v2_ r3 ∧ Below w.heap.size w w' := by
 have hu26 := Try.underlying26
 have hu30 := Try.underlying30
 have HR0_1 := Aside0.mk hr0_1
 have HC0_1 := Aside0.mk hc0_1
 clear hr0_1 hc0_1
 have HB := Aside0.mk (Below.refl w.heap.size w)
 have H : ((impl_WindowFault.f k a0_0 l0_1).bind fun t112 => (if t112 = 0 then ((impl_in.f a1 0 1000000000).bind fun t113 => (if t113 = true then ((slices_Contains_int64_int64.f k l0_1 a1).bind fun t114 => (if t114 = true then (impl_TakeCounter.j0 k a1 6 a0_0 l0_1) else (if a1 ≤ (wrap64 (a0_0 - 16)) then (impl_TakeCounter.j0 k a1 8 a0_0 l0_1) else (impl_TakeCounter.j0 k a1 t112 a0_0 l0_1)))) else (impl_TakeCounter.j0 k a1 3 a0_0 l0_1))) else (impl_TakeCounter.j0 k a1 t112 a0_0 l0_1))) = some (r1, r2, r3) := h
 clear h
 replace H := Option.bind_eq_some_iff.mp H
 obtain ⟨t112, A30, H⟩ := H
 replace H : (if t112 = 0 then ((impl_in.f a1 0 1000000000).bind fun t113 => (if t113 = true then ((slices_Contains_int64_int64.f k l0_1 a1).bind fun t114 => (if t114 = true then (impl_TakeCounter.j0 k a1 6 a0_0 l0_1) else (if a1 ≤ (wrap64 (a0_0 - 16)) then (impl_TakeCounter.j0 k a1 8 a0_0 l0_1) else (impl_TakeCounter.j0 k a1 t112 a0_0 l0_1)))) else (impl_TakeCounter.j0 k a1 3 a0_0 l0_1))) else (impl_TakeCounter.j0 k a1 t112 a0_0 l0_1)) = some (r1, r2, r3) := H
 have A3 := Aside0.mk A30
 clear A30
 have HC4 := Aside0.mk H
 clear H
 go_enter Try.func9, Try.ntmps9
 go_upto_block 0 with (first | ((with_reducible refine gate_dst (N := 2) rfl ?_); refine box_event ?hg (N := 2) ?hd (cs := #[.int .i64 a0_0, .slice A0_1 l0_1.length c0_1]) (t := 26) ?hr ?_; (case hd => rfl); (case hg => rfl); (case hr => first | (go_simp; done) | (go_simp; rfl)); intro gb110 hg w5 hbox hb; have n0_ := Aside0.mk (below_step below_a hb); have BK110 := Aside0.mk (hbox); have GW110 := Aside0.mk (bsz_ (w := w) hg); have GE110 := Aside0.mk (bsz_ (w := w) hg); replace HB := n0_; clear n0_; clear hb hbox hg) | ((with_reducible refine gate_dst (N := 4) rfl ?_); refine box_event ?hg (N := 4) ?hd (cs := #[.int .i64 0, .int .i64 0, .slice none 0 0]) (t := 30) ?hr ?_; (case hd => rfl); (case hg => rfl); (case hr => first | (go_simp; done) | (go_simp; rfl)); intro gb111 hg w6 hbox hb; have n0_ := Aside0.mk (blk_below (g := gb110) blk_c hb); have n1_ := Aside0.mk (below_step below_a hb); have BK111 := Aside0.mk (hbox); have GW111 := Aside0.mk (bsz_ (w := w) hg); have GE111 := Aside0.mk (bsz_ (w := w) hg); have NB110_111 := Aside0.mk (bne_ (g := gb110) hg); have NB111_110 := Aside0.mk (bne_ (g := gb110) hg).symm; replace BK110 := n0_; replace HB := n1_; clear n0_ n1_; clear hb hbox hg; have hnb7 := NB110_111.out; have hnc7 := NB111_110.out; obtain ⟨hcz8_0, hcz8_1, hfz8_0, hfz8_1⟩ := bc2_ BK110.out) | ((with_reducible refine gate_callee (f := 16) rfl ?_); refine goesL_ (some 8) rfl rfl Try.func16 (by kernel_rfl) rfl #[.agg #[.int .i64 a0_0, .slice A0_1 l0_1.length c0_1]] rfl args_a ?_; (with_reducible refine (impl_WindowFault.calls k a0_0 _ _ l0_1 t112 _ ?side1 ?side2 A3.out).mono ?_); (case side1 => repeat (first | exact (Kd.C_below HR0_1.out HB.out) | (with_reducible refine Kd.C_alloc ?_ _) | (with_reducible refine Kd.C_drewN ?_ _) | (with_reducible refine Kd.C_drew ?_))); (case side2 => exact HC0_1.out); rintro e w9 ⟨rfl, hb⟩; refine ⟨_, rfl, ?_⟩; replace BK110 := Aside0.mk (blk_below (g := gb110) blk_c hb); replace BK111 := Aside0.mk (blk_below (g := gb111) blk_c hb); replace HB := Aside0.mk (below_step below_a hb); (try clear hb); (try clear hb2); (try clear hk); (try clear hi)))
 (try simp only [Act.put, List.setIfInBounds_toArray, List.set_cons_zero, List.set_cons_succ])
 go_cut [5] (fun v5 wc => ∃ (kq : Nat) (x5_3 : Int), v5 = .int .i64 x5_3 ∧ Aside0 (impl_TakeCounter.j0 kq a1 x5_3 a0_0 l0_1 = some (r1, r2, r3)) ∧ Aside0 (kq ≤ k) ∧ Aside0 (wc.heap[gb110]? = some (.cells #[.int .i64 a0_0, (.slice A0_1 l0_1.length c0_1)] 26 (0, 0))) ∧ Aside0 (wc.heap[gb111]? = some (.cells #[.int .i64 0, .int .i64 0, (.slice none 0 0)] 30 (0, 0))) ∧ Aside0 (Below w.heap.size w wc))
 case first =>
  have H := HC4.out; clear HC4
  by_cases c10 : t112 = 0
  ·
   rw [if_pos c10] at H; have c10b0 : (t112 == 0) = true := beq_iff_eq.mpr c10; have c10b1 : (t112 != 0) = false := bne_eq_false_iff_eq.mpr c10; clear c10; (first | rw [c10b0] | (simp only [i64_w, i32_w]; rw [c10b0]) | skip); replace H := Option.bind_eq_some_iff.mp H; obtain ⟨t113, A110, H⟩ := H; replace H : (if t113 = true then ((slices_Contains_int64_int64.f k l0_1 a1).bind fun t114 => (if t114 = true then (impl_TakeCounter.j0 k a1 6 a0_0 l0_1) else (if a1 ≤ (wrap64 (a0_0 - 16)) then (impl_TakeCounter.j0 k a1 8 a0_0 l0_1) else (impl_TakeCounter.j0 k a1 t112 a0_0 l0_1)))) else (impl_TakeCounter.j0 k a1 3 a0_0 l0_1)) = some (r1, r2, r3) := H; have A11 := Aside0.mk A110; clear A110
   by_cases c12 : t113 = true
   ·
    subst c12; have H1 : ((slices_Contains_int64_int64.f k l0_1 a1).bind fun t114 => (if t114 = true then (impl_TakeCounter.j0 k a1 6 a0_0 l0_1) else (if a1 ≤ (wrap64 (a0_0 - 16)) then (impl_TakeCounter.j0 k a1 8 a0_0 l0_1) else (impl_TakeCounter.j0 k a1 t112 a0_0 l0_1)))) = some (r1, r2, r3) := by rw [if_pos rfl] at H; exact H
    clear H; have H := H1; clear H1; replace H := Option.bind_eq_some_iff.mp H; obtain ⟨t114, A130, H⟩ := H; replace H : (if t114 = true then (impl_TakeCounter.j0 k a1 6 a0_0 l0_1) else (if a1 ≤ (wrap64 (a0_0 - 16)) then (impl_TakeCounter.j0 k a1 8 a0_0 l0_1) else (impl_TakeCounter.j0 k a1 t112 a0_0 l0_1))) = some (r1, r2, r3) := H; have A13 := Aside0.mk A130; clear A130
    by_cases c14 : t114 = true
    ·
     subst c14; have H1 : (impl_TakeCounter.j0 k a1 6 a0_0 l0_1) = some (r1, r2, r3) := by rw [if_pos rfl] at H; exact H
     clear H; have H := H1; clear H1; have H' := Aside0.mk H; clear H
     go_wp2_with (first | ((with_reducible refine gate_callee (f := 40) rfl ?_); refine goesL_ (some 14) rfl rfl Try.func40 (by kernel_rfl) rfl #[.int .i64 a1, .int .i64 0, .int .i64 1000000000] rfl args_a ?_; (with_reducible refine (impl_in.calls a1 0 1000000000 true _ A11.out).mono ?_); rintro e w' ⟨rfl, ⟨nd, rfl⟩⟩; refine ⟨_, rfl, ?_⟩; have hnb15 := NB110_111.out; have hnc15 := NB111_110.out; obtain ⟨hcz16_0, hcz16_1, hfz16_0, hfz16_1⟩ := bc2_ BK110.out) | ((with_reducible refine gate_callee (f := 41) rfl ?_); refine goesL_ (some 20) rfl rfl Try.func41 (by kernel_rfl) rfl #[.slice A0_1 l0_1.length c0_1, .int .i64 a1] rfl args_a ?_; (with_reducible refine (slices_Contains_int64_int64.calls k _ _ l0_1 a1 true _ ?side1 ?side2 A13.out).mono ?_); (case side1 => repeat (first | exact (Kd.C_below HR0_1.out below_a) | (with_reducible refine Kd.C_alloc ?_ _) | (with_reducible refine Kd.C_drewN ?_ _) | (with_reducible refine Kd.C_drew ?_))); (case side2 => exact HC0_1.out); rintro e w' ⟨rfl, ⟨nd, rfl⟩⟩; refine ⟨_, rfl, ?_⟩))
     go_meet
     case rel => exact ⟨_, (6), eq_b, H', ⟨by first | omega | exact Nat.le_refl _⟩, ⟨blk_a⟩, ⟨blk_a⟩, ⟨below_a⟩⟩
    ·
     replace c14 := Bool.eq_false_iff.mpr c14; subst c14; have H1 : (if a1 ≤ (wrap64 (a0_0 - 16)) then (impl_TakeCounter.j0 k a1 8 a0_0 l0_1) else (impl_TakeCounter.j0 k a1 t112 a0_0 l0_1)) = some (r1, r2, r3) := by rw [if_neg (show ¬ (false = true) by decide)] at H; exact H
     clear H; have H := H1; clear H1
     by_cases c17 : a1 ≤ (wrap64 (a0_0 - 16))
     ·
      rw [if_pos c17] at H; have c17b0 : decide (a1 ≤ (wrap64 (a0_0 - 16))) = true := decide_eq_true c17; (try (have c17b1 : decide (a1 ≤ (IntKind.i64.wrap (a0_0 - 16))) = true := by simp only [i64_w]; exact decide_eq_true c17)); clear c17; have H' := Aside0.mk H; clear H
      go_wp2_with (first | ((with_reducible refine gate_callee (f := 40) rfl ?_); refine goesL_ (some 14) rfl rfl Try.func40 (by kernel_rfl) rfl #[.int .i64 a1, .int .i64 0, .int .i64 1000000000] rfl args_a ?_; (with_reducible refine (impl_in.calls a1 0 1000000000 true _ A11.out).mono ?_); rintro e w' ⟨rfl, ⟨nd, rfl⟩⟩; refine ⟨_, rfl, ?_⟩; have hnb18 := NB110_111.out; have hnc18 := NB111_110.out; obtain ⟨hcz19_0, hcz19_1, hfz19_0, hfz19_1⟩ := bc2_ BK110.out) | ((with_reducible refine gate_callee (f := 41) rfl ?_); refine goesL_ (some 20) rfl rfl Try.func41 (by kernel_rfl) rfl #[.slice A0_1 l0_1.length c0_1, .int .i64 a1] rfl args_a ?_; (with_reducible refine (slices_Contains_int64_int64.calls k _ _ l0_1 a1 false _ ?side1 ?side2 A13.out).mono ?_); (case side1 => repeat (first | exact (Kd.C_below HR0_1.out below_a) | (with_reducible refine Kd.C_alloc ?_ _) | (with_reducible refine Kd.C_drewN ?_ _) | (with_reducible refine Kd.C_drew ?_))); (case side2 => exact HC0_1.out); rintro e w' ⟨rfl, ⟨nd, rfl⟩⟩; refine ⟨_, rfl, ?_⟩))
      go_meet
      case rel => exact ⟨_, (8), eq_b, H', ⟨by first | omega | exact Nat.le_refl _⟩, ⟨blk_a⟩, ⟨blk_a⟩, ⟨below_a⟩⟩
     ·
      rw [if_neg c17] at H; have c17b0 : decide (a1 ≤ (wrap64 (a0_0 - 16))) = false := decide_eq_false c17; (try (have c17b1 : decide (a1 ≤ (IntKind.i64.wrap (a0_0 - 16))) = false := by simp only [i64_w]; exact decide_eq_false c17)); clear c17; have H' := Aside0.mk H; clear H
      go_wp2_with (first | ((with_reducible refine gate_callee (f := 40) rfl ?_); refine goesL_ (some 14) rfl rfl Try.func40 (by kernel_rfl) rfl #[.int .i64 a1, .int .i64 0, .int .i64 1000000000] rfl args_a ?_; (with_reducible refine (impl_in.calls a1 0 1000000000 true _ A11.out).mono ?_); rintro e w' ⟨rfl, ⟨nd, rfl⟩⟩; refine ⟨_, rfl, ?_⟩; have hnb20 := NB110_111.out; have hnc20 := NB111_110.out; obtain ⟨hcz21_0, hcz21_1, hfz21_0, hfz21_1⟩ := bc2_ BK110.out) | ((with_reducible refine gate_callee (f := 41) rfl ?_); refine goesL_ (some 20) rfl rfl Try.func41 (by kernel_rfl) rfl #[.slice A0_1 l0_1.length c0_1, .int .i64 a1] rfl args_a ?_; (with_reducible refine (slices_Contains_int64_int64.calls k _ _ l0_1 a1 false _ ?side1 ?side2 A13.out).mono ?_); (case side1 => repeat (first | exact (Kd.C_below HR0_1.out below_a) | (with_reducible refine Kd.C_alloc ?_ _) | (with_reducible refine Kd.C_drewN ?_ _) | (with_reducible refine Kd.C_drew ?_))); (case side2 => exact HC0_1.out); rintro e w' ⟨rfl, ⟨nd, rfl⟩⟩; refine ⟨_, rfl, ?_⟩))
      go_meet
      case rel => exact ⟨_, (t112), eq_b, H', ⟨by first | omega | exact Nat.le_refl _⟩, ⟨blk_a⟩, ⟨blk_a⟩, ⟨below_a⟩⟩
   ·
    replace c12 := Bool.eq_false_iff.mpr c12; subst c12; have H1 : (impl_TakeCounter.j0 k a1 3 a0_0 l0_1) = some (r1, r2, r3) := by rw [if_neg (show ¬ (false = true) by decide)] at H; exact H
    clear H; have H := H1; clear H1; have H' := Aside0.mk H; clear H
    go_wp2_with (first | ((with_reducible refine gate_callee (f := 40) rfl ?_); refine goesL_ (some 14) rfl rfl Try.func40 (by kernel_rfl) rfl #[.int .i64 a1, .int .i64 0, .int .i64 1000000000] rfl args_a ?_; (with_reducible refine (impl_in.calls a1 0 1000000000 false _ A11.out).mono ?_); rintro e w' ⟨rfl, ⟨nd, rfl⟩⟩; refine ⟨_, rfl, ?_⟩))
    go_meet
    case rel => exact ⟨_, (3), eq_b, H', ⟨by first | omega | exact Nat.le_refl _⟩, ⟨blk_a⟩, ⟨blk_a⟩, ⟨below_a⟩⟩
  ·
   rw [if_neg c10] at H; have c10b0 : (t112 == 0) = false := beq_eq_false_iff_ne.mpr c10; have c10b1 : (t112 != 0) = true := bne_iff_ne.mpr c10; (first | rw [c10b0] | (simp only [i64_w, i32_w]; rw [c10b0]) | skip); have H' := Aside0.mk H; clear H
   go_wp2
   go_meet
   case rel => exact ⟨_, (t112), eq_b, H', ⟨by first | omega | exact Nat.le_refl _⟩, ⟨blk_a⟩, ⟨blk_a⟩, ⟨below_a⟩⟩
 case rest =>
  clear HC4
  try clear c1
  try clear c2
  try clear p2
  try clear c4
  try clear p6
  try clear c7
  try clear c9
  try clear c10 c10b0 c10b1
  try clear c12
  try clear c14
  try clear c15
  try clear c16
  try clear c17 c17b0 c17b1
  try clear c18
  try clear c20
  try clear hcz16_0 hcz16_1
  try clear hcz19_0 hcz19_1
  try clear hcz21_0 hcz21_1
  try clear hcz8_0 hcz8_1
  try clear hfz16_0 hfz16_1
  try clear hfz19_0 hfz19_1
  try clear hfz21_0 hfz21_1
  try clear hfz8_0 hfz8_1
  obtain ⟨kq, x5_3, rfl, HA, HJ3, BK110, BK111, HB⟩ := hcut
  cases kq with
  | zero => exact absurd HA.out (by simp [impl_TakeCounter.j0])
  | succ kj3 =>
   have H := HA.out; clear HA; simp only [impl_TakeCounter.j0] at H
   by_cases c22 : x5_3 = 0
   ·
    rw [if_pos c22] at H; have c22b0 : (x5_3 == 0) = true := beq_iff_eq.mpr c22; have c22b1 : (x5_3 != 0) = false := bne_eq_false_iff_eq.mpr c22; clear c22; obtain ⟨ji23, hji23⟩ : ∃ j_ : Int, (mx a0_0 a1) = j_ := ⟨_, rfl⟩; replace H : ((slices_Clone_int64_int64.f l0_1).bind fun t115 => ((some (([a1] : List Int) : List Int)).bind fun y118 => (if t115.length + y118.length < 17592186044416 then ((slices_Sort_int64_int64.f (t115 ++ y118)).bind fun t125 => ((slices_DeleteFunc_int64_int64.f t125 (ji23)).bind fun t126 => (some (0, ji23, t126)))) else (none)))) = some (r1, r2, r3) := by first | (rw [hji23] at H; exact H) | (simp only [hji23] at H ⊢; exact H)
    have hji23_ : (if a0_0 < a1 then a1 else a0_0) = ji23 := hji23; replace H := Option.bind_eq_some_iff.mp H; obtain ⟨t115, A240, H⟩ := H; replace H : ((some (([a1] : List Int) : List Int)).bind fun y118 => (if t115.length + y118.length < 17592186044416 then ((slices_Sort_int64_int64.f (t115 ++ y118)).bind fun t125 => ((slices_DeleteFunc_int64_int64.f t125 (ji23)).bind fun t126 => (some (0, ji23, t126)))) else (none))) = some (r1, r2, r3) := H; have A24 := Aside0.mk A240; clear A240; obtain ⟨y118, hy118⟩ : ∃ y_ : List Int, y_ = (([a1] : List Int)) := ⟨_, rfl⟩; replace H : (if t115.length + y118.length < 17592186044416 then ((slices_Sort_int64_int64.f (t115 ++ y118)).bind fun t125 => ((slices_DeleteFunc_int64_int64.f t125 (ji23)).bind fun t126 => (some (0, ji23, t126)))) else (none)) = some (r1, r2, r3) := by first | (rw [hy118]; with_reducible exact H) | (have H2_ := (Option.bind_some _ _).symm.trans H; rw [hy118]; with_reducible exact H2_) | (have H2_ := (Option.bind_some _ _).symm.trans H; with_reducible exact H2_) | with_reducible exact H | (rw [hy118]; exact H) | exact H
    have Ny118 := Aside0.mk hy118; clear hy118
    by_cases c25 : t115.length + y118.length < 17592186044416
    ·
     rw [if_pos c25] at H; have LMc25 := Aside0.mk c25; clear c25; obtain ⟨y121, hy121⟩ : ∃ y_ : List Int, y_ = (t115 ++ y118) := ⟨_, rfl⟩; replace H : ((slices_Sort_int64_int64.f y121).bind fun t125 => ((slices_DeleteFunc_int64_int64.f t125 (ji23)).bind fun t126 => (some (0, ji23, t126)))) = some (r1, r2, r3) := by first | (rw [hy121]; with_reducible exact H) | (have H2_ := (Option.bind_some _ _).symm.trans H; rw [hy121]; with_reducible exact H2_) | (have H2_ := (Option.bind_some _ _).symm.trans H; with_reducible exact H2_) | with_reducible exact H | (rw [hy121]; exact H) | exact H
     have Ny121 := Aside0.mk hy121; clear hy121; replace H := Option.bind_eq_some_iff.mp H; obtain ⟨t125, A260, H⟩ := H; replace H : ((slices_DeleteFunc_int64_int64.f t125 (ji23)).bind fun t126 => (some (0, ji23, t126))) = some (r1, r2, r3) := H; have A26 := Aside0.mk A260; clear A260; replace H := Option.bind_eq_some_iff.mp H; obtain ⟨t126, A270, H⟩ := H; replace H : (some (0, ji23, t126)) = some (r1, r2, r3) := H; have A27 := Aside0.mk A270; clear A270; simp only [Option.some.injEq, Prod.mk.injEq] at H; obtain ⟨rfl, rfl, rfl⟩ := H
     try go_wp2
     replace BK110 := Aside0.mk (blk_drew BK110.out); replace BK111 := Aside0.mk (blk_drew BK111.out); replace HB := Aside0.mk (below_drew1 HB.out); refine start_ (n := 13) (S := fun w' => w'.cell? ⟨gb110, 0, none⟩ = some (.int .i64 a0_0) ∧ w'.cell? ⟨gb110, 1, none⟩ = some (.slice A0_1 l0_1.length c0_1)) (ds := []) #[Z',Z',Z',Z',Z',Z',Z',Z',Z',Z',Z',Z',Z'] (by kernel_rfl) rfl rfl ⟨(blk_cell BK110.out 0).trans rfl, (blk_cell BK110.out 1).trans rfl⟩ (fun hHeld => ?_); refine with_tabW impl_TakeCounter.tab11 impl_TakeCounter.bits11 (fun HT_ HW_ => ?_); generalize wc.drew = w28 at BK110 BK111 HB hHeld ⊢; refine pure_ (i := 0) (N := some 31) (v := ?_) (a' := ?_) #[Y',Z',Z',Z',Z',Z',Z',Z',Z',Z',Z',Z',Z'] rfl rfl (any_of HT_.out (by kernel_rfl)) (fun _ _ _ h => h) (Or.inl ⟨by rfl, ?_⟩) ?_ ?_; rotate_left
     ·
      intro w'
      go_simp
      with_reducible rfl
     rotate_left
     ·
      simp only [Act.put, List.setIfInBounds_toArray, List.set_cons_zero, List.set_cons_succ, i64_w, i32_w]; rfl
     refine pure_ (i := 2) (N := some 33) (v := ?_) (a' := ?_) #[Y',Z',Y',Z',Z',Z',Z',Z',Z',Z',Z',Z',Z'] rfl rfl (any_of HT_.out (by kernel_rfl)) (fun _ _ _ h => h) (Or.inl ⟨by rfl, ?_⟩) ?_ ?_; rotate_left
     ·
      intro w'
      go_simp
      with_reducible rfl
     rotate_left
     ·
      simp only [Act.put, List.setIfInBounds_toArray, List.set_cons_zero, List.set_cons_succ, i64_w, i32_w]; rfl
     refine pure_ (i := 4) (N := some 35) (v := ?_) (a' := ?_) #[Y',Z',Y',Z',Y',Z',Z',Z',Z',Z',Z',Z',Z'] rfl rfl (any_of HT_.out (by kernel_rfl)) (fun _ _ _ h => h) (Or.inl ⟨by rfl, ?_⟩) ?_ ?_; rotate_left
     ·
      intro w'
      go_simp
      with_reducible rfl
     rotate_left
     ·
      simp only [Act.put, List.setIfInBounds_toArray, List.set_cons_zero, List.set_cons_succ, i64_w, i32_w]; rfl
     refine pure_ (i := 7) (N := some 38) (v := ?_) (a' := ?_) #[Y',Z',Y',Z',Y',Z',Z',Y',Z',Z',Z',Z',Z'] rfl rfl (any_of HT_.out (by kernel_rfl)) (fun _ _ _ h => h) (Or.inl ⟨by rfl, ?_⟩) ?_ ?_; rotate_left
     ·
      intro w'
      go_simp
      with_reducible rfl
     rotate_left
     ·
      simp only [Act.put, List.setIfInBounds_toArray, List.set_cons_zero, List.set_cons_succ, i64_w, i32_w]; rfl
     refine take_ (i := 1) (N := some 32) (v := ?_) (a' := ?_) #[Y',Y',Y',Z',Y',Z',Z',Y',Z',Z',Z',Z',Z'] rfl rfl (take_ofW HT_.out HW_.out (by kernel_rfl)) (fun _ _ _ h => h) (Or.inl ⟨by rfl, ?_⟩) hHeld ?_ ?_; rotate_left
     ·
      rintro w' ⟨s0, s1⟩
      go_simp
      with_reducible rfl
     rotate_left
     ·
      simp only [Act.put, List.setIfInBounds_toArray, List.set_cons_zero, List.set_cons_succ, i64_w, i32_w]; rfl
     refine pure_ (i := 3) (N := some 34) (v := ?_) (a' := ?_) #[Y',Y',Y',Y',Y',Z',Z',Y',Z',Z',Z',Z',Z'] rfl rfl (any_of HT_.out (by kernel_rfl)) (fun _ _ _ h => h) (Or.inl ⟨by rfl, ?_⟩) ?_ ?_; rotate_left
     ·
      intro w'
      go_simp
      with_reducible rfl
     rotate_left
     ·
      simp only [Act.put, List.setIfInBounds_toArray, List.set_cons_zero, List.set_cons_succ, i64_w, i32_w]; rfl
     refine take_ (i := 5) (N := some 36) (v := ?_) (a' := ?_) #[Y',Y',Y',Y',Y',Y',Z',Y',Z',Z',Z',Z',Z'] rfl rfl (take_ofW HT_.out HW_.out (by kernel_rfl)) (fun _ _ _ h => h) (Or.inl ⟨by rfl, ?_⟩) hHeld ?_ ?_; rotate_left
     ·
      rintro w' ⟨s0, s1⟩
      go_simp
      with_reducible rfl
     rotate_left
     ·
      simp only [Act.put, List.setIfInBounds_toArray, List.set_cons_zero, List.set_cons_succ, i64_w, i32_w]; rfl
     refine join_ (σ := Value × Value × Value × Nat) 1 #[Y',Y',Y',Y',Y',Y',Y',Y',Y',Y',Y',Y',Z'] (fun s_ => [(37, s_.1), (39, s_.2.1), (40, s_.2.2.1), (6, .pointer (some ⟨s_.2.2.2, 0, none⟩)), (41, .agg #[.int .i64 ji23, s_.2.2.1])]) (fun s_ w' => (w'.cell? ⟨gb110, 0, none⟩ = some (.int .i64 a0_0) ∧ w'.cell? ⟨gb110, 1, none⟩ = some (.slice A0_1 l0_1.length c0_1)) ∧ (Kd.R (Kd.int .i64) 2 w' w.heap.size (fun k_ => some k_ ≠ (s_.2.2.1 : Value).ownBlock) s_.2.1 y118) ∧ (Kd.R (Kd.int .i64) 2 w' w.heap.size (fun k_ => some k_ ≠ (s_.2.1 : Value).ownBlock) s_.2.2.1 y121) ∧ (w'.heap[gb110]? = some (.cells #[.int .i64 a0_0, .slice A0_1 l0_1.length c0_1] 26 (0, 0))) ∧ (w'.heap[gb111]? = some (.cells #[.int .i64 0, .int .i64 0, .slice none 0 0] 30 (0, 0))) ∧ (w'.heap[s_.2.2.2]? = some (.cells #[.int .i64 0, .slice none 0 0] 26 (0, 0))) ∧ (w.heap.size ≤ s_.2.2.2) ∧ (w.heap.size ≤ s_.2.2.2) ∧ (gb110 ≠ s_.2.2.2) ∧ (s_.2.2.2 ≠ gb110) ∧ (gb111 ≠ s_.2.2.2) ∧ (s_.2.2.2 ≠ gb111) ∧ (Below w.heap.size w w')) ?_ ?_; rotate_left
     ·
      intro hJ6_8_9_11; refine join_ (σ := Value × Value × Value) 2 #[Y',Y',Y',Y',Y',Y',Y',Y',Y',Y',Y',Z',Z'] (fun s_ => [(37, s_.1), (39, s_.2.1), (40, s_.2.2), (41, .agg #[.int .i64 ji23, s_.2.2])]) (fun s_ w' => (w'.cell? ⟨gb110, 0, none⟩ = some (.int .i64 a0_0) ∧ w'.cell? ⟨gb110, 1, none⟩ = some (.slice A0_1 l0_1.length c0_1)) ∧ (Kd.R (Kd.int .i64) 2 w' w.heap.size (fun k_ => some k_ ≠ (s_.2.2 : Value).ownBlock) s_.2.1 y118) ∧ (Kd.R (Kd.int .i64) 2 w' w.heap.size (fun k_ => some k_ ≠ (s_.2.1 : Value).ownBlock) s_.2.2 y121) ∧ (w'.heap[gb110]? = some (.cells #[.int .i64 a0_0, .slice A0_1 l0_1.length c0_1] 26 (0, 0))) ∧ (w'.heap[gb111]? = some (.cells #[.int .i64 0, .int .i64 0, .slice none 0 0] 30 (0, 0))) ∧ (Below w.heap.size w w')) ?_ ?_; rotate_left
      ·
       intro hJ6_8_9; refine join_ (σ := Value × Value × Nat) 3 #[Y',Y',Y',Y',Y',Y',Y',Y',Y',Z',Z',Y',Z'] (fun s_ => [(37, s_.1), (39, s_.2.1), (6, .pointer (some ⟨s_.2.2, 0, none⟩))]) (fun s_ w' => (w'.cell? ⟨gb110, 0, none⟩ = some (.int .i64 a0_0) ∧ w'.cell? ⟨gb110, 1, none⟩ = some (.slice A0_1 l0_1.length c0_1)) ∧ (Kd.R (Kd.int .i64) 2 w' w.heap.size (fun k_ => some k_ ≠ (s_.2.1 : Value).ownBlock) s_.1 t115) ∧ (Kd.R (Kd.int .i64) 2 w' w.heap.size (fun k_ => some k_ ≠ (s_.1 : Value).ownBlock) s_.2.1 y118) ∧ (w'.heap[gb110]? = some (.cells #[.int .i64 a0_0, .slice A0_1 l0_1.length c0_1] 26 (0, 0))) ∧ (w'.heap[gb111]? = some (.cells #[.int .i64 0, .int .i64 0, .slice none 0 0] 30 (0, 0))) ∧ (w'.heap[s_.2.2]? = some (.cells #[.int .i64 0, .slice none 0 0] 26 (0, 0))) ∧ (w.heap.size ≤ s_.2.2) ∧ (w.heap.size ≤ s_.2.2) ∧ (gb110 ≠ s_.2.2) ∧ (s_.2.2 ≠ gb110) ∧ (gb111 ≠ s_.2.2) ∧ (s_.2.2 ≠ gb111) ∧ (Below w.heap.size w w')) ?_ ?_; rotate_left
       ·
        intro hJ6_8_11; refine join_ (σ := Value × Value) 4 #[Y',Y',Y',Y',Y',Y',Y',Y',Y',Z',Z',Z',Z'] (fun s_ => [(37, s_.1), (39, s_.2)]) (fun s_ w' => (w'.cell? ⟨gb110, 0, none⟩ = some (.int .i64 a0_0) ∧ w'.cell? ⟨gb110, 1, none⟩ = some (.slice A0_1 l0_1.length c0_1)) ∧ (Kd.R (Kd.int .i64) 2 w' w.heap.size (fun k_ => some k_ ≠ (s_.2 : Value).ownBlock) s_.1 t115) ∧ (Kd.R (Kd.int .i64) 2 w' w.heap.size (fun k_ => some k_ ≠ (s_.1 : Value).ownBlock) s_.2 y118) ∧ (w'.heap[gb110]? = some (.cells #[.int .i64 a0_0, .slice A0_1 l0_1.length c0_1] 26 (0, 0))) ∧ (w'.heap[gb111]? = some (.cells #[.int .i64 0, .int .i64 0, .slice none 0 0] 30 (0, 0))) ∧ (Below w.heap.size w w')) ?_ ?_; rotate_left
        ·
         intro hJ6_8; refine join_ (σ := Value × Nat) 4 #[Y',Y',Y',Y',Y',Y',Y',Y',Z',Z',Z',Y',Z'] (fun s_ => [(37, s_.1), (6, .pointer (some ⟨s_.2, 0, none⟩))]) (fun s_ w' => (w'.cell? ⟨gb110, 0, none⟩ = some (.int .i64 a0_0) ∧ w'.cell? ⟨gb110, 1, none⟩ = some (.slice A0_1 l0_1.length c0_1)) ∧ (Kd.R (Kd.int .i64) 2 w' w.heap.size (fun _ => True) s_.1 t115) ∧ (w'.heap[gb110]? = some (.cells #[.int .i64 a0_0, .slice A0_1 l0_1.length c0_1] 26 (0, 0))) ∧ (w'.heap[gb111]? = some (.cells #[.int .i64 0, .int .i64 0, .slice none 0 0] 30 (0, 0))) ∧ (w'.heap[s_.2]? = some (.cells #[.int .i64 0, .slice none 0 0] 26 (0, 0))) ∧ (w.heap.size ≤ s_.2) ∧ (w.heap.size ≤ s_.2) ∧ (gb110 ≠ s_.2) ∧ (s_.2 ≠ gb110) ∧ (gb111 ≠ s_.2) ∧ (s_.2 ≠ gb111) ∧ (Below w.heap.size w w')) ?_ ?_; rotate_left
         ·
          intro hJ6_11; refine join_ (σ := Value × Nat) 4 #[Y',Y',Y',Y',Y',Y',Z',Y',Y',Z',Z',Y',Z'] (fun s_ => [(39, s_.1), (6, .pointer (some ⟨s_.2, 0, none⟩))]) (fun s_ w' => (w'.cell? ⟨gb110, 0, none⟩ = some (.int .i64 a0_0) ∧ w'.cell? ⟨gb110, 1, none⟩ = some (.slice A0_1 l0_1.length c0_1)) ∧ (Kd.R (Kd.int .i64) 2 w' w.heap.size (fun _ => True) s_.1 y118) ∧ (w'.heap[gb110]? = some (.cells #[.int .i64 a0_0, .slice A0_1 l0_1.length c0_1] 26 (0, 0))) ∧ (w'.heap[gb111]? = some (.cells #[.int .i64 0, .int .i64 0, .slice none 0 0] 30 (0, 0))) ∧ (w'.heap[s_.2]? = some (.cells #[.int .i64 0, .slice none 0 0] 26 (0, 0))) ∧ (w.heap.size ≤ s_.2) ∧ (w.heap.size ≤ s_.2) ∧ (gb110 ≠ s_.2) ∧ (s_.2 ≠ gb110) ∧ (gb111 ≠ s_.2) ∧ (s_.2 ≠ gb111) ∧ (Below w.heap.size w w')) ?_ ?_; rotate_left
          ·
           intro hJ8_11; refine join_ (σ := Value) 5 #[Y',Y',Y',Y',Y',Y',Y',Y',Z',Z',Z',Z',Z'] (fun s_ => [(37, s_)]) (fun s_ w' => (w'.cell? ⟨gb110, 0, none⟩ = some (.int .i64 a0_0) ∧ w'.cell? ⟨gb110, 1, none⟩ = some (.slice A0_1 l0_1.length c0_1)) ∧ (Kd.R (Kd.int .i64) 2 w' w.heap.size (fun _ => True) s_ t115) ∧ (w'.heap[gb110]? = some (.cells #[.int .i64 a0_0, .slice A0_1 l0_1.length c0_1] 26 (0, 0))) ∧ (w'.heap[gb111]? = some (.cells #[.int .i64 0, .int .i64 0, .slice none 0 0] 30 (0, 0))) ∧ (Below w.heap.size w w')) ?_ ?_; rotate_left
           ·
            intro hJ6; refine join_ (σ := Value) 5 #[Y',Y',Y',Y',Y',Y',Z',Y',Y',Z',Z',Z',Z'] (fun s_ => [(39, s_)]) (fun s_ w' => (w'.cell? ⟨gb110, 0, none⟩ = some (.int .i64 a0_0) ∧ w'.cell? ⟨gb110, 1, none⟩ = some (.slice A0_1 l0_1.length c0_1)) ∧ (Kd.R (Kd.int .i64) 2 w' w.heap.size (fun _ => True) s_ y118) ∧ (w'.heap[gb110]? = some (.cells #[.int .i64 a0_0, .slice A0_1 l0_1.length c0_1] 26 (0, 0))) ∧ (w'.heap[gb111]? = some (.cells #[.int .i64 0, .int .i64 0, .slice none 0 0] 30 (0, 0))) ∧ (Below w.heap.size w w')) ?_ ?_; rotate_left
            ·
             intro hJ8; refine join_ (σ := Nat) 5 #[Y',Y',Y',Y',Y',Y',Z',Y',Z',Z',Z',Y',Z'] (fun s_ => [(6, .pointer (some ⟨s_, 0, none⟩))]) (fun s_ w' => (w'.cell? ⟨gb110, 0, none⟩ = some (.int .i64 a0_0) ∧ w'.cell? ⟨gb110, 1, none⟩ = some (.slice A0_1 l0_1.length c0_1)) ∧ (w'.heap[gb110]? = some (.cells #[.int .i64 a0_0, .slice A0_1 l0_1.length c0_1] 26 (0, 0))) ∧ (w'.heap[gb111]? = some (.cells #[.int .i64 0, .int .i64 0, .slice none 0 0] 30 (0, 0))) ∧ (w'.heap[s_]? = some (.cells #[.int .i64 0, .slice none 0 0] 26 (0, 0))) ∧ (w.heap.size ≤ s_) ∧ (w.heap.size ≤ s_) ∧ (gb110 ≠ s_) ∧ (s_ ≠ gb110) ∧ (gb111 ≠ s_) ∧ (s_ ≠ gb111) ∧ (Below w.heap.size w w')) ?_ ?_; rotate_left
             ·
              intro hJ11; refine three_ (i := 6) (j := 8) (k := 11) (Ni := some 37) (Nj := some 39) (Nk := some 6) #[Y',Y',Y',Y',Y',Y',Y',Y',Z',Z',Z',Z',Z'] #[Y',Y',Y',Y',Y',Y',Z',Y',Y',Z',Z',Z',Z'] #[Y',Y',Y',Y',Y',Y',Z',Y',Z',Z',Z',Y',Z'] rfl rfl rfl rfl rfl rfl (three_of HT_.out (by kernel_rfl)) (by decide) (by decide) (by decide) (fun K hK => ?_) (fun K hK => ?_) (fun K hK => ?_)
              ·
               refine goes_ Try.func42 (by kernel_rfl) rfl #[.slice A0_1 l0_1.length c0_1] (by rfl) rfl rfl args_a ?_
               with_reducible refine (slices_Clone_int64_int64.calls _ _ l0_1 t115 _ ?side1 ?side2 A24.out).mono ?_
               (case side1 => repeat (first | exact (Kd.C_below HR0_1.out HB.out) | (with_reducible refine Kd.C_alloc ?_ _) | (with_reducible refine Kd.C_drewN ?_ _) | (with_reducible refine Kd.C_drew ?_))); (case side2 => exact HC0_1.out); rintro e w29 ⟨v116, rfl, ho0, hb⟩; refine ⟨_, rfl, ?_⟩; have HO117 := Aside0.mk (Kd.R_lower ho0 (below_size below_a)); replace BK110 := Aside0.mk (blk_below (g := gb110) blk_c hb); replace BK111 := Aside0.mk (blk_below (g := gb111) blk_c hb); replace HB := Aside0.mk (below_step below_a hb); (try clear hb); (try clear hb2); (try clear hk); (try clear hi); (try clear ho0); refine hK.out _ _ ⟨(blk_cell BK110.out 0).trans rfl, (blk_cell BK110.out 1).trans rfl⟩ (fun hHeld => ?_); clear hK K; refine norm_ (a' := ?_) ?_ ?_; rotate_left
               ·
                show Act.put _ (some 37) _ = _; simp only [Act.put, List.setIfInBounds_toArray, List.set_cons_zero, List.set_cons_succ, i64_w, i32_w]; rfl
               exact norm_ (by first | (simp only [putAll, Act.put, List.setIfInBounds_toArray, List.set_cons_zero, List.set_cons_succ]; done) | (simp only [putAll, Act.put, List.setIfInBounds_toArray, List.set_cons_zero, List.set_cons_succ]; rfl)) (hJ6 (v116) _ ⟨hHeld, (R_a HO117.out), blk_a, blk_a, below_a⟩)
              ·
               refine Kd.R_lit_step (Kd.int .i64) _ 2 ?hg (N := 39) ?hd (xs := ([a1] : List Int)) (inner := [.int .i64 a1]) (ok := fun _ => True) (okp := fun _ => True) ?hr ?hp (fun _ hk => hk) trivial (Below.refl _ _) (Nat.le_refl _) (by simp) ?_; (case hd => rfl); (case hg => rfl); (case hr => first | (go_simp; done) | (go_simp; rfl)); (case hp => exact (Reps.one (show Kd.M (Kd.int .i64) _ _ _ a1 [.int .i64 a1] from rfl) (Reps.none _ _))); intro v119 w29 ho30 hb hg_ hnew_; clear hg_ hnew_; (first | rw [← Ny118.out] at ho30 | (simp only [Int.reduceToNat] at ho30; rw [← Ny118.out] at ho30)); have HO120 := Aside0.mk (Kd.R_lower ho30 (below_size below_a)); replace BK110 := Aside0.mk (blk_below (g := gb110) blk_c hb); replace BK111 := Aside0.mk (blk_below (g := gb111) blk_c hb); replace HB := Aside0.mk (below_step below_a hb); clear hb ho30; refine hK.out _ _ ⟨(blk_cell BK110.out 0).trans rfl, (blk_cell BK110.out 1).trans rfl⟩ (fun hHeld => ?_); clear hK K; refine norm_ (a' := ?_) ?_ ?_; rotate_left
               ·
                show Act.put _ (some 39) _ = _; simp only [Act.put, List.setIfInBounds_toArray, List.set_cons_zero, List.set_cons_succ, i64_w, i32_w]; rfl
               exact norm_ (by first | (simp only [putAll, Act.put, List.setIfInBounds_toArray, List.set_cons_zero, List.set_cons_succ]; done) | (simp only [putAll, Act.put, List.setIfInBounds_toArray, List.set_cons_zero, List.set_cons_succ]; rfl)) (hJ8 (v119) _ ⟨hHeld, (R_a HO120.out), blk_a, blk_a, below_a⟩)
              ·
               refine box_step ?hg (N := 6) ?hd (cs := #[.int .i64 0, .slice none 0 0]) (t := 26) ?hr ?_; (case hd => rfl); (case hg => rfl); (case hr => first | (go_simp; done) | (go_simp; rfl)); intro gb124 hg w29 hbox hb; have n0_ := Aside0.mk (blk_below (g := gb110) blk_c hb); have n1_ := Aside0.mk (blk_below (g := gb111) blk_c hb); have n2_ := Aside0.mk (below_step below_a hb); have BK124 := Aside0.mk (hbox); have GW124 := Aside0.mk (bsz_ (w := w) hg); have GE124 := Aside0.mk (bsz_ (w := w) hg); have NB110_124 := Aside0.mk (bne_ (g := gb110) hg); have NB124_110 := Aside0.mk (bne_ (g := gb110) hg).symm; have NB111_124 := Aside0.mk (bne_ (g := gb111) hg); have NB124_111 := Aside0.mk (bne_ (g := gb111) hg).symm; replace BK110 := n0_; replace BK111 := n1_; replace HB := n2_; clear n0_ n1_ n2_ hb hbox hg; refine hK.out _ _ ⟨(blk_cell BK110.out 0).trans rfl, (blk_cell BK110.out 1).trans rfl⟩ (fun hHeld => ?_); clear hK K; refine norm_ (a' := ?_) ?_ ?_; rotate_left
               ·
                show Act.put _ (some 6) _ = _; simp only [Act.put, List.setIfInBounds_toArray, List.set_cons_zero, List.set_cons_succ, i64_w, i32_w]; rfl
               exact norm_ (by first | (simp only [putAll, Act.put, List.setIfInBounds_toArray, List.set_cons_zero, List.set_cons_succ]; done) | (simp only [putAll, Act.put, List.setIfInBounds_toArray, List.set_cons_zero, List.set_cons_succ]; rfl)) (hJ11 (gb124) _ ⟨hHeld, blk_a, blk_a, blk_a, GW124.out, GE124.out, NB110_124.out, NB124_110.out, NB111_124.out, NB124_111.out, below_a⟩)
             ·
              rintro gb124 w30 ⟨hS_, h0_, h1_, h2_, h3_, h4_, h5_, h6_, h7_, h8_, h9_⟩
              try dsimp only at hS_ h0_ h1_ h2_ h3_ h4_ h5_ h6_ h7_ h8_ h9_
              clear BK110 BK111 HB; have BK110 := Aside0.mk h0_; have BK111 := Aside0.mk h1_; have BK124 := Aside0.mk h2_; have GW124 := Aside0.mk h3_; have GE124 := Aside0.mk h4_; have NB110_124 := Aside0.mk h5_; have NB124_110 := Aside0.mk h6_; have NB111_124 := Aside0.mk h7_; have NB124_111 := Aside0.mk h8_; have HB := Aside0.mk h9_; clear h0_ h1_ h2_ h3_ h4_ h5_ h6_ h7_ h8_ h9_; have hHeld : w30.cell? ⟨gb110, 0, none⟩ = some (.int .i64 a0_0) ∧ w30.cell? ⟨gb110, 1, none⟩ = some (.slice A0_1 l0_1.length c0_1) := hS_; refine norm_ (a' := ?_) ?_ ?_; rotate_left
              ·
               simp only [putAll, Act.put, List.setIfInBounds_toArray, List.set_cons_zero, List.set_cons_succ]; rfl
              refine two_ (i := 6) (j := 8) (Ni := some 37) (Nj := some 39) #[Y',Y',Y',Y',Y',Y',Y',Y',Z',Z',Z',Y',Z'] #[Y',Y',Y',Y',Y',Y',Z',Y',Y',Z',Z',Y',Z'] rfl rfl rfl rfl (two_of HT_.out (by kernel_rfl)) (by decide) (by decide) (fun K hK => ?_) (fun K hK => ?_)
              ·
               refine goes_ Try.func42 (by kernel_rfl) rfl #[.slice A0_1 l0_1.length c0_1] (by rfl) rfl rfl args_a ?_
               with_reducible refine (slices_Clone_int64_int64.calls _ _ l0_1 t115 _ ?side1 ?side2 A24.out).mono ?_
               (case side1 => repeat (first | exact (Kd.C_below HR0_1.out HB.out) | (with_reducible refine Kd.C_alloc ?_ _) | (with_reducible refine Kd.C_drewN ?_ _) | (with_reducible refine Kd.C_drew ?_))); (case side2 => exact HC0_1.out); rintro e w31 ⟨v116, rfl, ho0, hb⟩; refine ⟨_, rfl, ?_⟩; have HO117 := Aside0.mk (Kd.R_lower ho0 (below_size below_a)); replace BK110 := Aside0.mk (blk_below (g := gb110) blk_c hb); replace BK111 := Aside0.mk (blk_below (g := gb111) blk_c hb); replace BK124 := Aside0.mk (blk_below (g := gb124) blk_c hb); replace HB := Aside0.mk (below_step below_a hb); (try clear hb); (try clear hb2); (try clear hk); (try clear hi); (try clear ho0); refine hK.out _ _ ⟨(blk_cell BK110.out 0).trans rfl, (blk_cell BK110.out 1).trans rfl⟩ (fun hHeld => ?_); clear hK K; refine norm_ (a' := ?_) ?_ ?_; rotate_left
               ·
                show Act.put _ (some 37) _ = _; simp only [Act.put, List.setIfInBounds_toArray, List.set_cons_zero, List.set_cons_succ, i64_w, i32_w]; rfl
               exact norm_ (by first | (simp only [putAll, Act.put, List.setIfInBounds_toArray, List.set_cons_zero, List.set_cons_succ]; done) | (simp only [putAll, Act.put, List.setIfInBounds_toArray, List.set_cons_zero, List.set_cons_succ]; rfl)) (hJ6_11 (v116, gb124) _ ⟨hHeld, (R_a HO117.out), blk_a, blk_a, blk_a, GW124.out, GE124.out, NB110_124.out, NB124_110.out, NB111_124.out, NB124_111.out, below_a⟩)
              ·
               refine Kd.R_lit_step (Kd.int .i64) _ 2 ?hg (N := 39) ?hd (xs := ([a1] : List Int)) (inner := [.int .i64 a1]) (ok := fun _ => True) (okp := fun _ => True) ?hr ?hp (fun _ hk => hk) trivial (Below.refl _ _) (Nat.le_refl _) (by simp) ?_; (case hd => rfl); (case hg => rfl); (case hr => first | (go_simp; done) | (go_simp; rfl)); (case hp => exact (Reps.one (show Kd.M (Kd.int .i64) _ _ _ a1 [.int .i64 a1] from rfl) (Reps.none _ _))); intro v119 w31 ho32 hb hg_ hnew_; clear hg_ hnew_; (first | rw [← Ny118.out] at ho32 | (simp only [Int.reduceToNat] at ho32; rw [← Ny118.out] at ho32)); have HO120 := Aside0.mk (Kd.R_lower ho32 (below_size below_a)); replace BK110 := Aside0.mk (blk_below (g := gb110) blk_c hb); replace BK111 := Aside0.mk (blk_below (g := gb111) blk_c hb); replace BK124 := Aside0.mk (blk_below (g := gb124) blk_c hb); replace HB := Aside0.mk (below_step below_a hb); clear hb ho32; refine hK.out _ _ ⟨(blk_cell BK110.out 0).trans rfl, (blk_cell BK110.out 1).trans rfl⟩ (fun hHeld => ?_); clear hK K; refine norm_ (a' := ?_) ?_ ?_; rotate_left
               ·
                show Act.put _ (some 39) _ = _; simp only [Act.put, List.setIfInBounds_toArray, List.set_cons_zero, List.set_cons_succ, i64_w, i32_w]; rfl
               exact norm_ (by first | (simp only [putAll, Act.put, List.setIfInBounds_toArray, List.set_cons_zero, List.set_cons_succ]; done) | (simp only [putAll, Act.put, List.setIfInBounds_toArray, List.set_cons_zero, List.set_cons_succ]; rfl)) (hJ8_11 (v119, gb124) _ ⟨hHeld, (R_a HO120.out), blk_a, blk_a, blk_a, GW124.out, GE124.out, NB110_124.out, NB124_110.out, NB111_124.out, NB124_111.out, below_a⟩)
            ·
             rintro v119 w31 ⟨hS_, h0_, h1_, h2_, h3_⟩
             try dsimp only at hS_ h0_ h1_ h2_ h3_
             clear BK110 BK111 HB; have HO120 := Aside0.mk h0_; have BK110 := Aside0.mk h1_; have BK111 := Aside0.mk h2_; have HB := Aside0.mk h3_; clear h0_ h1_ h2_ h3_; have hHeld : w31.cell? ⟨gb110, 0, none⟩ = some (.int .i64 a0_0) ∧ w31.cell? ⟨gb110, 1, none⟩ = some (.slice A0_1 l0_1.length c0_1) := hS_; refine norm_ (a' := ?_) ?_ ?_; rotate_left
             ·
              simp only [putAll, Act.put, List.setIfInBounds_toArray, List.set_cons_zero, List.set_cons_succ]; rfl
             refine two_ (i := 6) (j := 11) (Ni := some 37) (Nj := some 6) #[Y',Y',Y',Y',Y',Y',Y',Y',Y',Z',Z',Z',Z'] #[Y',Y',Y',Y',Y',Y',Z',Y',Y',Z',Z',Y',Z'] rfl rfl rfl rfl (two_of HT_.out (by kernel_rfl)) (by decide) (by decide) (fun K hK => ?_) (fun K hK => ?_)
             ·
              refine goes_ Try.func42 (by kernel_rfl) rfl #[.slice A0_1 l0_1.length c0_1] (by rfl) rfl rfl args_a ?_
              with_reducible refine (slices_Clone_int64_int64.calls _ _ l0_1 t115 _ ?side1 ?side2 A24.out).mono ?_
              (case side1 => repeat (first | exact (Kd.C_below HR0_1.out HB.out) | (with_reducible refine Kd.C_alloc ?_ _) | (with_reducible refine Kd.C_drewN ?_ _) | (with_reducible refine Kd.C_drew ?_))); (case side2 => exact HC0_1.out); rintro e w32 ⟨v116, rfl, ho0, hb⟩; refine ⟨_, rfl, ?_⟩; have n0_ := Aside0.mk (Kd.R_elder' (R_a HO120.out) (Kd.R_base ho0) hb); have HO117 := Aside0.mk (Kd.R_lower (Kd.R_new' ho0 (Kd.R_lt (R_a HO120.out))) (below_size below_a)); replace BK110 := Aside0.mk (blk_below (g := gb110) blk_c hb); replace BK111 := Aside0.mk (blk_below (g := gb111) blk_c hb); replace HB := Aside0.mk (below_step below_a hb); replace HO120 := n0_; clear n0_; (try clear hb); (try clear hb2); (try clear hk); (try clear hi); (try clear ho0); refine hK.out _ _ ⟨(blk_cell BK110.out 0).trans rfl, (blk_cell BK110.out 1).trans rfl⟩ (fun hHeld => ?_); clear hK K; refine norm_ (a' := ?_) ?_ ?_; rotate_left
              ·
               show Act.put _ (some 37) _ = _; simp only [Act.put, List.setIfInBounds_toArray, List.set_cons_zero, List.set_cons_succ, i64_w, i32_w]; rfl
              exact norm_ (by first | (simp only [putAll, Act.put, List.setIfInBounds_toArray, List.set_cons_zero, List.set_cons_succ]; done) | (simp only [putAll, Act.put, List.setIfInBounds_toArray, List.set_cons_zero, List.set_cons_succ]; rfl)) (hJ6_8 (v116, v119) _ ⟨hHeld, (by (with_reducible repeat (first | apply Kd.R_alloc | apply Kd.R_drewN | apply Kd.R_drew)); exact Kd.R_mono HO117.out (fun _ hk => hk.2)), (by (with_reducible repeat (first | apply Kd.R_alloc | apply Kd.R_drewN | apply Kd.R_drew)); exact Kd.R_mono HO120.out (fun _ hk => hk.2)), blk_a, blk_a, below_a⟩)
             ·
              refine box_step ?hg (N := 6) ?hd (cs := #[.int .i64 0, .slice none 0 0]) (t := 26) ?hr ?_; (case hd => rfl); (case hg => rfl); (case hr => first | (go_simp; done) | (go_simp; rfl)); intro gb124 hg w32 hbox hb; replace HO120 := Aside0.mk (Kd.R_below (R_a HO120.out) hb); have n1_ := Aside0.mk (blk_below (g := gb110) blk_c hb); have n2_ := Aside0.mk (blk_below (g := gb111) blk_c hb); have n3_ := Aside0.mk (below_step below_a hb); have BK124 := Aside0.mk (hbox); have GW124 := Aside0.mk (bsz_ (w := w) hg); have GE124 := Aside0.mk (bsz_ (w := w) hg); have NB110_124 := Aside0.mk (bne_ (g := gb110) hg); have NB124_110 := Aside0.mk (bne_ (g := gb110) hg).symm; have NB111_124 := Aside0.mk (bne_ (g := gb111) hg); have NB124_111 := Aside0.mk (bne_ (g := gb111) hg).symm; replace BK110 := n1_; replace BK111 := n2_; replace HB := n3_; clear n1_ n2_ n3_ hb hbox hg; refine hK.out _ _ ⟨(blk_cell BK110.out 0).trans rfl, (blk_cell BK110.out 1).trans rfl⟩ (fun hHeld => ?_); clear hK K; refine norm_ (a' := ?_) ?_ ?_; rotate_left
              ·
               show Act.put _ (some 6) _ = _; simp only [Act.put, List.setIfInBounds_toArray, List.set_cons_zero, List.set_cons_succ, i64_w, i32_w]; rfl
              exact norm_ (by first | (simp only [putAll, Act.put, List.setIfInBounds_toArray, List.set_cons_zero, List.set_cons_succ]; done) | (simp only [putAll, Act.put, List.setIfInBounds_toArray, List.set_cons_zero, List.set_cons_succ]; rfl)) (hJ8_11 (v119, gb124) _ ⟨hHeld, (R_a HO120.out), blk_a, blk_a, blk_a, GW124.out, GE124.out, NB110_124.out, NB124_110.out, NB111_124.out, NB124_111.out, below_a⟩)
           ·
            rintro v116 w30 ⟨hS_, h0_, h1_, h2_, h3_⟩
            try dsimp only at hS_ h0_ h1_ h2_ h3_
            clear BK110 BK111 HB; have HO117 := Aside0.mk h0_; have BK110 := Aside0.mk h1_; have BK111 := Aside0.mk h2_; have HB := Aside0.mk h3_; clear h0_ h1_ h2_ h3_; have hHeld : w30.cell? ⟨gb110, 0, none⟩ = some (.int .i64 a0_0) ∧ w30.cell? ⟨gb110, 1, none⟩ = some (.slice A0_1 l0_1.length c0_1) := hS_; refine norm_ (a' := ?_) ?_ ?_; rotate_left
            ·
             simp only [putAll, Act.put, List.setIfInBounds_toArray, List.set_cons_zero, List.set_cons_succ]; rfl
            refine two_ (i := 8) (j := 11) (Ni := some 39) (Nj := some 6) #[Y',Y',Y',Y',Y',Y',Y',Y',Y',Z',Z',Z',Z'] #[Y',Y',Y',Y',Y',Y',Y',Y',Z',Z',Z',Y',Z'] rfl rfl rfl rfl (two_of HT_.out (by kernel_rfl)) (by decide) (by decide) (fun K hK => ?_) (fun K hK => ?_)
            ·
             refine Kd.R_lit_step (Kd.int .i64) _ 2 ?hg (N := 39) ?hd (xs := ([a1] : List Int)) (inner := [.int .i64 a1]) (ok := fun _ => True) (okp := fun _ => True) ?hr ?hp (fun _ hk => hk) trivial (Below.refl _ _) (Nat.le_refl _) (by simp) ?_; (case hd => rfl); (case hg => rfl); (case hr => first | (go_simp; done) | (go_simp; rfl)); (case hp => exact (Reps.one (show Kd.M (Kd.int .i64) _ _ _ a1 [.int .i64 a1] from rfl) (Reps.none _ _))); intro v119 w31 ho32 hb hg_ hnew_; clear hg_ hnew_; (first | rw [← Ny118.out] at ho32 | (simp only [Int.reduceToNat] at ho32; rw [← Ny118.out] at ho32)); have n0_ := Aside0.mk (Kd.R_elder' (R_a HO117.out) (Kd.R_base ho32) hb); have HO120 := Aside0.mk (Kd.R_lower (Kd.R_new' ho32 (Kd.R_lt (R_a HO117.out))) (below_size below_a)); replace BK110 := Aside0.mk (blk_below (g := gb110) blk_c hb); replace BK111 := Aside0.mk (blk_below (g := gb111) blk_c hb); replace HB := Aside0.mk (below_step below_a hb); replace HO117 := n0_; clear n0_ hb ho32; refine hK.out _ _ ⟨(blk_cell BK110.out 0).trans rfl, (blk_cell BK110.out 1).trans rfl⟩ (fun hHeld => ?_); clear hK K; refine norm_ (a' := ?_) ?_ ?_; rotate_left
             ·
              show Act.put _ (some 39) _ = _; simp only [Act.put, List.setIfInBounds_toArray, List.set_cons_zero, List.set_cons_succ, i64_w, i32_w]; rfl
             exact norm_ (by first | (simp only [putAll, Act.put, List.setIfInBounds_toArray, List.set_cons_zero, List.set_cons_succ]; done) | (simp only [putAll, Act.put, List.setIfInBounds_toArray, List.set_cons_zero, List.set_cons_succ]; rfl)) (hJ6_8 (v116, v119) _ ⟨hHeld, (by (with_reducible repeat (first | apply Kd.R_alloc | apply Kd.R_drewN | apply Kd.R_drew)); exact Kd.R_mono HO117.out (fun _ hk => hk.2)), (by (with_reducible repeat (first | apply Kd.R_alloc | apply Kd.R_drewN | apply Kd.R_drew)); exact Kd.R_mono HO120.out (fun _ hk => hk.2)), blk_a, blk_a, below_a⟩)
            ·
             refine box_step ?hg (N := 6) ?hd (cs := #[.int .i64 0, .slice none 0 0]) (t := 26) ?hr ?_; (case hd => rfl); (case hg => rfl); (case hr => first | (go_simp; done) | (go_simp; rfl)); intro gb124 hg w31 hbox hb; replace HO117 := Aside0.mk (Kd.R_below (R_a HO117.out) hb); have n1_ := Aside0.mk (blk_below (g := gb110) blk_c hb); have n2_ := Aside0.mk (blk_below (g := gb111) blk_c hb); have n3_ := Aside0.mk (below_step below_a hb); have BK124 := Aside0.mk (hbox); have GW124 := Aside0.mk (bsz_ (w := w) hg); have GE124 := Aside0.mk (bsz_ (w := w) hg); have NB110_124 := Aside0.mk (bne_ (g := gb110) hg); have NB124_110 := Aside0.mk (bne_ (g := gb110) hg).symm; have NB111_124 := Aside0.mk (bne_ (g := gb111) hg); have NB124_111 := Aside0.mk (bne_ (g := gb111) hg).symm; replace BK110 := n1_; replace BK111 := n2_; replace HB := n3_; clear n1_ n2_ n3_ hb hbox hg; refine hK.out _ _ ⟨(blk_cell BK110.out 0).trans rfl, (blk_cell BK110.out 1).trans rfl⟩ (fun hHeld => ?_); clear hK K; refine norm_ (a' := ?_) ?_ ?_; rotate_left
             ·
              show Act.put _ (some 6) _ = _; simp only [Act.put, List.setIfInBounds_toArray, List.set_cons_zero, List.set_cons_succ, i64_w, i32_w]; rfl
             exact norm_ (by first | (simp only [putAll, Act.put, List.setIfInBounds_toArray, List.set_cons_zero, List.set_cons_succ]; done) | (simp only [putAll, Act.put, List.setIfInBounds_toArray, List.set_cons_zero, List.set_cons_succ]; rfl)) (hJ6_11 (v116, gb124) _ ⟨hHeld, (R_a HO117.out), blk_a, blk_a, blk_a, GW124.out, GE124.out, NB110_124.out, NB124_110.out, NB111_124.out, NB124_111.out, below_a⟩)
          ·
           rintro ⟨v119, gb124⟩ w32 ⟨hS_, h0_, h1_, h2_, h3_, h4_, h5_, h6_, h7_, h8_, h9_, h10_⟩
           try dsimp only at hS_ h0_ h1_ h2_ h3_ h4_ h5_ h6_ h7_ h8_ h9_ h10_
           clear BK110 BK111 HB; have HO120 := Aside0.mk h0_; have BK110 := Aside0.mk h1_; have BK111 := Aside0.mk h2_; have BK124 := Aside0.mk h3_; have GW124 := Aside0.mk h4_; have GE124 := Aside0.mk h5_; have NB110_124 := Aside0.mk h6_; have NB124_110 := Aside0.mk h7_; have NB111_124 := Aside0.mk h8_; have NB124_111 := Aside0.mk h9_; have HB := Aside0.mk h10_; clear h0_ h1_ h2_ h3_ h4_ h5_ h6_ h7_ h8_ h9_ h10_; have hHeld : w32.cell? ⟨gb110, 0, none⟩ = some (.int .i64 a0_0) ∧ w32.cell? ⟨gb110, 1, none⟩ = some (.slice A0_1 l0_1.length c0_1) := hS_; refine norm_ (a' := ?_) ?_ ?_; rotate_left
           ·
            simp only [putAll, Act.put, List.setIfInBounds_toArray, List.set_cons_zero, List.set_cons_succ]; rfl
           refine one_ (i := 6) (N := some 37) #[Y',Y',Y',Y',Y',Y',Y',Y',Y',Z',Z',Y',Z'] rfl rfl (one_of HT_.out (by kernel_rfl)) (by decide) (fun K hK => ?_); refine goes_ Try.func42 (by kernel_rfl) rfl #[.slice A0_1 l0_1.length c0_1] (by rfl) rfl rfl args_a ?_
           with_reducible refine (slices_Clone_int64_int64.calls _ _ l0_1 t115 _ ?side1 ?side2 A24.out).mono ?_
           (case side1 => repeat (first | exact (Kd.C_below HR0_1.out HB.out) | (with_reducible refine Kd.C_alloc ?_ _) | (with_reducible refine Kd.C_drewN ?_ _) | (with_reducible refine Kd.C_drew ?_))); (case side2 => exact HC0_1.out); rintro e w33 ⟨v116, rfl, ho0, hb⟩; refine ⟨_, rfl, ?_⟩; have n0_ := Aside0.mk (Kd.R_elder' (R_a HO120.out) (Kd.R_base ho0) hb); have HO117 := Aside0.mk (Kd.R_lower (Kd.R_new' ho0 (Kd.R_lt (R_a HO120.out))) (below_size below_a)); replace BK110 := Aside0.mk (blk_below (g := gb110) blk_c hb); replace BK111 := Aside0.mk (blk_below (g := gb111) blk_c hb); replace BK124 := Aside0.mk (blk_below (g := gb124) blk_c hb); replace HB := Aside0.mk (below_step below_a hb); replace HO120 := n0_; clear n0_; (try clear hb); (try clear hb2); (try clear hk); (try clear hi); (try clear ho0); refine hK.out _ _ ⟨(blk_cell BK110.out 0).trans rfl, (blk_cell BK110.out 1).trans rfl⟩ (fun hHeld => ?_); clear hK K; refine norm_ (a' := ?_) ?_ ?_; rotate_left
           ·
            show Act.put _ (some 37) _ = _; simp only [Act.put, List.setIfInBounds_toArray, List.set_cons_zero, List.set_cons_succ, i64_w, i32_w]; rfl
           exact norm_ (by first | (simp only [putAll, Act.put, List.setIfInBounds_toArray, List.set_cons_zero, List.set_cons_succ]; done) | (simp only [putAll, Act.put, List.setIfInBounds_toArray, List.set_cons_zero, List.set_cons_succ]; rfl)) (hJ6_8_11 (v116, v119, gb124) _ ⟨hHeld, (by (with_reducible repeat (first | apply Kd.R_alloc | apply Kd.R_drewN | apply Kd.R_drew)); exact Kd.R_mono HO117.out (fun _ hk => hk.2)), (by (with_reducible repeat (first | apply Kd.R_alloc | apply Kd.R_drewN | apply Kd.R_drew)); exact Kd.R_mono HO120.out (fun _ hk => hk.2)), blk_a, blk_a, blk_a, GW124.out, GE124.out, NB110_124.out, NB124_110.out, NB111_124.out, NB124_111.out, below_a⟩)
         ·
          rintro ⟨v116, gb124⟩ w31 ⟨hS_, h0_, h1_, h2_, h3_, h4_, h5_, h6_, h7_, h8_, h9_, h10_⟩
          try dsimp only at hS_ h0_ h1_ h2_ h3_ h4_ h5_ h6_ h7_ h8_ h9_ h10_
          clear BK110 BK111 HB; have HO117 := Aside0.mk h0_; have BK110 := Aside0.mk h1_; have BK111 := Aside0.mk h2_; have BK124 := Aside0.mk h3_; have GW124 := Aside0.mk h4_; have GE124 := Aside0.mk h5_; have NB110_124 := Aside0.mk h6_; have NB124_110 := Aside0.mk h7_; have NB111_124 := Aside0.mk h8_; have NB124_111 := Aside0.mk h9_; have HB := Aside0.mk h10_; clear h0_ h1_ h2_ h3_ h4_ h5_ h6_ h7_ h8_ h9_ h10_; have hHeld : w31.cell? ⟨gb110, 0, none⟩ = some (.int .i64 a0_0) ∧ w31.cell? ⟨gb110, 1, none⟩ = some (.slice A0_1 l0_1.length c0_1) := hS_; refine norm_ (a' := ?_) ?_ ?_; rotate_left
          ·
           simp only [putAll, Act.put, List.setIfInBounds_toArray, List.set_cons_zero, List.set_cons_succ]; rfl
          refine one_ (i := 8) (N := some 39) #[Y',Y',Y',Y',Y',Y',Y',Y',Y',Z',Z',Y',Z'] rfl rfl (one_of HT_.out (by kernel_rfl)) (by decide) (fun K hK => ?_); refine Kd.R_lit_step (Kd.int .i64) _ 2 ?hg (N := 39) ?hd (xs := ([a1] : List Int)) (inner := [.int .i64 a1]) (ok := fun _ => True) (okp := fun _ => True) ?hr ?hp (fun _ hk => hk) trivial (Below.refl _ _) (Nat.le_refl _) (by simp) ?_; (case hd => rfl); (case hg => rfl); (case hr => first | (go_simp; done) | (go_simp; rfl)); (case hp => exact (Reps.one (show Kd.M (Kd.int .i64) _ _ _ a1 [.int .i64 a1] from rfl) (Reps.none _ _))); intro v119 w32 ho33 hb hg_ hnew_; clear hg_ hnew_; (first | rw [← Ny118.out] at ho33 | (simp only [Int.reduceToNat] at ho33; rw [← Ny118.out] at ho33)); have n0_ := Aside0.mk (Kd.R_elder' (R_a HO117.out) (Kd.R_base ho33) hb); have HO120 := Aside0.mk (Kd.R_lower (Kd.R_new' ho33 (Kd.R_lt (R_a HO117.out))) (below_size below_a)); replace BK110 := Aside0.mk (blk_below (g := gb110) blk_c hb); replace BK111 := Aside0.mk (blk_below (g := gb111) blk_c hb); replace BK124 := Aside0.mk (blk_below (g := gb124) blk_c hb); replace HB := Aside0.mk (below_step below_a hb); replace HO117 := n0_; clear n0_ hb ho33; refine hK.out _ _ ⟨(blk_cell BK110.out 0).trans rfl, (blk_cell BK110.out 1).trans rfl⟩ (fun hHeld => ?_); clear hK K; refine norm_ (a' := ?_) ?_ ?_; rotate_left
          ·
           show Act.put _ (some 39) _ = _; simp only [Act.put, List.setIfInBounds_toArray, List.set_cons_zero, List.set_cons_succ, i64_w, i32_w]; rfl
          exact norm_ (by first | (simp only [putAll, Act.put, List.setIfInBounds_toArray, List.set_cons_zero, List.set_cons_succ]; done) | (simp only [putAll, Act.put, List.setIfInBounds_toArray, List.set_cons_zero, List.set_cons_succ]; rfl)) (hJ6_8_11 (v116, v119, gb124) _ ⟨hHeld, (by (with_reducible repeat (first | apply Kd.R_alloc | apply Kd.R_drewN | apply Kd.R_drew)); exact Kd.R_mono HO117.out (fun _ hk => hk.2)), (by (with_reducible repeat (first | apply Kd.R_alloc | apply Kd.R_drewN | apply Kd.R_drew)); exact Kd.R_mono HO120.out (fun _ hk => hk.2)), blk_a, blk_a, blk_a, GW124.out, GE124.out, NB110_124.out, NB124_110.out, NB111_124.out, NB124_111.out, below_a⟩)
        ·
         rintro ⟨v116, v119⟩ w32 ⟨hS_, h0_, h1_, h2_, h3_, h4_⟩
         try dsimp only at hS_ h0_ h1_ h2_ h3_ h4_
         clear BK110 BK111 HB; have HO117 := Aside0.mk h0_; have HO120 := Aside0.mk h1_; have BK110 := Aside0.mk h2_; have BK111 := Aside0.mk h3_; have HB := Aside0.mk h4_; clear h0_ h1_ h2_ h3_ h4_; have hHeld : w32.cell? ⟨gb110, 0, none⟩ = some (.int .i64 a0_0) ∧ w32.cell? ⟨gb110, 1, none⟩ = some (.slice A0_1 l0_1.length c0_1) := hS_; obtain ⟨Ao34, co34, eo34⟩ := Kd.R_slice HO120.out; (first | subst eo34 | (injection eo34 with f1_ f2_ f3_; have f4_ := f1_.symm; have f5_ := f3_.symm; clear f1_ f2_ f3_; subst f4_; subst f5_)); refine norm_ (a' := ?_) ?_ ?_; rotate_left
         ·
          simp only [putAll, Act.put, List.setIfInBounds_toArray, List.set_cons_zero, List.set_cons_succ]; rfl
         refine two_ (i := 9) (j := 11) (Ni := some 40) (Nj := some 6) #[Y',Y',Y',Y',Y',Y',Y',Y',Y',Y',Z',Z',Z'] #[Y',Y',Y',Y',Y',Y',Y',Y',Y',Z',Z',Y',Z'] rfl rfl rfl rfl (two_of HT_.out (by kernel_rfl)) (by decide) (by decide) (fun K hK => ?_) (fun K hK => ?_)
         ·
          refine Kd.R_append_rows_step (Kd.int .i64) (w0 := w) w.heap.size (by rfl) (.tmp 37) (.tmp 39) 24 2 (.int .i64 0) 8 rfl Try.underlying24 info2 rfl (by decide) (by omega) v116 t115 y118 _ _ _ (fun k_ => some k_ ≠ (.slice Ao34 y118.length co34 : Value).ownBlock) (fun _ => False) rfl rfl ?aO ?aR (fun _ _ h => h) (fun _ h => h.elim) ?aF ?aB ?aS ?aL ?_; (case aR => repeat (first | exact (Kd.R_reads' HO120.out).2.2 | (with_reducible refine Kd.C_alloc ?_ _) | (with_reducible refine Kd.C_drewN ?_ _) | (with_reducible refine Kd.C_drew ?_))); (case aB => exact below_a); (case aF => exact (fun k_ hk => Kd.fresh' (Kd.R_lt (R_a HO120.out)) k_ hk)); (case aO => exact (R_a HO117.out)); (case aS => exact (below_size below_a)); (case aL => have := LMc25.out; omega); intro v122 w33 ho hb hg hat; rw [← Ny121.out] at ho; replace BK110 := Aside0.mk (blk_grown (g := gb110) blk_c hg (Kd.R_ne HO117.out BK110.out (by decide))); replace BK111 := Aside0.mk (blk_grown (g := gb111) blk_c hg (Kd.R_ne HO117.out BK111.out (by decide))); replace HO120 := Aside0.mk (Kd.R_after (ok := (fun _ => True)) (by (with_reducible repeat (first | apply Kd.R_alloc | apply Kd.R_drewN | apply Kd.R_drew)); exact Kd.R_mono HO120.out (fun _ hk => ⟨trivial, hk⟩)) hg hat); replace HB := Aside0.mk (hb); have HO123 := Aside0.mk (ho); clear HO117 ho hb hg hat; obtain ⟨Ao35, co35, eo35⟩ := Kd.R_slice HO123.out; (first | subst eo35 | (injection eo35 with f1_ f2_ f3_; have f4_ := f1_.symm; have f5_ := f3_.symm; clear f1_ f2_ f3_; subst f4_; subst f5_)); refine hK.out _ _ ⟨(blk_cell BK110.out 0).trans rfl, (blk_cell BK110.out 1).trans rfl⟩ (fun hHeld => ?_); clear hK K; refine norm_ (a' := ?_) ?_ ?_; rotate_left
          ·
           show Act.put _ (some 40) _ = _; simp only [Act.put, List.setIfInBounds_toArray, List.set_cons_zero, List.set_cons_succ, i64_w, i32_w]; rfl
          refine pure_ (i := 10) (N := some 41) (v := ?_) (a' := ?_) #[Y',Y',Y',Y',Y',Y',Y',Y',Y',Y',Y',Z',Z'] rfl rfl (any_of HT_.out (by kernel_rfl)) (fun _ _ _ h => h) (Or.inl ⟨by rfl, ?_⟩) ?_ ?_; rotate_left
          ·
           intro w'
           go_simp
           with_reducible rfl
          rotate_left
          ·
           simp only [Act.put, List.setIfInBounds_toArray, List.set_cons_zero, List.set_cons_succ, i64_w, i32_w]; rfl
          exact norm_ (by first | (simp only [putAll, Act.put, List.setIfInBounds_toArray, List.set_cons_zero, List.set_cons_succ]; done) | (simp only [putAll, Act.put, List.setIfInBounds_toArray, List.set_cons_zero, List.set_cons_succ]; rfl)) (hJ6_8_9 (v116, .slice Ao34 y118.length co34, .slice Ao35 y121.length co35) _ ⟨hHeld, (by (with_reducible repeat (first | apply Kd.R_alloc | apply Kd.R_drewN | apply Kd.R_drew)); exact Kd.R_mono HO120.out (fun _ hk => hk.2)), (R_a HO123.out), blk_a, blk_a, below_a⟩)
         ·
          refine box_step ?hg (N := 6) ?hd (cs := #[.int .i64 0, .slice none 0 0]) (t := 26) ?hr ?_; (case hd => rfl); (case hg => rfl); (case hr => first | (go_simp; done) | (go_simp; rfl)); intro gb124 hg w33 hbox hb; replace HO117 := Aside0.mk (Kd.R_below (R_a HO117.out) hb); replace HO120 := Aside0.mk (Kd.R_below (R_a HO120.out) hb); have n2_ := Aside0.mk (blk_below (g := gb110) blk_c hb); have n3_ := Aside0.mk (blk_below (g := gb111) blk_c hb); have n4_ := Aside0.mk (below_step below_a hb); have BK124 := Aside0.mk (hbox); have GW124 := Aside0.mk (bsz_ (w := w) hg); have GE124 := Aside0.mk (bsz_ (w := w) hg); have NB110_124 := Aside0.mk (bne_ (g := gb110) hg); have NB124_110 := Aside0.mk (bne_ (g := gb110) hg).symm; have NB111_124 := Aside0.mk (bne_ (g := gb111) hg); have NB124_111 := Aside0.mk (bne_ (g := gb111) hg).symm; replace BK110 := n2_; replace BK111 := n3_; replace HB := n4_; clear n2_ n3_ n4_ hb hbox hg; refine hK.out _ _ ⟨(blk_cell BK110.out 0).trans rfl, (blk_cell BK110.out 1).trans rfl⟩ (fun hHeld => ?_); clear hK K; refine norm_ (a' := ?_) ?_ ?_; rotate_left
          ·
           show Act.put _ (some 6) _ = _; simp only [Act.put, List.setIfInBounds_toArray, List.set_cons_zero, List.set_cons_succ, i64_w, i32_w]; rfl
          exact norm_ (by first | (simp only [putAll, Act.put, List.setIfInBounds_toArray, List.set_cons_zero, List.set_cons_succ]; done) | (simp only [putAll, Act.put, List.setIfInBounds_toArray, List.set_cons_zero, List.set_cons_succ]; rfl)) (hJ6_8_11 (v116, .slice Ao34 y118.length co34, gb124) _ ⟨hHeld, (R_a HO117.out), (R_a HO120.out), blk_a, blk_a, blk_a, GW124.out, GE124.out, NB110_124.out, NB124_110.out, NB111_124.out, NB124_111.out, below_a⟩)
       ·
        rintro ⟨v116, v119, gb124⟩ w33 ⟨hS_, h0_, h1_, h2_, h3_, h4_, h5_, h6_, h7_, h8_, h9_, h10_, h11_⟩
        try dsimp only at hS_ h0_ h1_ h2_ h3_ h4_ h5_ h6_ h7_ h8_ h9_ h10_ h11_
        clear BK110 BK111 HB; have HO117 := Aside0.mk h0_; have HO120 := Aside0.mk h1_; have BK110 := Aside0.mk h2_; have BK111 := Aside0.mk h3_; have BK124 := Aside0.mk h4_; have GW124 := Aside0.mk h5_; have GE124 := Aside0.mk h6_; have NB110_124 := Aside0.mk h7_; have NB124_110 := Aside0.mk h8_; have NB111_124 := Aside0.mk h9_; have NB124_111 := Aside0.mk h10_; have HB := Aside0.mk h11_; clear h0_ h1_ h2_ h3_ h4_ h5_ h6_ h7_ h8_ h9_ h10_ h11_; have hHeld : w33.cell? ⟨gb110, 0, none⟩ = some (.int .i64 a0_0) ∧ w33.cell? ⟨gb110, 1, none⟩ = some (.slice A0_1 l0_1.length c0_1) := hS_; obtain ⟨Ao35, co35, eo35⟩ := Kd.R_slice HO120.out; (first | subst eo35 | (injection eo35 with f1_ f2_ f3_; have f4_ := f1_.symm; have f5_ := f3_.symm; clear f1_ f2_ f3_; subst f4_; subst f5_)); refine norm_ (a' := ?_) ?_ ?_; rotate_left
        ·
         simp only [putAll, Act.put, List.setIfInBounds_toArray, List.set_cons_zero, List.set_cons_succ]; rfl
        refine one_ (i := 9) (N := some 40) #[Y',Y',Y',Y',Y',Y',Y',Y',Y',Y',Z',Y',Z'] rfl rfl (one_of HT_.out (by kernel_rfl)) (by decide) (fun K hK => ?_); refine Kd.R_append_rows_step (Kd.int .i64) (w0 := w) w.heap.size (by rfl) (.tmp 37) (.tmp 39) 24 2 (.int .i64 0) 8 rfl Try.underlying24 info2 rfl (by decide) (by omega) v116 t115 y118 _ _ _ (fun k_ => some k_ ≠ (.slice Ao35 y118.length co35 : Value).ownBlock) (fun _ => False) rfl rfl ?aO ?aR (fun _ _ h => h) (fun _ h => h.elim) ?aF ?aB ?aS ?aL ?_; (case aR => repeat (first | exact (Kd.R_reads' HO120.out).2.2 | (with_reducible refine Kd.C_alloc ?_ _) | (with_reducible refine Kd.C_drewN ?_ _) | (with_reducible refine Kd.C_drew ?_))); (case aB => exact below_a); (case aF => exact (fun k_ hk => Kd.fresh' (Kd.R_lt (R_a HO120.out)) k_ hk)); (case aO => exact (R_a HO117.out)); (case aS => exact (below_size below_a)); (case aL => have := LMc25.out; omega); intro v122 w34 ho hb hg hat; rw [← Ny121.out] at ho; replace BK110 := Aside0.mk (blk_grown (g := gb110) blk_c hg (Kd.R_ne HO117.out BK110.out (by decide))); replace BK111 := Aside0.mk (blk_grown (g := gb111) blk_c hg (Kd.R_ne HO117.out BK111.out (by decide))); replace HO120 := Aside0.mk (Kd.R_after (ok := (fun _ => True)) (by (with_reducible repeat (first | apply Kd.R_alloc | apply Kd.R_drewN | apply Kd.R_drew)); exact Kd.R_mono HO120.out (fun _ hk => ⟨trivial, hk⟩)) hg hat); replace BK124 := Aside0.mk (blk_grown (g := gb124) blk_c hg (Kd.R_ne HO117.out BK124.out (by decide))); replace HB := Aside0.mk (hb); have HO123 := Aside0.mk (ho); clear HO117 ho hb hg hat; obtain ⟨Ao36, co36, eo36⟩ := Kd.R_slice HO123.out; (first | subst eo36 | (injection eo36 with f1_ f2_ f3_; have f4_ := f1_.symm; have f5_ := f3_.symm; clear f1_ f2_ f3_; subst f4_; subst f5_)); refine hK.out _ _ ⟨(blk_cell BK110.out 0).trans rfl, (blk_cell BK110.out 1).trans rfl⟩ (fun hHeld => ?_); clear hK K; refine norm_ (a' := ?_) ?_ ?_; rotate_left
        ·
         show Act.put _ (some 40) _ = _; simp only [Act.put, List.setIfInBounds_toArray, List.set_cons_zero, List.set_cons_succ, i64_w, i32_w]; rfl
        refine pure_ (i := 10) (N := some 41) (v := ?_) (a' := ?_) #[Y',Y',Y',Y',Y',Y',Y',Y',Y',Y',Y',Y',Z'] rfl rfl (any_of HT_.out (by kernel_rfl)) (fun _ _ _ h => h) (Or.inl ⟨by rfl, ?_⟩) ?_ ?_; rotate_left
        ·
         intro w'
         go_simp
         with_reducible rfl
        rotate_left
        ·
         simp only [Act.put, List.setIfInBounds_toArray, List.set_cons_zero, List.set_cons_succ, i64_w, i32_w]; rfl
        exact norm_ (by first | (simp only [putAll, Act.put, List.setIfInBounds_toArray, List.set_cons_zero, List.set_cons_succ]; done) | (simp only [putAll, Act.put, List.setIfInBounds_toArray, List.set_cons_zero, List.set_cons_succ]; rfl)) (hJ6_8_9_11 (v116, .slice Ao35 y118.length co35, .slice Ao36 y121.length co36, gb124) _ ⟨hHeld, (by (with_reducible repeat (first | apply Kd.R_alloc | apply Kd.R_drewN | apply Kd.R_drew)); exact Kd.R_mono HO120.out (fun _ hk => hk.2)), (R_a HO123.out), blk_a, blk_a, blk_a, GW124.out, GE124.out, NB110_124.out, NB124_110.out, NB111_124.out, NB124_111.out, below_a⟩)
      ·
       rintro ⟨v116, v119, v122⟩ w35 ⟨hS_, h0_, h1_, h2_, h3_, h4_⟩
       try dsimp only at hS_ h0_ h1_ h2_ h3_ h4_
       clear BK110 BK111 HB; have HO120 := Aside0.mk h0_; have HO123 := Aside0.mk h1_; have BK110 := Aside0.mk h2_; have BK111 := Aside0.mk h3_; have HB := Aside0.mk h4_; clear h0_ h1_ h2_ h3_ h4_; have hHeld : w35.cell? ⟨gb110, 0, none⟩ = some (.int .i64 a0_0) ∧ w35.cell? ⟨gb110, 1, none⟩ = some (.slice A0_1 l0_1.length c0_1) := hS_; obtain ⟨Ao36, co36, eo36⟩ := Kd.R_slice HO123.out; (first | subst eo36 | (injection eo36 with f1_ f2_ f3_; have f4_ := f1_.symm; have f5_ := f3_.symm; clear f1_ f2_ f3_; subst f4_; subst f5_)); refine norm_ (a' := ?_) ?_ ?_; rotate_left
       ·
        simp only [putAll, Act.put, List.setIfInBounds_toArray, List.set_cons_zero, List.set_cons_succ]; rfl
       refine one_ (i := 11) (N := some 6) #[Y',Y',Y',Y',Y',Y',Y',Y',Y',Y',Y',Y',Z'] rfl rfl (one_of HT_.out (by kernel_rfl)) (by decide) (fun K hK => ?_); refine box_step ?hg (N := 6) ?hd (cs := #[.int .i64 0, .slice none 0 0]) (t := 26) ?hr ?_; (case hd => rfl); (case hg => rfl); (case hr => first | (go_simp; done) | (go_simp; rfl)); intro gb124 hg w37 hbox hb; replace HO120 := Aside0.mk (Kd.R_below (R_a HO120.out) hb); replace HO123 := Aside0.mk (Kd.R_below (R_a HO123.out) hb); have n2_ := Aside0.mk (blk_below (g := gb110) blk_c hb); have n3_ := Aside0.mk (blk_below (g := gb111) blk_c hb); have n4_ := Aside0.mk (below_step below_a hb); have BK124 := Aside0.mk (hbox); have GW124 := Aside0.mk (bsz_ (w := w) hg); have GE124 := Aside0.mk (bsz_ (w := w) hg); have NB110_124 := Aside0.mk (bne_ (g := gb110) hg); have NB124_110 := Aside0.mk (bne_ (g := gb110) hg).symm; have NB111_124 := Aside0.mk (bne_ (g := gb111) hg); have NB124_111 := Aside0.mk (bne_ (g := gb111) hg).symm; replace BK110 := n2_; replace BK111 := n3_; replace HB := n4_; clear n2_ n3_ n4_ hb hbox hg; refine hK.out _ _ ⟨(blk_cell BK110.out 0).trans rfl, (blk_cell BK110.out 1).trans rfl⟩ (fun hHeld => ?_); clear hK K; refine norm_ (a' := ?_) ?_ ?_; rotate_left
       ·
        show Act.put _ (some 6) _ = _; simp only [Act.put, List.setIfInBounds_toArray, List.set_cons_zero, List.set_cons_succ, i64_w, i32_w]; rfl
       exact norm_ (by first | (simp only [putAll, Act.put, List.setIfInBounds_toArray, List.set_cons_zero, List.set_cons_succ]; done) | (simp only [putAll, Act.put, List.setIfInBounds_toArray, List.set_cons_zero, List.set_cons_succ]; rfl)) (hJ6_8_9_11 (v116, v119, .slice Ao36 y121.length co36, gb124) _ ⟨hHeld, (R_a HO120.out), (R_a HO123.out), blk_a, blk_a, blk_a, GW124.out, GE124.out, NB110_124.out, NB124_110.out, NB111_124.out, NB124_111.out, below_a⟩)
     rintro ⟨v116, v119, v122, gb124⟩ w36 ⟨hS_, h0_, h1_, h2_, h3_, h4_, h5_, h6_, h7_, h8_, h9_, h10_, h11_⟩
     try dsimp only at hS_ h0_ h1_ h2_ h3_ h4_ h5_ h6_ h7_ h8_ h9_ h10_ h11_
     clear BK110 BK111 HB; have HO120 := Aside0.mk h0_; have HO123 := Aside0.mk h1_; have BK110 := Aside0.mk h2_; have BK111 := Aside0.mk h3_; have BK124 := Aside0.mk h4_; have GW124 := Aside0.mk h5_; have GE124 := Aside0.mk h6_; have NB110_124 := Aside0.mk h7_; have NB124_110 := Aside0.mk h8_; have NB111_124 := Aside0.mk h9_; have NB124_111 := Aside0.mk h10_; have HB := Aside0.mk h11_; clear h0_ h1_ h2_ h3_ h4_ h5_ h6_ h7_ h8_ h9_ h10_ h11_; have hHeld : w36.cell? ⟨gb110, 0, none⟩ = some (.int .i64 a0_0) ∧ w36.cell? ⟨gb110, 1, none⟩ = some (.slice A0_1 l0_1.length c0_1) := hS_; obtain ⟨Ao37, co37, eo37⟩ := Kd.R_slice HO123.out; (first | subst eo37 | (injection eo37 with f1_ f2_ f3_; have f4_ := f1_.symm; have f5_ := f3_.symm; clear f1_ f2_ f3_; subst f4_; subst f5_)); refine norm_ (a' := ?_) ?_ ?_; rotate_left
     ·
      simp only [putAll, Act.put, List.setIfInBounds_toArray, List.set_cons_zero, List.set_cons_succ]; rfl
     refine one_ (i := 12) (N := none) #[Y',Y',Y',Y',Y',Y',Y',Y',Y',Y',Y',Y',Y'] rfl rfl (one_of HT_.out (by kernel_rfl)) (by decide) (fun K hK => ?_); have hs38 : w36.cell? ⟨gb124, 0, none⟩ = some (.int .i64 0) := (blk_cell BK124.out 0).trans rfl; have hfs38 := blk_frozen BK124.out 0; have hns38_0 := NB110_124.out; have hns38_1 := NB111_124.out; have hms38_0 := NB124_110.out; have hms38_1 := NB124_111.out; have hs39 : w36.cell? ⟨gb124, 1, none⟩ = some (.slice none 0 0) := (blk_cell BK124.out 1).trans rfl; have hfs39 := blk_frozen BK124.out 1; have hns39_0 := NB110_124.out; have hns39_1 := NB111_124.out; have hms39_0 := NB124_110.out; have hms39_1 := NB124_111.out; refine skip_ (w1 := ?_) (by rfl) rfl ?_ ?_; rotate_left
     ·
      go_simp
      rfl
     refine hK.out _ _ ⟨((cell_far (p := ⟨gb124, _, none⟩) NB110_124.out _).trans (((cell_far (p := ⟨gb124, _, none⟩) NB110_124.out _).trans (hHeld.1)))), ((cell_far (p := ⟨gb124, _, none⟩) NB110_124.out _).trans (((cell_far (p := ⟨gb124, _, none⟩) NB110_124.out _).trans (hHeld.2))))⟩ (fun hHeld => ?_); clear hK K; refine done_ (done_of HT_.out (by kernel_rfl)) ?_; generalize hW_ : ((w36.setCell ⟨gb124, 0, none⟩ (.int .i64 ji23)).setCell ⟨gb124, 1, none⟩ (.slice Ao37 y121.length co37)) = w40 at ⊢; have n0_ : Aside0 (Kd.R (Kd.int .i64) 2 w40 w.heap.size (fun k_ => some k_ ≠ (.slice Ao37 y121.length co37 : Value).ownBlock) v119 y118) := hW_ ▸ ⟨by (with_reducible repeat (first | apply Kd.R_alloc | apply Kd.R_drewN | apply Kd.R_drew)); exact Kd.R_mono (Kd.R_far (p := ⟨gb124, 1, none⟩) (Kd.R_far (p := ⟨gb124, 0, none⟩) (Kd.R_types HO120.out BK124.out (by decide)) (fun _ hk => hk.2) (.int .i64 ji23)) (fun _ hk => hk.2) (.slice Ao37 y121.length co37)) (fun _ hk => hk.1)⟩; have n1_ : Aside0 (Kd.R (Kd.int .i64) 2 w40 w.heap.size (fun k_ => some k_ ≠ (v119 : Value).ownBlock) (.slice Ao37 y121.length co37) y121) := hW_ ▸ ⟨by (with_reducible repeat (first | apply Kd.R_alloc | apply Kd.R_drewN | apply Kd.R_drew)); exact Kd.R_mono (Kd.R_far (p := ⟨gb124, 1, none⟩) (Kd.R_far (p := ⟨gb124, 0, none⟩) (Kd.R_types HO123.out BK124.out (by decide)) (fun _ hk => hk.2) (.int .i64 ji23)) (fun _ hk => hk.2) (.slice Ao37 y121.length co37)) (fun _ hk => hk.1)⟩; have n2_ : Aside0 (w40.heap[gb110]? = some (.cells #[.int .i64 a0_0, .slice A0_1 l0_1.length c0_1] 26 (0, 0))) := hW_ ▸ ⟨blk_a⟩; have n3_ : Aside0 (w40.heap[gb111]? = some (.cells #[.int .i64 0, .int .i64 0, .slice none 0 0] 30 (0, 0))) := hW_ ▸ ⟨blk_a⟩; have n4_ : Aside0 (w40.heap[gb124]? = some (.cells #[.int .i64 ji23, .slice Ao37 y121.length co37] 26 (0, 0))) := hW_ ▸ ⟨blk_a⟩; have n5_ : Aside0 (Below w.heap.size w w40) := hW_ ▸ ⟨below_a⟩; (try clear HO120); (try clear HO123); (try clear BK110); (try clear BK111); (try clear BK124); (try clear HB); clear hW_; have HO120 := n0_; have HO123 := n1_; have BK110 := n2_; have BK111 := n3_; have BK124 := n4_; have HB := n5_; clear n0_ n1_ n2_ n3_ n4_ n5_; have hnb41 := NB124_110.out; have hnc41 := NB110_124.out; have hnb42 := NB124_111.out; have hnc42 := NB111_124.out; obtain ⟨hcz43_0, hcz43_1, hfz43_0, hfz43_1⟩ := bc2_ BK124.out
     try go_wp2_with (first | ((with_reducible refine gate_callee (f := 43) rfl ?_); refine goesL_ (some 44) rfl rfl Try.func43 (by kernel_rfl) rfl #[.slice Ao37 y121.length co37] rfl args_a ?_; (with_reducible refine (slices_Sort_int64_int64.calls (fun k_ => some k_ = (.slice Ao37 y121.length co37 : Value).ownBlock) (.slice Ao37 y121.length co37) y121 t125 w _ ?side1 ?side2 A26.out).mono ?_); (case side1 => exact below_a); (case side2 => exact Kd.R_tight rfl HO123.out); rintro e w44 ⟨rfl, hy0, hb, hkp⟩; refine ⟨_, rfl, ?_⟩; have n0_ := Aside0.mk (blk_kept blk_a hkp (fun hs_ => (fun e_ => (Kd.R_ne HO123.out BK110.out (by decide)) e_) hs_)); have n1_ := Aside0.mk (blk_kept blk_a hkp (fun hs_ => (fun e_ => (Kd.R_ne HO123.out BK111.out (by decide)) e_) hs_)); replace HO120 := Aside0.mk (Kd.R_mono (ok' := fun k_ => some k_ ≠ (.slice Ao37 y121.length co37 : Value).ownBlock) (Kd.R_keptB (HO120.out) hkp (fun k_ hk_ hs_ => (hk_) hs_)) (fun k_ hk_ => hk_.1)); have n3_ := Aside0.mk (Kd.R_reok rfl hy0 (fun k_ e_ => HO123.out.1 k_ e_)); replace BK124 := Aside0.mk (blk_kept blk_a hkp (fun hs_ => (fun e_ => (Kd.R_ne HO123.out BK124.out (by decide)) e_) hs_)); replace HB := Aside0.mk (hb); replace BK110 := n0_; replace BK111 := n1_; replace HO123 := n3_; clear n0_ n1_ n3_; (try clear hb); (try clear hkp); (try clear hy0); obtain ⟨hcz45_0, hcz45_1, hfz45_0, hfz45_1⟩ := bc2_ BK124.out) | ((with_reducible refine gate_callee (f := 44) rfl ?_); refine goesL_ (some 48) rfl rfl Try.func44 (by kernel_rfl) rfl #[.slice Ao37 y121.length co37, .func (.func 45) #[] #[.pointer (some ⟨gb124, 0, none⟩)]] rfl args_a ?_; (with_reducible refine (slices_DeleteFunc_int64_int64.calls (fun k_ => some k_ = (.slice Ao37 y121.length co37 : Value).ownBlock) (.slice Ao37 y121.length co37) t125 ji23 t126 w _ ?side1 ?side2 ?side3 ?side4 A27.out).mono ?_); (case side1 => exact below_a); (case side2 => exact Kd.R_tight rfl HO123.out); (case side3 => exact (blk_cell blk_a 0).trans rfl); (case side4 => exact Kd.R_ne (HO123.out) blk_a (by decide)); rintro e w46 ⟨v127, rfl, ho0, hb, hkp⟩; refine ⟨_, rfl, ?_⟩; have n0_ := Aside0.mk (blk_kept blk_a hkp (fun hs_ => (fun e_ => (Kd.R_ne HO123.out BK110.out (by decide)) e_) hs_)); have n1_ := Aside0.mk (blk_kept blk_a hkp (fun hs_ => (fun e_ => (Kd.R_ne HO123.out BK111.out (by decide)) e_) hs_)); have n2_ := Aside0.mk (Kd.R_mono (ok' := fun k_ => some k_ ≠ (v127 : Value).ownBlock) (Kd.R_keptB (HO120.out) hkp (fun k_ hk_ hs_ => (hk_) hs_)) (fun k_ hk_ => fun e_ => Or.elim (ho0.1 k_ e_.symm) (fun hs_ => hk_.2.1 hs_) (fun hn_ => Nat.not_le.2 hk_.2.2 hn_))); replace BK124 := Aside0.mk (blk_kept blk_a hkp (fun hs_ => (fun e_ => (Kd.R_ne HO123.out BK124.out (by decide)) e_) hs_)); have HO128 := Aside0.mk (Kd.R_mono (ok' := fun k_ => some k_ ≠ (v119 : Value).ownBlock) ho0 (fun k_ hk_ => Or.elim hk_ (fun hs_ => fun e_ => (((HO120.out).1 k_ e_.symm)) hs_) (fun hn_ => (Kd.fresh' (Kd.R_lt (R_a HO120.out)) k_ hn_)))); replace HB := Aside0.mk (hb); replace BK110 := n0_; replace BK111 := n1_; replace HO120 := n2_; clear HO123 n0_ n1_ n2_; (try clear hb); (try clear hkp); (try clear ho0); obtain ⟨Ao47, co47, eo47⟩ := Kd.R_slice HO128.out; subst eo47; obtain ⟨hcz48_0, hcz48_1, hfz48_0, hfz48_1⟩ := bc2_ BK124.out; have hnb49 := NB111_110.out; have hnc49 := NB110_111.out; obtain ⟨hcz50_0, hcz50_1, hcz50_2, hfz50_0, hfz50_1, hfz50_2⟩ := bc3_ BK111.out))
     refine bodyPost_ret (results_cell_row rfl _ _ gb111 30 #[.int .i64 0, .int .i64 ji23, .slice Ao47 t126.length co47] (0, 0) _ rfl (by (with_reducible repeat (first | refine blk_drewN ?_ _ | refine blk_drew ?_ | refine blk_alloc ?_ _)); refine blk_put (cs := #[.int .i64 0, .int .i64 ji23, .slice none 0 0]) ?_ 2 _ rfl; (with_reducible repeat (first | refine blk_drewN ?_ _ | refine blk_drew ?_ | refine blk_alloc ?_ _)); refine blk_put (cs := #[.int .i64 0, .int .i64 0, .slice none 0 0]) ?_ 1 _ rfl; (with_reducible repeat (first | refine blk_drewN ?_ _ | refine blk_drew ?_ | refine blk_alloc ?_ _)); refine blk_put (cs := #[.int .i64 0, .int .i64 0, .slice none 0 0]) ?_ 0 _ rfl; (with_reducible repeat (first | refine blk_drewN ?_ _ | refine blk_drew ?_ | refine blk_alloc ?_ _)); refine blk_far ?_ NB111_124.out _; (with_reducible repeat (first | refine blk_drewN ?_ _ | refine blk_drew ?_ | refine blk_alloc ?_ _)); exact BK111.out) Try.underlying30 rfl (by kernel_rfl)) rfl ?_; exact ⟨_, by first | rfl | (simp [errW_none, errW_some] <;> rfl) | (simp only [← hji23]; first | rfl | (simp [errW_none, errW_some] <;> rfl)) | (simp [*, errW_none, errW_some] <;> rfl), by (with_reducible repeat (first | apply Kd.R_alloc | apply Kd.R_drewN | apply Kd.R_drew)); exact Kd.R_mono (Kd.R_far (p := ⟨gb111, 2, none⟩) (Kd.R_far (p := ⟨gb111, 1, none⟩) (Kd.R_far (p := ⟨gb111, 0, none⟩) (Kd.R_far (p := ⟨gb124, 1, none⟩) (Kd.R_types (Kd.R_types HO128.out BK124.out (by decide)) BK111.out (by decide)) (fun _ hk => hk.1.2) (.slice Ao47 t126.length co47)) (fun _ hk => hk.2) (.int .i64 0)) (fun _ hk => hk.2) (.int .i64 ji23)) (fun _ hk => hk.2) (.slice Ao47 t126.length co47)) (fun _ hk => trivial), below_a⟩
    ·
     rw [if_neg c25] at H; exact absurd H (by simp)
   ·
    rw [if_neg c22] at H; have c22b0 : (x5_3 == 0) = false := beq_eq_false_iff_ne.mpr c22; have c22b1 : (x5_3 != 0) = true := bne_iff_ne.mpr c22; simp only [Option.some.injEq, Prod.mk.injEq] at H; obtain ⟨rfl, rfl, rfl⟩ := H; have hnb51 := NB111_110.out; have hnc51 := NB110_111.out; obtain ⟨hcz52_0, hcz52_1, hcz52_2, hfz52_0, hfz52_1, hfz52_2⟩ := bc3_ BK111.out
    go_wp2
    refine bodyPost_ret (results_cell_row rfl _ _ gb111 30 #[.int .i64 x5_3, .int .i64 0, .slice none 0 0] (0, 0) _ rfl blk_a Try.underlying30 rfl (by kernel_rfl)) rfl ?_; exact ⟨_, eq_a, by first | exact Kd.R_nil _ _ _ _ _ | exact Kd.N_nil _ _ _ _ _ | exact Kd.V_nil _ _ _ _ _ | exact Kd.Q_nil _ _ _ _ _ | exact Kd.S_nil _ _ _ _ _, below_a⟩

/-! ### impl_TakeAll: function 11 -/
def impl_TakeAll.l0 : Nat → List Int → Int → Int → Int → List Int → Int → List Int → Option (Int × List Int)
 | 0, _, _, _, _, _, _, _ => none
 | k + 1, x21, x22, x23, x130000, x130001, x133000, x133001 => if x23 < x22 then (if 0 ≤ x23 then (if x23 < (x21.length : Int) then ((impl_TakeCounter.f k x130000 x130001 (rd x21 x23)).bind fun bt134 => (if bt134.1 = 0 then (if x133001.length < 17592186044416 then (impl_TakeAll.l0 k x21 x22 (wrap64 (x23 + 1)) bt134.2.1 bt134.2.2 x133000 (x133001 ++ [x23])) else (none)) else (impl_TakeAll.l0 k x21 x22 (wrap64 (x23 + 1)) x130000 x130001 x133000 x133001))) else (none)) else (none)) else (some (x133000, x133001))
def impl_TakeAll.f (k : Nat) (a0_0 : Int) (l0_1 : List Int) (l1 : List Int) : Option (Int × List Int) := (impl_WindowFault.f k a0_0 l0_1).bind fun t131 => (if t131 = 0 then (if (l1.length : Int) > 200 then (some (2, ([] : List Int))) else (impl_TakeAll.l0 k l1 (l1.length : Int) 0 a0_0 l0_1 0 ([] : List Int))) else (some (t131, ([] : List Int))))
theorem impl_TakeAll.mono_l : ∀ k, (∀ y0 y1 y2 y3 y4 y5 y6, LeO (impl_TakeAll.l0 k y0 y1 y2 y3 y4 y5 y6) (impl_TakeAll.l0 (k + 1) y0 y1 y2 y3 y4 y5 y6))
 | 0 => fun _ _ _ _ _ _ _ r h => by simp [impl_TakeAll.l0] at h
 | k + 1 => by
  have ih0 := impl_TakeAll.mono_l k
  ·
   intro y0 y1 y2 y3 y4 y5 y6
   unfold impl_TakeAll.l0
   repeat' first
   | (with_reducible exact ih0 _ _ _ _ _ _ _)
   | (with_reducible exact impl_TakeCounter.mono _ _ _ _)
   | (with_reducible exact impl_WindowFault.mono _ _ _)
   | (with_reducible exact LeO.refl _)
   | (with_reducible exact LeO.none _)
   | (with_reducible refine LeO.ite ?_ ?_)
   | (with_reducible refine LeO.bind ?_ (fun _ => ?_))
   | exact ih0 _ _ _ _ _ _ _
   | exact impl_TakeCounter.mono _ _ _ _
   | exact impl_WindowFault.mono _ _ _
   | exact LeO.none _
   | refine LeO.ite ?_ ?_
   | refine LeO.bind ?_ (fun _ => ?_)
theorem impl_TakeAll.mono : ∀ a0 a1 a2 k, LeO (impl_TakeAll.f k a0 a1 a2) (impl_TakeAll.f (k + 1) a0 a1 a2) := by
 intro a0 a1 a2 k
 have ih0 := impl_TakeAll.mono_l k
 unfold impl_TakeAll.f
 repeat' first
   | (with_reducible exact ih0 _ _ _ _ _ _ _)
   | (with_reducible exact impl_TakeCounter.mono _ _ _ _)
   | (with_reducible exact impl_WindowFault.mono _ _ _)
   | (with_reducible exact LeO.refl _)
   | (with_reducible exact LeO.none _)
   | (with_reducible refine LeO.ite ?_ ?_)
   | (with_reducible refine LeO.bind ?_ (fun _ => ?_))
   | exact ih0 _ _ _ _ _ _ _
   | exact impl_TakeCounter.mono _ _ _ _
   | exact impl_WindowFault.mono _ _ _
   | exact LeO.none _
   | refine LeO.ite ?_ ?_
   | refine LeO.bind ?_ (fun _ => ?_)
set_option maxHeartbeats 8000000 in
set_option maxRecDepth 100000 in
theorem impl_TakeAll.calls (k : Nat) (a0_0 : Int) (P0_1_ : Nat → Prop) (A0_1 : Option Addr) (c0_1 : Nat) (l0_1 : List Int) (A1 : Option Addr) (c1 : Nat) (l1 : List Int) (r1 : Int) (r2 : List Int) (w : World) (hs0_1 : Kd.V (Kd.int .i64) 2 w w.heap.size (fun k_ => P0_1_ k_) (.slice A0_1 l0_1.length c0_1) l0_1) (hr1 : Kd.C (Kd.int .i64) w A1 l1.length l1) (hc1 : l1.length ≤ c1) (h : impl_TakeAll.f k a0_0 l0_1 l1 = some (r1, r2)) :
  Calls Try.prog 11 #[.agg #[.int .i64 a0_0, .slice A0_1 l0_1.length c0_1], .slice A1 l1.length c1] w fun e w' => ∃ v1_ : Value, e = .returned (.agg #[.int .i64 r1, v1_]) ∧ Kd.R (Kd.int .i64) 2 w' w.heap.size (fun k_ => (w.heap.size ≤ k_)) v1_ r2 ∧ Below w.heap.size w w' := by
 have hu26 := Try.underlying26
 have hu35 := Try.underlying35
 have hu30 := Try.underlying30
 have HO0_1 := Aside0.mk (show Kd.V (Kd.int .i64) 2 w w.heap.size (fun k_ => (P0_1_ k_ ∨ w.heap.size ≤ k_)) (.slice A0_1 l0_1.length c0_1) l0_1 from Kd.V_mono hs0_1 (fun k_ hk => .inl hk))
 have HR1 := Aside0.mk hr1
 have HC1 := Aside0.mk hc1
 clear hr1 hc1
 have HB := Aside0.mk (Below.refl w.heap.size w)
 have H : ((impl_WindowFault.f k a0_0 l0_1).bind fun t131 => (if t131 = 0 then (if (l1.length : Int) > 200 then (some (2, ([] : List Int))) else (impl_TakeAll.l0 k l1 (l1.length : Int) 0 a0_0 l0_1 0 ([] : List Int))) else (some (t131, ([] : List Int))))) = some (r1, r2) := h
 clear h
 replace H := Option.bind_eq_some_iff.mp H
 obtain ⟨t131, A30, H⟩ := H
 replace H : (if t131 = 0 then (if (l1.length : Int) > 200 then (some (2, ([] : List Int))) else (impl_TakeAll.l0 k l1 (l1.length : Int) 0 a0_0 l0_1 0 ([] : List Int))) else (some (t131, ([] : List Int)))) = some (r1, r2) := H
 have A3 := Aside0.mk A30
 clear A30
 by_cases c4 : t131 = 0
 ·
  rw [if_pos c4] at H; have c4b0 : (t131 == 0) = true := beq_iff_eq.mpr c4; have c4b1 : (t131 != 0) = false := bne_eq_false_iff_eq.mpr c4; clear c4
  by_cases c5 : (l1.length : Int) > 200
  ·
   rw [if_pos c5] at H; have c5b0 : decide (200 < (l1.length : Int)) = true := decide_eq_true c5; have c5b1 : decide (200 < l1.length) = true := decide_eq_true (by omega); clear c5; simp only [Option.some.injEq, Prod.mk.injEq] at H; obtain ⟨rfl, rfl⟩ := H
   go_enter Try.func11, Try.ntmps11
   go_wp2_with (first | ((with_reducible refine gate_dst (N := 2) rfl ?_); refine box_event ?hg (N := 2) ?hd (cs := #[.int .i64 a0_0, .slice A0_1 l0_1.length c0_1]) (t := 26) ?hr ?_; (case hd => rfl); (case hg => rfl); (case hr => first | (go_simp; done) | (go_simp; rfl)); intro gb129 hg w6 hbox hb; replace HO0_1 := Aside0.mk (Kd.V_below (Kd.V_elderB (by (with_reducible repeat (first | apply Kd.V_alloc | apply Kd.V_drewN | apply Kd.V_drew)); exact HO0_1.out) gb129 (Nat.le_of_eq hg.symm)) hb); have n1_ := Aside0.mk (below_step below_a hb); have BK129 := Aside0.mk (hbox); have GW129 := Aside0.mk (bsz_ (w := w) hg); have GE129 := Aside0.mk (bsz_ (w := w) hg); replace HB := n1_; clear n1_; clear hb hbox hg) | ((with_reducible refine gate_dst (N := 4) rfl ?_); refine box_event ?hg (N := 4) ?hd (cs := #[.int .i64 0, .slice none 0 0]) (t := 35) ?hr ?_; (case hd => rfl); (case hg => rfl); (case hr => first | (go_simp; done) | (go_simp; rfl)); intro gb130 hg w7 hbox hb; replace HO0_1 := Aside0.mk (Kd.V_below (Kd.V_elderB (by (with_reducible repeat (first | apply Kd.V_alloc | apply Kd.V_drewN | apply Kd.V_drew)); exact HO0_1.out) gb130 (Nat.le_of_eq hg.symm)) hb); have n1_ := Aside0.mk (blk_below (g := gb129) blk_c hb); have n2_ := Aside0.mk (below_step below_a hb); have BK130 := Aside0.mk (hbox); have GW130 := Aside0.mk (bsz_ (w := w) hg); have GE130 := Aside0.mk (bsz_ (w := w) hg); have NB129_130 := Aside0.mk (bne_ (g := gb129) hg); have NB130_129 := Aside0.mk (bne_ (g := gb129) hg).symm; replace BK129 := n1_; replace HB := n2_; clear n1_ n2_; clear hb hbox hg; have hnb8 := NB129_130.out; have hnc8 := NB130_129.out; obtain ⟨hcz9_0, hcz9_1, hfz9_0, hfz9_1⟩ := bc2_ BK129.out) | ((with_reducible refine gate_callee (f := 16) rfl ?_); refine goesL_ (some 11) rfl rfl Try.func16 (by kernel_rfl) rfl #[.agg #[.int .i64 a0_0, .slice A0_1 l0_1.length c0_1]] rfl args_a ?_; (with_reducible refine (impl_WindowFault.calls k a0_0 _ _ l0_1 t131 _ ?side1 ?side2 A3.out).mono ?_); (case side1 => repeat (first | exact (Kd.V_reads' HO0_1.out).2.2 | (with_reducible refine Kd.C_alloc ?_ _) | (with_reducible refine Kd.C_drewN ?_ _) | (with_reducible refine Kd.C_drew ?_))); (case side2 => exact (Kd.V_reads' HO0_1.out).2.1); rintro e w10 ⟨rfl, hb⟩; refine ⟨_, rfl, ?_⟩; replace HO0_1 := Aside0.mk (Kd.V_below (by (with_reducible repeat (first | apply Kd.V_alloc | apply Kd.V_drewN | apply Kd.V_drew)); exact HO0_1.out) hb); replace BK129 := Aside0.mk (blk_below (g := gb129) blk_c hb); replace BK130 := Aside0.mk (blk_below (g := gb130) blk_c hb); replace HB := Aside0.mk (below_step below_a hb); (try clear hb); (try clear hb2); (try clear hk); (try clear hi); obtain ⟨hcz11_0, hcz11_1, hfz11_0, hfz11_1⟩ := bc2_ BK130.out))
   refine bodyPost_ret (results_cell_row rfl _ _ gb130 35 #[.int .i64 2, .slice none 0 0] (0, 0) _ rfl blk_a Try.underlying35 rfl (by kernel_rfl)) rfl ?_; exact ⟨_, eq_a, by first | exact Kd.R_nil _ _ _ _ _ | exact Kd.N_nil _ _ _ _ _ | exact Kd.V_nil _ _ _ _ _ | exact Kd.Q_nil _ _ _ _ _ | exact Kd.S_nil _ _ _ _ _, below_a⟩
  ·
   rw [if_neg c5] at H; have c5b0 : decide (200 < (l1.length : Int)) = false := decide_eq_false c5; have c5b1 : decide (200 < l1.length) = false := decide_eq_false (by omega); clear c5; have H' := Aside0.mk H; clear H
   go_enter Try.func11, Try.ntmps11
   go_wp2_with (first | ((with_reducible refine gate_dst (N := 2) rfl ?_); refine box_event ?hg (N := 2) ?hd (cs := #[.int .i64 a0_0, .slice A0_1 l0_1.length c0_1]) (t := 26) ?hr ?_; (case hd => rfl); (case hg => rfl); (case hr => first | (go_simp; done) | (go_simp; rfl)); intro gb129 hg w12 hbox hb; replace HO0_1 := Aside0.mk (Kd.V_below (Kd.V_elderB (by (with_reducible repeat (first | apply Kd.V_alloc | apply Kd.V_drewN | apply Kd.V_drew)); exact HO0_1.out) gb129 (Nat.le_of_eq hg.symm)) hb); have n1_ := Aside0.mk (below_step below_a hb); have BK129 := Aside0.mk (hbox); have GW129 := Aside0.mk (bsz_ (w := w) hg); have GE129 := Aside0.mk (bsz_ (w := w) hg); replace HB := n1_; clear n1_; clear hb hbox hg) | ((with_reducible refine gate_dst (N := 4) rfl ?_); refine box_event ?hg (N := 4) ?hd (cs := #[.int .i64 0, .slice none 0 0]) (t := 35) ?hr ?_; (case hd => rfl); (case hg => rfl); (case hr => first | (go_simp; done) | (go_simp; rfl)); intro gb130 hg w13 hbox hb; replace HO0_1 := Aside0.mk (Kd.V_below (Kd.V_elderB (by (with_reducible repeat (first | apply Kd.V_alloc | apply Kd.V_drewN | apply Kd.V_drew)); exact HO0_1.out) gb130 (Nat.le_of_eq hg.symm)) hb); have n1_ := Aside0.mk (blk_below (g := gb129) blk_c hb); have n2_ := Aside0.mk (below_step below_a hb); have BK130 := Aside0.mk (hbox); have GW130 := Aside0.mk (bsz_ (w := w) hg); have GE130 := Aside0.mk (bsz_ (w := w) hg); have NB129_130 := Aside0.mk (bne_ (g := gb129) hg); have NB130_129 := Aside0.mk (bne_ (g := gb129) hg).symm; replace BK129 := n1_; replace HB := n2_; clear n1_ n2_; clear hb hbox hg; have hnb14 := NB129_130.out; have hnc14 := NB130_129.out; obtain ⟨hcz15_0, hcz15_1, hfz15_0, hfz15_1⟩ := bc2_ BK129.out) | ((with_reducible refine gate_callee (f := 16) rfl ?_); refine goesL_ (some 11) rfl rfl Try.func16 (by kernel_rfl) rfl #[.agg #[.int .i64 a0_0, .slice A0_1 l0_1.length c0_1]] rfl args_a ?_; (with_reducible refine (impl_WindowFault.calls k a0_0 _ _ l0_1 t131 _ ?side1 ?side2 A3.out).mono ?_); (case side1 => repeat (first | exact (Kd.V_reads' HO0_1.out).2.2 | (with_reducible refine Kd.C_alloc ?_ _) | (with_reducible refine Kd.C_drewN ?_ _) | (with_reducible refine Kd.C_drew ?_))); (case side2 => exact (Kd.V_reads' HO0_1.out).2.1); rintro e w16 ⟨rfl, hb⟩; refine ⟨_, rfl, ?_⟩; replace HO0_1 := Aside0.mk (Kd.V_below (by (with_reducible repeat (first | apply Kd.V_alloc | apply Kd.V_drewN | apply Kd.V_drew)); exact HO0_1.out) hb); replace BK129 := Aside0.mk (blk_below (g := gb129) blk_c hb); replace BK130 := Aside0.mk (blk_below (g := gb130) blk_c hb); replace HB := Aside0.mk (below_step below_a hb); (try clear hb); (try clear hb2); (try clear hk); (try clear hi)) | ((with_reducible refine gate_dst (N := 6) rfl ?_); refine box_event ?hg (N := 6) ?hd (cs := #[.int .i64 0, .slice none 0 0]) (t := 35) ?hr ?_; (case hd => rfl); (case hg => rfl); (case hr => first | (go_simp; done) | (go_simp; rfl)); intro gb132 hg w17 hbox hb; replace HO0_1 := Aside0.mk (Kd.V_below (Kd.V_elderB (by (with_reducible repeat (first | apply Kd.V_alloc | apply Kd.V_drewN | apply Kd.V_drew)); exact HO0_1.out) gb132 (Nat.le_of_eq hg.symm)) hb); have n1_ := Aside0.mk (blk_below (g := gb129) blk_c hb); have n2_ := Aside0.mk (blk_below (g := gb130) blk_c hb); have n3_ := Aside0.mk (below_step below_a hb); have BK132 := Aside0.mk (hbox); have GW132 := Aside0.mk (bsz_ (w := w) hg); have GE132 := Aside0.mk (bsz_ (w := w) hg); have NB129_132 := Aside0.mk (bne_ (g := gb129) hg); have NB132_129 := Aside0.mk (bne_ (g := gb129) hg).symm; have NB130_132 := Aside0.mk (bne_ (g := gb130) hg); have NB132_130 := Aside0.mk (bne_ (g := gb130) hg).symm; replace BK129 := n1_; replace BK130 := n2_; replace HB := n3_; clear n1_ n2_ n3_; clear hb hbox hg; have hnb18 := NB132_129.out; have hnc18 := NB129_132.out; have hnb19 := NB132_130.out; have hnc19 := NB130_132.out; obtain ⟨hcz20_0, hcz20_1, hfz20_0, hfz20_1⟩ := bc2_ BK132.out))
   go_loopg [23] k (fun kq v23 w' => ∃ (x23_1 : Int) (x130000_1 : Int) (x130001_1 : List Int) (x133001_1 : List Int) (u130001 : Value) (u133001 : Value), v23 = .int .i64 x23_1 ∧ Aside0 (impl_TakeAll.l0 kq l1 (l1.length : Int) x23_1 x130000_1 x130001_1 0 x133001_1 = some (r1, r2)) ∧ Aside0 (kq ≤ k) ∧ Aside0 (Kd.V (Kd.int .i64) 2 w' w.heap.size (fun k_ => (P0_1_ k_ ∨ w.heap.size ≤ k_) ∧ some k_ ≠ (u133001 : Value).ownBlock ∧ k_ ≠ gb129 ∧ k_ ≠ gb130 ∧ k_ ≠ gb132) u130001 x130001_1) ∧ Aside0 (Kd.R (Kd.int .i64) 2 w' w.heap.size (fun k_ => (w.heap.size ≤ k_)) u133001 x133001_1) ∧ Aside0 (w'.heap[gb129]? = some (.cells #[.int .i64 x130000_1, u130001] 26 (0, 0))) ∧ Aside0 (w'.heap[gb130]? = some (.cells #[.int .i64 0, (.slice none 0 0)] 35 (0, 0))) ∧ Aside0 (w'.heap[gb132]? = some (.cells #[.int .i64 0, u133001] 35 (0, 0))) ∧ Aside0 (Below w.heap.size w w'))
   case atStart => exact ⟨(0), (a0_0), (l0_1), (([] : List Int)), (.slice A0_1 l0_1.length c0_1), (.slice none 0 0), eq_b, H', ⟨Nat.le_refl _⟩, ⟨by (with_reducible repeat (first | apply Kd.V_alloc | apply Kd.V_drewN | apply Kd.V_drew)); exact Kd.V_mono (Kd.V_far (p := ⟨gb132, 1, none⟩) (Kd.V_far (p := ⟨gb132, 0, none⟩) (Kd.V_mono HO0_1.out (fun k_ hk => (⟨hk, hk.2⟩ : _ ∧ k_ ≠ gb132))) (fun _ hk => hk.2) (.int .i64 0)) (fun _ hk => hk.2) (.slice none 0 0)) (fun _ hk => ⟨hk.1.1.1.1, ⟨(by simp [Value.ownBlock]), ⟨hk.1.1.1.2, ⟨hk.1.1.2, hk.1.2⟩⟩⟩⟩)⟩, ⟨by first | exact Kd.R_nil _ _ _ _ _ | exact Kd.N_nil _ _ _ _ _ | exact Kd.V_nil _ _ _ _ _ | exact Kd.Q_nil _ _ _ _ _ | exact Kd.S_nil _ _ _ _ _⟩, ⟨blk_a⟩, ⟨blk_a⟩, ⟨blk_a⟩, ⟨below_a⟩⟩
   case round =>
    clear H'
    try clear c1
    try clear p2
    try clear c4 c4b0 c4b1
    try clear c5 c5b0 c5b1
    try clear c8
    try clear c11
    try clear c14
    try clear c16
    try clear c18
    try clear c19
    try clear hcz11_0 hcz11_1
    try clear hcz15_0 hcz15_1
    try clear hcz20_0 hcz20_1
    try clear hcz9_0 hcz9_1
    try clear hfz11_0 hfz11_1
    try clear hfz15_0 hfz15_1
    try clear hfz20_0 hfz20_1
    try clear hfz9_0 hfz9_1
    obtain ⟨x23_1, x130000_1, x130001_1, x133001_1, u130001, u133001, rfl, HA, HK1, HO_130001, HO_133001, BK129, BK130, BK132, HB⟩ := hrel
    cases gk with
    | zero => exact absurd HA.out (by simp [impl_TakeAll.l0])
    | succ k1 =>
     have H := HA.out; clear HA; simp only [impl_TakeAll.l0] at H
     by_cases c21 : x23_1 < (l1.length : Int)
     ·
      rw [if_pos c21] at H; have c21b0 : decide (x23_1 < (l1.length : Int)) = true := decide_eq_true c21; clear c21
      by_cases c22 : 0 ≤ x23_1
      ·
       rw [if_pos c22] at H; have c22b0 : decide (0 ≤ x23_1) = true := decide_eq_true c22; clear c22
       by_cases c23 : x23_1 < (l1.length : Int)
       ·
        rw [if_pos c23] at H; have c23b0 : decide (x23_1 < (l1.length : Int)) = true := decide_eq_true c23; clear c23; replace H := Option.bind_eq_some_iff.mp H; obtain ⟨⟨t134, t135, t136⟩, A240, H⟩ := H; replace H : (if t134 = 0 then (if x133001_1.length < 17592186044416 then (impl_TakeAll.l0 k1 l1 (l1.length : Int) (wrap64 (x23_1 + 1)) t135 t136 0 (x133001_1 ++ [x23_1])) else (none)) else (impl_TakeAll.l0 k1 l1 (l1.length : Int) (wrap64 (x23_1 + 1)) x130000_1 x130001_1 0 x133001_1)) = some (r1, r2) := H; have A24 := Aside0.mk A240; clear A240
        by_cases c25 : t134 = 0
        ·
         rw [if_pos c25] at H; have c25b0 : (t134 == 0) = true := beq_iff_eq.mpr c25; have c25b1 : (t134 != 0) = false := bne_eq_false_iff_eq.mpr c25; clear c25
         by_cases c26 : x133001_1.length < 17592186044416
         ·
          rw [if_pos c26] at H; have LMc26 := Aside0.mk c26; clear c26; obtain ⟨y140, hy140⟩ : ∃ y_ : List Int, y_ = (x133001_1 ++ [x23_1]) := ⟨_, rfl⟩; replace H : (impl_TakeAll.l0 k1 l1 (l1.length : Int) (wrap64 (x23_1 + 1)) t135 t136 0 y140) = some (r1, r2) := by first | (rw [hy140]; with_reducible exact H) | (have H2_ := (Option.bind_some _ _).symm.trans H; rw [hy140]; with_reducible exact H2_) | (have H2_ := (Option.bind_some _ _).symm.trans H; with_reducible exact H2_) | with_reducible exact H | (rw [hy140]; exact H) | exact H
          have Ny140 := Aside0.mk hy140; clear hy140; have H' := Aside0.mk H; clear H; have p133 : 0 ≤ (x23_1 : Int) := of_decide_eq_true (by first | (with_reducible assumption) | assumption); have q133 : x23_1 < (l1.length : Int) := of_decide_eq_true (by first | (with_reducible assumption) | assumption); obtain ⟨ad133, e133, hx133_0⟩ := Kd.at_int HR1.out x23_1 p133 q133
          cases e133
          replace hx133_0 := (HB.out.cell (World.block_lt_of_cell? w _ hx133_0)).trans hx133_0; replace p133 := eq_true p133; replace q133 := eq_true q133; have hnb27 := NB129_130.out; have hnc27 := NB130_129.out; have hnb28 := NB129_132.out; have hnc28 := NB132_129.out; obtain ⟨hcz29_0, hcz29_1, hfz29_0, hfz29_1⟩ := bc2_ BK129.out; obtain ⟨Ao30, co30, eo30⟩ := Kd.V_slice HO_130001.out; subst eo30
          go_wp2_with (first | ((with_reducible refine gate_callee (f := 9) rfl ?_); refine goesL_ (some 30) rfl rfl Try.func9 (by kernel_rfl) rfl #[.agg #[.int .i64 x130000_1, .slice Ao30 x130001_1.length co30], .int .i64 (rd l1 x23_1)] rfl args_a ?_; (with_reducible refine (impl_TakeCounter.calls k1 x130000_1 _ _ x130001_1 (rd l1 x23_1) t134 t135 t136 _ ?side1 ?side2 A24.out).mono ?_); (case side1 => repeat (first | exact (Kd.V_reads' HO_130001.out).2.2 | (with_reducible refine Kd.C_alloc ?_ _) | (with_reducible refine Kd.C_drewN ?_ _) | (with_reducible refine Kd.C_drew ?_))); (case side2 => exact (Kd.V_reads' HO_130001.out).2.1); rintro e w31 ⟨v137, rfl, ho0, hb⟩; refine ⟨_, rfl, ?_⟩; replace HO_130001 := Aside0.mk (Kd.V_elder' (by (with_reducible repeat (first | apply Kd.V_alloc | apply Kd.V_drewN | apply Kd.V_drew)); exact HO_130001.out) (Kd.R_base ho0) hb); have n1_ := Aside0.mk (Kd.R_elder' (R_a HO_133001.out) (Kd.R_base ho0) hb); have HO138 := Aside0.mk (Kd.R_lower (Kd.R_new' (Kd.R_newM (M := fun k_ => (w.heap.size ≤ k_)) ho0 (below_size below_a) (fun k_ h_ => h_)) (Kd.R_lt (R_a HO_133001.out))) (below_size below_a)); replace BK129 := Aside0.mk (blk_below (g := gb129) blk_c hb); replace BK130 := Aside0.mk (blk_below (g := gb130) blk_c hb); replace BK132 := Aside0.mk (blk_below (g := gb132) blk_c hb); replace HB := Aside0.mk (below_step below_a hb); replace HO_133001 := n1_; clear n1_; (try clear hb); (try clear hb2); (try clear hk); (try clear hi); (try clear ho0)) | ((with_reducible refine gate_dst (N := 9) rfl ?_); refine box_event ?hg (N := 9) ?hd (cs := #[.int .i64 0, .int .i64 0, .slice none 0 0]) (t := 30) ?hr ?_; (case hd => rfl); (case hg => rfl); (case hr => first | (go_simp; done) | (go_simp; rfl)); intro gb139 hg w32 hbox hb; replace HO_130001 := Aside0.mk (Kd.V_below (Kd.V_elderB (by (with_reducible repeat (first | apply Kd.V_alloc | apply Kd.V_drewN | apply Kd.V_drew)); exact HO_130001.out) gb139 (Nat.le_of_eq hg.symm)) hb); replace HO_133001 := Aside0.mk (Kd.R_below (R_a HO_133001.out) hb); replace HO138 := Aside0.mk (Kd.R_below (R_a HO138.out) hb); have n3_ := Aside0.mk (blk_below (g := gb129) blk_c hb); have n4_ := Aside0.mk (blk_below (g := gb130) blk_c hb); have n5_ := Aside0.mk (blk_below (g := gb132) blk_c hb); have n6_ := Aside0.mk (below_step below_a hb); have BK139 := Aside0.mk (hbox); have GW139 := Aside0.mk (bsz_ (w := w) hg); have GE139 := Aside0.mk (bsz_ (w := w) hg); have NB129_139 := Aside0.mk (bne_ (g := gb129) hg); have NB139_129 := Aside0.mk (bne_ (g := gb129) hg).symm; have NB130_139 := Aside0.mk (bne_ (g := gb130) hg); have NB139_130 := Aside0.mk (bne_ (g := gb130) hg).symm; have NB132_139 := Aside0.mk (bne_ (g := gb132) hg); have NB139_132 := Aside0.mk (bne_ (g := gb132) hg).symm; replace BK129 := n3_; replace BK130 := n4_; replace BK132 := n5_; replace HB := n6_; clear n3_ n4_ n5_ n6_; clear hb hbox hg; have hnb33 := NB139_129.out; have hnc33 := NB129_139.out; have hnb34 := NB139_130.out; have hnc34 := NB130_139.out; have hnb35 := NB139_132.out; have hnc35 := NB132_139.out; obtain ⟨hcz36_0, hcz36_1, hcz36_2, hfz36_0, hfz36_1, hfz36_2⟩ := bc3_ BK139.out; obtain ⟨Ao37, co37, eo37⟩ := Kd.R_slice HO138.out; subst eo37; obtain ⟨hcz38_0, hcz38_1, hfz38_0, hfz38_1⟩ := bc2_ BK129.out; have hnb39 := NB132_130.out; have hnc39 := NB130_132.out; obtain ⟨hcz40_0, hcz40_1, hfz40_0, hfz40_1⟩ := bc2_ BK132.out) | ((with_reducible refine gate_builtin (b := .append) (xs := #[.tmp 37, .tmp 39]) rfl ?_); at_builtin; refine Kd.R_append (Kd.int .i64) (w0 := w) w.heap.size rfl (.tmp 37) (.tmp 39) 24 2 (.int .i64 0) 8 rfl Try.underlying24 info2 rfl (by decide) (by omega) u133001 x133001_1 x23_1 [.int .i64 x23_1] (fun k_ => (w.heap.size ≤ k_) ∧ some k_ ≠ (.slice Ao37 t136.length co37 : Value).ownBlock) (fun _ => False) rfl (by first | (go_simp; done) | (go_simp; rfl)) ?aP (fun _ hk => hk.elim) ?aF ?aO ?aB ?aS ?aL ?_; (case aP => exact rfl); (case aB => exact below_a); (case aF => exact (fun k_ hk => ⟨(Nat.le_trans (below_size below_a) hk), Kd.fresh' (Kd.R_lt (by (with_reducible repeat (first | apply Kd.R_alloc | apply Kd.R_drewN | apply Kd.R_drew)); exact (Kd.R_mono (Kd.R_mono (Kd.R_far (p := ⟨gb129, 1, none⟩) (Kd.R_far (p := ⟨gb129, 0, none⟩) (Kd.R_far (p := ⟨gb139, 2, none⟩) (Kd.R_far (p := ⟨gb139, 1, none⟩) (Kd.R_far (p := ⟨gb139, 0, none⟩) (Kd.R_types (Kd.R_types HO138.out BK139.out (by decide)) BK129.out (by decide)) (fun _ hk => hk.1.2) (.int .i64 t134)) (fun _ hk => hk.1.2) (.int .i64 t135)) (fun _ hk => hk.1.2) (.slice Ao37 t136.length co37)) (fun _ hk => hk.2) (.int .i64 t135)) (fun _ hk => hk.2) (.slice Ao37 t136.length co37)) (fun _ h_ => h_.1)) (fun _ h_ => h_.1)))) k_ hk⟩)); (case aO => exact (by (with_reducible repeat (first | apply Kd.R_alloc | apply Kd.R_drewN | apply Kd.R_drew)); exact Kd.R_mono (Kd.R_far (p := ⟨gb129, 1, none⟩) (Kd.R_far (p := ⟨gb129, 0, none⟩) (Kd.R_far (p := ⟨gb139, 2, none⟩) (Kd.R_far (p := ⟨gb139, 1, none⟩) (Kd.R_far (p := ⟨gb139, 0, none⟩) (Kd.R_types (Kd.R_types HO_133001.out BK139.out (by decide)) BK129.out (by decide)) (fun _ hk => hk.1.2) (.int .i64 t134)) (fun _ hk => hk.1.2) (.int .i64 t135)) (fun _ hk => hk.1.2) (.slice Ao37 t136.length co37)) (fun _ hk => hk.2) (.int .i64 t135)) (fun _ hk => hk.2) (.slice Ao37 t136.length co37)) (fun _ hk => ⟨hk.1.1.1, hk.1.1.2⟩))); (case aS => exact (below_size below_a)); (case aL => have := LMc26.out; omega); intro v141 w41 ho hb hg hat; rw [← Ny140.out] at ho; replace HO_130001 := Aside0.mk (Kd.V_afterv (ok := (fun k_ => (P0_1_ k_ ∨ w.heap.size ≤ k_) ∧ some k_ ≠ (.slice Ao37 t136.length co37 : Value).ownBlock ∧ k_ ≠ gb129 ∧ k_ ≠ gb130 ∧ k_ ≠ gb132 ∧ k_ ≠ gb139)) (by (with_reducible repeat (first | apply Kd.V_alloc | apply Kd.V_drewN | apply Kd.V_drew)); exact Kd.V_mono (Kd.V_far (p := ⟨gb129, 1, none⟩) (Kd.V_far (p := ⟨gb129, 0, none⟩) (Kd.V_far (p := ⟨gb139, 2, none⟩) (Kd.V_far (p := ⟨gb139, 1, none⟩) (Kd.V_far (p := ⟨gb139, 0, none⟩) (Kd.V_mono (Kd.V_mono HO_130001.out (fun k_ hk => (⟨hk, hk.2⟩ : _ ∧ k_ ≠ gb139))) (fun k_ hk => (⟨hk, hk.1.1.1.2.2.1⟩ : _ ∧ k_ ≠ gb129))) (fun _ hk => hk.1.2) (.int .i64 t134)) (fun _ hk => hk.1.2) (.int .i64 t135)) (fun _ hk => hk.1.2) (.slice Ao37 t136.length co37)) (fun _ hk => hk.2) (.int .i64 t135)) (fun _ hk => hk.2) (.slice Ao37 t136.length co37)) (fun _ hk => ⟨⟨hk.1.1.1.1.1, ⟨hk.1.1.1.2, ⟨hk.1.1.1.1.2.2.1, ⟨hk.1.1.1.1.2.2.2.1, ⟨hk.1.1.1.1.2.2.2.2, hk.1.1.2⟩⟩⟩⟩⟩, hk.1.1.1.1.2.1⟩)) hg hat); have n1_ := Aside0.mk (blk_grown (g := gb129) (o := .cells #[.int .i64 t135, .slice Ao37 t136.length co37] 26 (0, 0)) (by (with_reducible repeat (first | refine blk_drewN ?_ _ | refine blk_drew ?_ | refine blk_alloc ?_ _)); refine blk_put (cs := #[.int .i64 t135, .slice Ao30 x130001_1.length co30]) ?_ 1 _ rfl; (with_reducible repeat (first | refine blk_drewN ?_ _ | refine blk_drew ?_ | refine blk_alloc ?_ _)); refine blk_put (cs := #[.int .i64 x130000_1, .slice Ao30 x130001_1.length co30]) ?_ 0 _ rfl; (with_reducible repeat (first | refine blk_drewN ?_ _ | refine blk_drew ?_ | refine blk_alloc ?_ _)); refine blk_far ?_ NB129_139.out _; (with_reducible repeat (first | refine blk_drewN ?_ _ | refine blk_drew ?_ | refine blk_alloc ?_ _)); refine blk_far ?_ NB129_139.out _; (with_reducible repeat (first | refine blk_drewN ?_ _ | refine blk_drew ?_ | refine blk_alloc ?_ _)); refine blk_far ?_ NB129_139.out _; (with_reducible repeat (first | refine blk_drewN ?_ _ | refine blk_drew ?_ | refine blk_alloc ?_ _)); exact BK129.out) hg (Kd.R_ne HO_133001.out BK129.out (by decide))); have n2_ := Aside0.mk (blk_grown (g := gb130) blk_c hg (Kd.R_ne HO_133001.out BK130.out (by decide))); have n3_ := Aside0.mk (blk_grown (g := gb132) blk_c hg (Kd.R_ne HO_133001.out BK132.out (by decide))); replace HO138 := Aside0.mk (Kd.R_after (ok := (fun k_ => (w.heap.size ≤ k_))) (by (with_reducible repeat (first | apply Kd.R_alloc | apply Kd.R_drewN | apply Kd.R_drew)); exact Kd.R_mono (Kd.R_far (p := ⟨gb129, 1, none⟩) (Kd.R_far (p := ⟨gb129, 0, none⟩) (Kd.R_far (p := ⟨gb139, 2, none⟩) (Kd.R_far (p := ⟨gb139, 1, none⟩) (Kd.R_far (p := ⟨gb139, 0, none⟩) (Kd.R_types (Kd.R_types HO138.out BK139.out (by decide)) BK129.out (by decide)) (fun _ hk => hk.1.2) (.int .i64 t134)) (fun _ hk => hk.1.2) (.int .i64 t135)) (fun _ hk => hk.1.2) (.slice Ao37 t136.length co37)) (fun _ hk => hk.2) (.int .i64 t135)) (fun _ hk => hk.2) (.slice Ao37 t136.length co37)) (fun _ hk => ⟨hk.1.1.1.1, hk.1.1.2⟩)) hg hat); replace BK139 := Aside0.mk (blk_grown (g := gb139) (o := .cells #[.int .i64 t134, .int .i64 t135, .slice Ao37 t136.length co37] 30 (0, 0)) (by (with_reducible repeat (first | refine blk_drewN ?_ _ | refine blk_drew ?_ | refine blk_alloc ?_ _)); refine blk_far ?_ NB139_129.out _; (with_reducible repeat (first | refine blk_drewN ?_ _ | refine blk_drew ?_ | refine blk_alloc ?_ _)); refine blk_far ?_ NB139_129.out _; (with_reducible repeat (first | refine blk_drewN ?_ _ | refine blk_drew ?_ | refine blk_alloc ?_ _)); refine blk_put (cs := #[.int .i64 t134, .int .i64 t135, .slice none 0 0]) ?_ 2 _ rfl; (with_reducible repeat (first | refine blk_drewN ?_ _ | refine blk_drew ?_ | refine blk_alloc ?_ _)); refine blk_put (cs := #[.int .i64 t134, .int .i64 0, .slice none 0 0]) ?_ 1 _ rfl; (with_reducible repeat (first | refine blk_drewN ?_ _ | refine blk_drew ?_ | refine blk_alloc ?_ _)); refine blk_put (cs := #[.int .i64 0, .int .i64 0, .slice none 0 0]) ?_ 0 _ rfl; (with_reducible repeat (first | refine blk_drewN ?_ _ | refine blk_drew ?_ | refine blk_alloc ?_ _)); exact BK139.out) hg (Kd.R_ne HO_133001.out BK139.out (by decide))); replace HB := Aside0.mk (hb); have HO142 := Aside0.mk (ho); replace BK129 := n1_; replace BK130 := n2_; replace BK132 := n3_; clear HO_133001 n1_ n2_ n3_; clear ho hb hg hat; obtain ⟨Ao42, co42, eo42⟩ := Kd.R_slice HO142.out; subst eo42; obtain ⟨hcz43_0, hcz43_1, hfz43_0, hfz43_1⟩ := bc2_ BK132.out))
          go_roundg k1
          case measure => have := HK1.out; omega
          case rel => exact ⟨(wrap64 (x23_1 + 1)), (t135), (t136), (y140), (.slice Ao37 t136.length co37), (.slice Ao42 y140.length co42), eq_b, H', ⟨by have := HK1.out; omega⟩, ⟨Kd.V_mono (Kd.R_V (by (with_reducible repeat (first | apply Kd.R_alloc | apply Kd.R_drewN | apply Kd.R_drew)); exact Kd.R_mono (Kd.R_far (p := ⟨gb132, 1, none⟩) (Kd.R_types (Kd.R_types (Kd.R_types (Kd.R_types HO138.out BK129.out (by decide)) BK130.out (by decide)) BK132.out (by decide)) BK132.out (by decide)) (fun _ hk => hk.2) (.slice Ao42 y140.length co42)) (fun _ hk => And.intro hk.1.1.1.1.1 (And.intro hk.1.1.1.1.2 (And.intro hk.1.1.1.2 (And.intro hk.1.1.2 hk.1.2)))))) (fun k_ hk => by first | exact ⟨(.inr (hk.1)), hk.2⟩ | exact (.inr (hk)))⟩, ⟨by (with_reducible repeat (first | apply Kd.R_alloc | apply Kd.R_drewN | apply Kd.R_drew)); exact Kd.R_mono (Kd.R_far (p := ⟨gb132, 1, none⟩) (Kd.R_types HO142.out BK132.out (by decide)) (fun _ hk => hk.2) (.slice Ao42 y140.length co42)) (fun _ hk => hk.1.1)⟩, ⟨blk_a⟩, ⟨blk_a⟩, ⟨blk_a⟩, ⟨below_a⟩⟩
         ·
          rw [if_neg c26] at H; exact absurd H (by simp)
        ·
         rw [if_neg c25] at H; have c25b0 : (t134 == 0) = false := beq_eq_false_iff_ne.mpr c25; have c25b1 : (t134 != 0) = true := bne_iff_ne.mpr c25; have H' := Aside0.mk H; clear H; have p133 : 0 ≤ (x23_1 : Int) := of_decide_eq_true (by first | (with_reducible assumption) | assumption); have q133 : x23_1 < (l1.length : Int) := of_decide_eq_true (by first | (with_reducible assumption) | assumption); obtain ⟨ad133, e133, hx133_0⟩ := Kd.at_int HR1.out x23_1 p133 q133
         cases e133
         replace hx133_0 := (HB.out.cell (World.block_lt_of_cell? w _ hx133_0)).trans hx133_0; replace p133 := eq_true p133; replace q133 := eq_true q133; have hnb44 := NB129_130.out; have hnc44 := NB130_129.out; have hnb45 := NB129_132.out; have hnc45 := NB132_129.out; obtain ⟨hcz46_0, hcz46_1, hfz46_0, hfz46_1⟩ := bc2_ BK129.out; obtain ⟨Ao47, co47, eo47⟩ := Kd.V_slice HO_130001.out; subst eo47
         go_wp2_with (first | ((with_reducible refine gate_callee (f := 9) rfl ?_); refine goesL_ (some 30) rfl rfl Try.func9 (by kernel_rfl) rfl #[.agg #[.int .i64 x130000_1, .slice Ao47 x130001_1.length co47], .int .i64 (rd l1 x23_1)] rfl args_a ?_; (with_reducible refine (impl_TakeCounter.calls k1 x130000_1 _ _ x130001_1 (rd l1 x23_1) t134 t135 t136 _ ?side1 ?side2 A24.out).mono ?_); (case side1 => repeat (first | exact (Kd.V_reads' HO_130001.out).2.2 | (with_reducible refine Kd.C_alloc ?_ _) | (with_reducible refine Kd.C_drewN ?_ _) | (with_reducible refine Kd.C_drew ?_))); (case side2 => exact (Kd.V_reads' HO_130001.out).2.1); rintro e w48 ⟨v137, rfl, ho0, hb⟩; refine ⟨_, rfl, ?_⟩; replace HO_130001 := Aside0.mk (Kd.V_elder' (by (with_reducible repeat (first | apply Kd.V_alloc | apply Kd.V_drewN | apply Kd.V_drew)); exact HO_130001.out) (Kd.R_base ho0) hb); have n1_ := Aside0.mk (Kd.R_elder' (R_a HO_133001.out) (Kd.R_base ho0) hb); have HO138 := Aside0.mk (Kd.R_lower (Kd.R_new' (Kd.R_newM (M := fun k_ => (w.heap.size ≤ k_)) ho0 (below_size below_a) (fun k_ h_ => h_)) (Kd.R_lt (R_a HO_133001.out))) (below_size below_a)); replace BK129 := Aside0.mk (blk_below (g := gb129) blk_c hb); replace BK130 := Aside0.mk (blk_below (g := gb130) blk_c hb); replace BK132 := Aside0.mk (blk_below (g := gb132) blk_c hb); replace HB := Aside0.mk (below_step below_a hb); replace HO_133001 := n1_; clear n1_; (try clear hb); (try clear hb2); (try clear hk); (try clear hi); (try clear ho0)) | ((with_reducible refine gate_dst (N := 9) rfl ?_); refine box_event ?hg (N := 9) ?hd (cs := #[.int .i64 0, .int .i64 0, .slice none 0 0]) (t := 30) ?hr ?_; (case hd => rfl); (case hg => rfl); (case hr => first | (go_simp; done) | (go_simp; rfl)); intro gb139 hg w49 hbox hb; replace HO_130001 := Aside0.mk (Kd.V_below (Kd.V_elderB (by (with_reducible repeat (first | apply Kd.V_alloc | apply Kd.V_drewN | apply Kd.V_drew)); exact HO_130001.out) gb139 (Nat.le_of_eq hg.symm)) hb); replace HO_133001 := Aside0.mk (Kd.R_below (R_a HO_133001.out) hb); replace HO138 := Aside0.mk (Kd.R_below (R_a HO138.out) hb); have n3_ := Aside0.mk (blk_below (g := gb129) blk_c hb); have n4_ := Aside0.mk (blk_below (g := gb130) blk_c hb); have n5_ := Aside0.mk (blk_below (g := gb132) blk_c hb); have n6_ := Aside0.mk (below_step below_a hb); have BK139 := Aside0.mk (hbox); have GW139 := Aside0.mk (bsz_ (w := w) hg); have GE139 := Aside0.mk (bsz_ (w := w) hg); have NB129_139 := Aside0.mk (bne_ (g := gb129) hg); have NB139_129 := Aside0.mk (bne_ (g := gb129) hg).symm; have NB130_139 := Aside0.mk (bne_ (g := gb130) hg); have NB139_130 := Aside0.mk (bne_ (g := gb130) hg).symm; have NB132_139 := Aside0.mk (bne_ (g := gb132) hg); have NB139_132 := Aside0.mk (bne_ (g := gb132) hg).symm; replace BK129 := n3_; replace BK130 := n4_; replace BK132 := n5_; replace HB := n6_; clear n3_ n4_ n5_ n6_; clear hb hbox hg; have hnb50 := NB139_129.out; have hnc50 := NB129_139.out; have hnb51 := NB139_130.out; have hnc51 := NB130_139.out; have hnb52 := NB139_132.out; have hnc52 := NB132_139.out; obtain ⟨hcz53_0, hcz53_1, hcz53_2, hfz53_0, hfz53_1, hfz53_2⟩ := bc3_ BK139.out; obtain ⟨Ao54, co54, eo54⟩ := Kd.R_slice HO138.out; subst eo54))
         go_roundg k1
         case measure => have := HK1.out; omega
         case rel => exact ⟨(wrap64 (x23_1 + 1)), (x130000_1), (x130001_1), (x133001_1), (.slice Ao47 x130001_1.length co47), (u133001), eq_b, H', ⟨by have := HK1.out; omega⟩, ⟨by (with_reducible repeat (first | apply Kd.V_alloc | apply Kd.V_drewN | apply Kd.V_drew)); exact Kd.V_mono (Kd.V_far (p := ⟨gb139, 2, none⟩) (Kd.V_far (p := ⟨gb139, 1, none⟩) (Kd.V_far (p := ⟨gb139, 0, none⟩) (Kd.V_mono HO_130001.out (fun k_ hk => (⟨hk, hk.2⟩ : _ ∧ k_ ≠ gb139))) (fun _ hk => hk.2) (.int .i64 t134)) (fun _ hk => hk.2) (.int .i64 t135)) (fun _ hk => hk.2) (.slice Ao54 t136.length co54)) (fun _ hk => ⟨hk.1.1.1.1, ⟨hk.1.1.1.2.1, ⟨hk.1.1.1.2.2.1, ⟨hk.1.1.1.2.2.2.1, hk.1.1.1.2.2.2.2⟩⟩⟩⟩)⟩, ⟨by (with_reducible repeat (first | apply Kd.R_alloc | apply Kd.R_drewN | apply Kd.R_drew)); exact Kd.R_mono (Kd.R_far (p := ⟨gb139, 2, none⟩) (Kd.R_far (p := ⟨gb139, 1, none⟩) (Kd.R_far (p := ⟨gb139, 0, none⟩) (Kd.R_types HO_133001.out BK139.out (by decide)) (fun _ hk => hk.2) (.int .i64 t134)) (fun _ hk => hk.2) (.int .i64 t135)) (fun _ hk => hk.2) (.slice Ao54 t136.length co54)) (fun _ hk => hk.1.1)⟩, ⟨blk_a⟩, ⟨blk_a⟩, ⟨blk_a⟩, ⟨below_a⟩⟩
       ·
        rw [if_neg c23] at H; exact absurd H (by simp)
      ·
       rw [if_neg c22] at H; exact absurd H (by simp)
     ·
      rw [if_neg c21] at H; have c21b0 : decide (x23_1 < (l1.length : Int)) = false := decide_eq_false c21; clear c21; simp only [Option.some.injEq, Prod.mk.injEq] at H; obtain ⟨rfl, rfl⟩ := H; have hnb55 := NB132_129.out; have hnc55 := NB129_132.out; have hnb56 := NB132_130.out; have hnc56 := NB130_132.out; obtain ⟨hcz57_0, hcz57_1, hfz57_0, hfz57_1⟩ := bc2_ BK132.out; have hnb58 := NB130_129.out; have hnc58 := NB129_130.out; obtain ⟨hcz59_0, hcz59_1, hfz59_0, hfz59_1⟩ := bc2_ BK130.out; obtain ⟨Ao60, co60, eo60⟩ := Kd.R_slice HO_133001.out; subst eo60
      go_wp2
      refine bodyPost_ret (results_cell_row rfl _ _ gb130 35 #[.int .i64 0, .slice Ao60 x133001_1.length co60] (0, 0) _ rfl blk_a Try.underlying35 rfl (by kernel_rfl)) rfl ?_; exact ⟨_, eq_a, by (with_reducible repeat (first | apply Kd.R_alloc | apply Kd.R_drewN | apply Kd.R_drew)); exact Kd.R_mono (Kd.R_far (p := ⟨gb130, 1, none⟩) (Kd.R_far (p := ⟨gb130, 0, none⟩) (Kd.R_types HO_133001.out BK130.out (by decide)) (fun _ hk => hk.2) (.int .i64 0)) (fun _ hk => hk.2) (.slice Ao60 x133001_1.length co60)) (fun _ hk => hk.1), below_a⟩
 ·
  rw [if_neg c4] at H; have c4b0 : (t131 == 0) = false := beq_eq_false_iff_ne.mpr c4; have c4b1 : (t131 != 0) = true := bne_iff_ne.mpr c4; simp only [Option.some.injEq, Prod.mk.injEq] at H; obtain ⟨rfl, rfl⟩ := H
  go_enter Try.func11, Try.ntmps11
  go_wp2_with (first | ((with_reducible refine gate_dst (N := 2) rfl ?_); refine box_event ?hg (N := 2) ?hd (cs := #[.int .i64 a0_0, .slice A0_1 l0_1.length c0_1]) (t := 26) ?hr ?_; (case hd => rfl); (case hg => rfl); (case hr => first | (go_simp; done) | (go_simp; rfl)); intro gb129 hg w61 hbox hb; replace HO0_1 := Aside0.mk (Kd.V_below (Kd.V_elderB (by (with_reducible repeat (first | apply Kd.V_alloc | apply Kd.V_drewN | apply Kd.V_drew)); exact HO0_1.out) gb129 (Nat.le_of_eq hg.symm)) hb); have n1_ := Aside0.mk (below_step below_a hb); have BK129 := Aside0.mk (hbox); have GW129 := Aside0.mk (bsz_ (w := w) hg); have GE129 := Aside0.mk (bsz_ (w := w) hg); replace HB := n1_; clear n1_; clear hb hbox hg) | ((with_reducible refine gate_dst (N := 4) rfl ?_); refine box_event ?hg (N := 4) ?hd (cs := #[.int .i64 0, .slice none 0 0]) (t := 35) ?hr ?_; (case hd => rfl); (case hg => rfl); (case hr => first | (go_simp; done) | (go_simp; rfl)); intro gb130 hg w62 hbox hb; replace HO0_1 := Aside0.mk (Kd.V_below (Kd.V_elderB (by (with_reducible repeat (first | apply Kd.V_alloc | apply Kd.V_drewN | apply Kd.V_drew)); exact HO0_1.out) gb130 (Nat.le_of_eq hg.symm)) hb); have n1_ := Aside0.mk (blk_below (g := gb129) blk_c hb); have n2_ := Aside0.mk (below_step below_a hb); have BK130 := Aside0.mk (hbox); have GW130 := Aside0.mk (bsz_ (w := w) hg); have GE130 := Aside0.mk (bsz_ (w := w) hg); have NB129_130 := Aside0.mk (bne_ (g := gb129) hg); have NB130_129 := Aside0.mk (bne_ (g := gb129) hg).symm; replace BK129 := n1_; replace HB := n2_; clear n1_ n2_; clear hb hbox hg; have hnb63 := NB129_130.out; have hnc63 := NB130_129.out; obtain ⟨hcz64_0, hcz64_1, hfz64_0, hfz64_1⟩ := bc2_ BK129.out) | ((with_reducible refine gate_callee (f := 16) rfl ?_); refine goesL_ (some 11) rfl rfl Try.func16 (by kernel_rfl) rfl #[.agg #[.int .i64 a0_0, .slice A0_1 l0_1.length c0_1]] rfl args_a ?_; (with_reducible refine (impl_WindowFault.calls k a0_0 _ _ l0_1 t131 _ ?side1 ?side2 A3.out).mono ?_); (case side1 => repeat (first | exact (Kd.V_reads' HO0_1.out).2.2 | (with_reducible refine Kd.C_alloc ?_ _) | (with_reducible refine Kd.C_drewN ?_ _) | (with_reducible refine Kd.C_drew ?_))); (case side2 => exact (Kd.V_reads' HO0_1.out).2.1); rintro e w65 ⟨rfl, hb⟩; refine ⟨_, rfl, ?_⟩; replace HO0_1 := Aside0.mk (Kd.V_below (by (with_reducible repeat (first | apply Kd.V_alloc | apply Kd.V_drewN | apply Kd.V_drew)); exact HO0_1.out) hb); replace BK129 := Aside0.mk (blk_below (g := gb129) blk_c hb); replace BK130 := Aside0.mk (blk_below (g := gb130) blk_c hb); replace HB := Aside0.mk (below_step below_a hb); (try clear hb); (try clear hb2); (try clear hk); (try clear hi); obtain ⟨hcz66_0, hcz66_1, hfz66_0, hfz66_1⟩ := bc2_ BK130.out))
  refine bodyPost_ret (results_cell_row rfl _ _ gb130 35 #[.int .i64 t131, .slice none 0 0] (0, 0) _ rfl blk_a Try.underlying35 rfl (by kernel_rfl)) rfl ?_; exact ⟨_, eq_a, by first | exact Kd.R_nil _ _ _ _ _ | exact Kd.N_nil _ _ _ _ _ | exact Kd.V_nil _ _ _ _ _ | exact Kd.Q_nil _ _ _ _ _ | exact Kd.S_nil _ _ _ _ _, below_a⟩

/-! ### spec_l1In: function 50 -/
def spec_l1In.f (a0 : Int) (a1 : Int) (a2 : Int) : Option (Bool) := if a0 ≥ a1 then (some (decide (a0 ≤ a2))) else (some false)
set_option maxHeartbeats 8000000 in
set_option maxRecDepth 100000 in
theorem spec_l1In.calls (a0 : Int) (a1 : Int) (a2 : Int) (r : Bool) (w : World) (h : spec_l1In.f a0 a1 a2 = some r) :
  Calls Try.prog 50 #[.int .i64 a0, .int .i64 a1, .int .i64 a2] w fun e w' => e = .returned (.bool r) ∧ Drawn0 w w' := by
 have H : (if a0 ≥ a1 then (some (decide (a0 ≤ a2))) else (some false)) = some r := h
 clear h
 by_cases c4 : a0 ≥ a1
 ·
  rw [if_pos c4] at H; have c4b0 : decide (a1 ≤ a0) = true := decide_eq_true c4; clear c4; obtain rfl := Option.some.inj H
  go_enter Try.func50, Try.ntmps50
  go_wp2
  go_ret
  exact ⟨eq_b, by repeat (first | exact Drawn0.refl _ | apply Drawn0.step)⟩
 ·
  rw [if_neg c4] at H; have c4b0 : decide (a1 ≤ a0) = false := decide_eq_false c4; clear c4; obtain rfl := Option.some.inj H
  go_enter Try.func50, Try.ntmps50
  go_wp2
  go_ret
  exact ⟨eq_b, by repeat (first | exact Drawn0.refl _ | apply Drawn0.step)⟩

/-! ### spec_WindowFault: function 17 -/
mutual
def spec_WindowFault.l0 : Nat → Int → Int → List Int → Option (Int)
 | 0, _, _, _ => none
 | k + 1, x3, x144000, x144001 => if x3 < (x144001.length : Int) then (if 0 ≤ x3 then ((spec_l1In.f (rd x144001 x3) 0 x144000).bind fun t146 => (if t146 = true then (if (rd x144001 x3) ≤ (wrap64 (x144000 - 16)) then (some 3) else (spec_WindowFault.l0 k (wrap64 (x3 + 1)) x144000 x144001)) else (some 3))) else (none)) else (spec_WindowFault.l1 k 1 x144000 x144001)
def spec_WindowFault.l1 : Nat → Int → Int → List Int → Option (Int)
 | 0, _, _, _ => none
 | k + 1, x4, x144000, x144001 => if x4 < (x144001.length : Int) then (if 0 ≤ x4 then (if 0 ≤ (wrap64 (x4 - 1)) then (if (wrap64 (x4 - 1)) < (x144001.length : Int) then (if (rd x144001 x4) ≤ (rd x144001 (wrap64 (x4 - 1))) then (some 1) else (spec_WindowFault.l1 k (wrap64 (x4 + 1)) x144000 x144001)) else (none)) else (none)) else (none)) else (if x144000 ≥ 0 then (if (x144001.length : Int) = 0 then (some 8) else (if 0 ≤ (wrap64 ((x144001.length : Int) - 1)) then (if (wrap64 ((x144001.length : Int) - 1)) < (x144001.length : Int) then (if (rd x144001 (wrap64 ((x144001.length : Int) - 1))) = x144000 then (some 0) else (some 8)) else (none)) else (none))) else (some 0))
end
def spec_WindowFault.f (k : Nat) (a0_0 : Int) (l0_1 : List Int) : Option (Int) := (spec_l1In.f a0_0 (-1) 1000000000).bind fun t144 => (if t144 = true then (spec_WindowFault.l0 k 0 a0_0 l0_1) else (some 3))
theorem spec_WindowFault.mono_l : ∀ k, (∀ y0 y1 y2, LeO (spec_WindowFault.l0 k y0 y1 y2) (spec_WindowFault.l0 (k + 1) y0 y1 y2)) ∧ (∀ y0 y1 y2, LeO (spec_WindowFault.l1 k y0 y1 y2) (spec_WindowFault.l1 (k + 1) y0 y1 y2))
 | 0 => ⟨fun _ _ _ r h => by simp [spec_WindowFault.l0] at h, fun _ _ _ r h => by simp [spec_WindowFault.l1] at h⟩
 | k + 1 => by
  obtain ⟨ih0, ih1⟩ := spec_WindowFault.mono_l k; refine ⟨?_, ?_⟩
  ·
   intro y0 y1 y2
   unfold spec_WindowFault.l0
   repeat' first
   | (with_reducible exact ih0 _ _ _)
   | (with_reducible exact ih1 _ _ _)
   | (with_reducible exact LeO.refl _)
   | (with_reducible exact LeO.none _)
   | (with_reducible refine LeO.ite ?_ ?_)
   | (with_reducible refine LeO.bind ?_ (fun _ => ?_))
   | exact ih0 _ _ _
   | exact ih1 _ _ _
   | exact LeO.none _
   | refine LeO.ite ?_ ?_
   | refine LeO.bind ?_ (fun _ => ?_)
  ·
   intro y0 y1 y2
   unfold spec_WindowFault.l1
   repeat' first
   | (with_reducible exact ih0 _ _ _)
   | (with_reducible exact ih1 _ _ _)
   | (with_reducible exact LeO.refl _)
   | (with_reducible exact LeO.none _)
   | (with_reducible refine LeO.ite ?_ ?_)
   | (with_reducible refine LeO.bind ?_ (fun _ => ?_))
   | exact ih0 _ _ _
   | exact ih1 _ _ _
   | exact LeO.none _
   | refine LeO.ite ?_ ?_
   | refine LeO.bind ?_ (fun _ => ?_)
theorem spec_WindowFault.mono : ∀ a0 a1 k, LeO (spec_WindowFault.f k a0 a1) (spec_WindowFault.f (k + 1) a0 a1) := by
 intro a0 a1 k
 obtain ⟨ih0, ih1⟩ := spec_WindowFault.mono_l k
 unfold spec_WindowFault.f
 repeat' first
   | (with_reducible exact ih0 _ _ _)
   | (with_reducible exact ih1 _ _ _)
   | (with_reducible exact LeO.refl _)
   | (with_reducible exact LeO.none _)
   | (with_reducible refine LeO.ite ?_ ?_)
   | (with_reducible refine LeO.bind ?_ (fun _ => ?_))
   | exact ih0 _ _ _
   | exact ih1 _ _ _
   | exact LeO.none _
   | refine LeO.ite ?_ ?_
   | refine LeO.bind ?_ (fun _ => ?_)
set_option maxHeartbeats 8000000 in
set_option maxRecDepth 100000 in
theorem spec_WindowFault.calls (k : Nat) (a0_0 : Int) (A0_1 : Option Addr) (c0_1 : Nat) (l0_1 : List Int) (r : Int) (w : World) (hr0_1 : Kd.C (Kd.int .i64) w A0_1 l0_1.length l0_1) (hc0_1 : l0_1.length ≤ c0_1) (h : spec_WindowFault.f k a0_0 l0_1 = some r) :
  Calls Try.prog 17 #[.agg #[.int .i64 a0_0, .slice A0_1 l0_1.length c0_1]] w fun e w' => e = .returned (.int .i64 r) ∧ Below w.heap.size w w' := by
 have hu26 := Try.underlying26
 have HR0_1 := Aside0.mk hr0_1
 have HC0_1 := Aside0.mk hc0_1
 clear hr0_1 hc0_1
 have HB := Aside0.mk (Below.refl w.heap.size w)
 have H : ((spec_l1In.f a0_0 (-1) 1000000000).bind fun t144 => (if t144 = true then (spec_WindowFault.l0 k 0 a0_0 l0_1) else (some 3))) = some r := h
 clear h
 replace H := Option.bind_eq_some_iff.mp H
 obtain ⟨t144, A20, H⟩ := H
 replace H : (if t144 = true then (spec_WindowFault.l0 k 0 a0_0 l0_1) else (some 3)) = some r := H
 have A2 := Aside0.mk A20
 clear A20
 by_cases c3 : t144 = true
 ·
  subst c3; have H1 : (spec_WindowFault.l0 k 0 a0_0 l0_1) = some r := by rw [if_pos rfl] at H; exact H
  clear H; have H := H1; clear H1; have H' := Aside0.mk H; clear H
  go_enter Try.func17, Try.ntmps17
  go_wp2_with (first | ((with_reducible refine gate_dst (N := 1) rfl ?_); (try (refine gate_guard (by rfl) ?_; dsimp only)); refine box_event ?hg (N := 1) ?hd (cs := #[.int .i64 a0_0, .slice A0_1 l0_1.length c0_1]) (t := 26) ?hr ?_; (case hd => rfl); (case hg => rfl); (case hr => first | (go_simp; done) | (go_simp; rfl)); intro gb143 hg w4 hbox hb; have n0_ := Aside0.mk (below_step below_a hb); have BK143 := Aside0.mk (hbox); have GW143 := Aside0.mk (bsz_ (w := w) hg); have GE143 := Aside0.mk (bsz_ (w := w) hg); replace HB := n0_; clear n0_; clear hb hbox hg; obtain ⟨hcz5_0, hcz5_1, hfz5_0, hfz5_1⟩ := bc2_ BK143.out) | (go_at_call 50; (with_reducible refine (spec_l1In.calls a0_0 (-1) 1000000000 true _ A2.out).mono ?_); rintro e w' ⟨rfl, ⟨nd, rfl⟩⟩; (try first | exact ⟨rfl, _, World.drewN_drewN _ _ _⟩ | exact ⟨rfl, _, Eq.trans (World.drewN_drewN _ _ _) (congrArg (World.drewN _) (Nat.add_assoc _ _ _))⟩)))
  repeat (go_quiet (first | ((with_reducible refine gate_dst (N := 1) rfl ?_); (try (refine gate_guard (by rfl) ?_; dsimp only)); refine box_event ?hg (N := 1) ?hd (cs := #[.int .i64 a0_0, .slice A0_1 l0_1.length c0_1]) (t := 26) ?hr ?_; (case hd => rfl); (case hg => rfl); (case hr => first | (go_simp; done) | (go_simp; rfl)); intro gb143 hg w4 hbox hb; have n0_ := Aside0.mk (below_step below_a hb); have BK143 := Aside0.mk (hbox); have GW143 := Aside0.mk (bsz_ (w := w) hg); have GE143 := Aside0.mk (bsz_ (w := w) hg); replace HB := n0_; clear n0_; clear hb hbox hg; obtain ⟨hcz5_0, hcz5_1, hfz5_0, hfz5_1⟩ := bc2_ BK143.out) | (go_at_call 50; (with_reducible refine (spec_l1In.calls a0_0 (-1) 1000000000 true _ A2.out).mono ?_); rintro e w' ⟨rfl, ⟨nd, rfl⟩⟩; (try first | exact ⟨rfl, _, World.drewN_drewN _ _ _⟩ | exact ⟨rfl, _, Eq.trans (World.drewN_drewN _ _ _) (congrArg (World.drewN _) (Nat.add_assoc _ _ _))⟩))); try go_wp2_with (first | ((with_reducible refine gate_dst (N := 1) rfl ?_); (try (refine gate_guard (by rfl) ?_; dsimp only)); refine box_event ?hg (N := 1) ?hd (cs := #[.int .i64 a0_0, .slice A0_1 l0_1.length c0_1]) (t := 26) ?hr ?_; (case hd => rfl); (case hg => rfl); (case hr => first | (go_simp; done) | (go_simp; rfl)); intro gb143 hg w4 hbox hb; have n0_ := Aside0.mk (below_step below_a hb); have BK143 := Aside0.mk (hbox); have GW143 := Aside0.mk (bsz_ (w := w) hg); have GE143 := Aside0.mk (bsz_ (w := w) hg); replace HB := n0_; clear n0_; clear hb hbox hg; obtain ⟨hcz5_0, hcz5_1, hfz5_0, hfz5_1⟩ := bc2_ BK143.out) | (go_at_call 50; (with_reducible refine (spec_l1In.calls a0_0 (-1) 1000000000 true _ A2.out).mono ?_); rintro e w' ⟨rfl, ⟨nd, rfl⟩⟩; (try first | exact ⟨rfl, _, World.drewN_drewN _ _ _⟩ | exact ⟨rfl, _, Eq.trans (World.drewN_drewN _ _ _) (congrArg (World.drewN _) (Nat.add_assoc _ _ _))⟩))))
  go_loopg [3] k (fun kq v3 w' => ∃ (x3_1 : Int), v3 = .int .i64 x3_1 ∧ Aside0 (spec_WindowFault.l0 kq x3_1 a0_0 l0_1 = some r) ∧ Aside0 (kq ≤ k) ∧ Aside0 (w'.heap[gb143]? = some (.cells #[.int .i64 a0_0, (.slice A0_1 l0_1.length c0_1)] 26 (0, 0))) ∧ Aside0 (Below w.heap.size w w'))
  case atStart => exact ⟨(0), eq_b, H', ⟨Nat.le_refl _⟩, ⟨blk_a⟩, ⟨below_a⟩⟩
  case round =>
   clear H'
   try clear c1
   try clear p2
   try clear c3
   try clear hcz5_0 hcz5_1
   try clear hfz5_0 hfz5_1
   obtain ⟨x3_1, rfl, HA, HK1, BK143, HB⟩ := hrel
   cases gk with
   | zero => exact absurd HA.out (by simp [spec_WindowFault.l0])
   | succ k1 =>
    have H := HA.out; clear HA; simp only [spec_WindowFault.l0] at H
    by_cases c6 : x3_1 < (l0_1.length : Int)
    ·
     rw [if_pos c6] at H; have c6b0 : decide (x3_1 < (l0_1.length : Int)) = true := decide_eq_true c6; clear c6
     by_cases c7 : 0 ≤ x3_1
     ·
      rw [if_pos c7] at H; have c7b0 : decide (0 ≤ x3_1) = true := decide_eq_true c7; clear c7; replace H := Option.bind_eq_some_iff.mp H; obtain ⟨t146, A80, H⟩ := H; replace H : (if t146 = true then (if (rd l0_1 x3_1) ≤ (wrap64 (a0_0 - 16)) then (some 3) else (spec_WindowFault.l0 k1 (wrap64 (x3_1 + 1)) a0_0 l0_1)) else (some 3)) = some r := H; have A8 := Aside0.mk A80; clear A80
      by_cases c9 : t146 = true
      ·
       subst c9; have H1 : (if (rd l0_1 x3_1) ≤ (wrap64 (a0_0 - 16)) then (some 3) else (spec_WindowFault.l0 k1 (wrap64 (x3_1 + 1)) a0_0 l0_1)) = some r := by rw [if_pos rfl] at H; exact H
       clear H; have H := H1; clear H1
       by_cases c10 : (rd l0_1 x3_1) ≤ (wrap64 (a0_0 - 16))
       ·
        rw [if_pos c10] at H; have c10b0 : decide ((rd l0_1 x3_1) ≤ (wrap64 (a0_0 - 16))) = true := decide_eq_true c10; (try (have c10b1 : decide ((rd l0_1 x3_1) ≤ (IntKind.i64.wrap (a0_0 - 16))) = true := by simp only [i64_w]; exact decide_eq_true c10)); clear c10; obtain rfl := Option.some.inj H; obtain ⟨hcz11_0, hcz11_1, hfz11_0, hfz11_1⟩ := bc2_ BK143.out; have p145 : 0 ≤ (x3_1 : Int) := of_decide_eq_true (by first | (with_reducible assumption) | assumption); have q145 : x3_1 < (l0_1.length : Int) := of_decide_eq_true (by first | (with_reducible assumption) | assumption); obtain ⟨ad145, e145, hx145_0⟩ := Kd.at_int HR0_1.out x3_1 p145 q145
        cases e145
        replace hx145_0 := (HB.out.cell (World.block_lt_of_cell? w _ hx145_0)).trans hx145_0; replace p145 := eq_true p145; replace q145 := eq_true q145
        go_wp2_with (first | (go_at_call 50; (with_reducible refine (spec_l1In.calls (rd l0_1 x3_1) 0 a0_0 true _ A8.out).mono ?_); rintro e w' ⟨rfl, ⟨nd, rfl⟩⟩; (try first | exact ⟨rfl, _, World.drewN_drewN _ _ _⟩ | exact ⟨rfl, _, Eq.trans (World.drewN_drewN _ _ _) (congrArg (World.drewN _) (Nat.add_assoc _ _ _))⟩); have p147 : 0 ≤ (x3_1 : Int) := of_decide_eq_true (by first | (with_reducible assumption) | assumption); have q147 : x3_1 < (l0_1.length : Int) := of_decide_eq_true (by first | (with_reducible assumption) | assumption); obtain ⟨ad147, e147, hx147_0⟩ := Kd.at_int HR0_1.out x3_1 p147 q147; obtain rfl : ad145 = ad147 := (by injection e147); replace hx147_0 := (HB.out.cell (World.block_lt_of_cell? w _ hx147_0)).trans hx147_0; replace p147 := eq_true p147; replace q147 := eq_true q147))
        repeat (go_quiet (first | (go_at_call 50; (with_reducible refine (spec_l1In.calls (rd l0_1 x3_1) 0 a0_0 true _ A8.out).mono ?_); rintro e w' ⟨rfl, ⟨nd, rfl⟩⟩; (try first | exact ⟨rfl, _, World.drewN_drewN _ _ _⟩ | exact ⟨rfl, _, Eq.trans (World.drewN_drewN _ _ _) (congrArg (World.drewN _) (Nat.add_assoc _ _ _))⟩); have p147 : 0 ≤ (x3_1 : Int) := of_decide_eq_true (by first | (with_reducible assumption) | assumption); have q147 : x3_1 < (l0_1.length : Int) := of_decide_eq_true (by first | (with_reducible assumption) | assumption); obtain ⟨ad147, e147, hx147_0⟩ := Kd.at_int HR0_1.out x3_1 p147 q147; obtain rfl : ad145 = ad147 := (by injection e147); replace hx147_0 := (HB.out.cell (World.block_lt_of_cell? w _ hx147_0)).trans hx147_0; replace p147 := eq_true p147; replace q147 := eq_true q147)); try go_wp2_with (first | (go_at_call 50; (with_reducible refine (spec_l1In.calls (rd l0_1 x3_1) 0 a0_0 true _ A8.out).mono ?_); rintro e w' ⟨rfl, ⟨nd, rfl⟩⟩; (try first | exact ⟨rfl, _, World.drewN_drewN _ _ _⟩ | exact ⟨rfl, _, Eq.trans (World.drewN_drewN _ _ _) (congrArg (World.drewN _) (Nat.add_assoc _ _ _))⟩); have p147 : 0 ≤ (x3_1 : Int) := of_decide_eq_true (by first | (with_reducible assumption) | assumption); have q147 : x3_1 < (l0_1.length : Int) := of_decide_eq_true (by first | (with_reducible assumption) | assumption); obtain ⟨ad147, e147, hx147_0⟩ := Kd.at_int HR0_1.out x3_1 p147 q147; obtain rfl : ad145 = ad147 := (by injection e147); replace hx147_0 := (HB.out.cell (World.block_lt_of_cell? w _ hx147_0)).trans hx147_0; replace p147 := eq_true p147; replace q147 := eq_true q147)))
        go_ret
        exact ⟨eq_a, below_a⟩
       ·
        rw [if_neg c10] at H; have c10b0 : decide ((rd l0_1 x3_1) ≤ (wrap64 (a0_0 - 16))) = false := decide_eq_false c10; (try (have c10b1 : decide ((rd l0_1 x3_1) ≤ (IntKind.i64.wrap (a0_0 - 16))) = false := by simp only [i64_w]; exact decide_eq_false c10)); clear c10; have H' := Aside0.mk H; clear H; obtain ⟨hcz12_0, hcz12_1, hfz12_0, hfz12_1⟩ := bc2_ BK143.out; have p145 : 0 ≤ (x3_1 : Int) := of_decide_eq_true (by first | (with_reducible assumption) | assumption); have q145 : x3_1 < (l0_1.length : Int) := of_decide_eq_true (by first | (with_reducible assumption) | assumption); obtain ⟨ad145, e145, hx145_0⟩ := Kd.at_int HR0_1.out x3_1 p145 q145
        cases e145
        replace hx145_0 := (HB.out.cell (World.block_lt_of_cell? w _ hx145_0)).trans hx145_0; replace p145 := eq_true p145; replace q145 := eq_true q145
        go_wp2_with (first | (go_at_call 50; (with_reducible refine (spec_l1In.calls (rd l0_1 x3_1) 0 a0_0 true _ A8.out).mono ?_); rintro e w' ⟨rfl, ⟨nd, rfl⟩⟩; (try first | exact ⟨rfl, _, World.drewN_drewN _ _ _⟩ | exact ⟨rfl, _, Eq.trans (World.drewN_drewN _ _ _) (congrArg (World.drewN _) (Nat.add_assoc _ _ _))⟩); have p147 : 0 ≤ (x3_1 : Int) := of_decide_eq_true (by first | (with_reducible assumption) | assumption); have q147 : x3_1 < (l0_1.length : Int) := of_decide_eq_true (by first | (with_reducible assumption) | assumption); obtain ⟨ad147, e147, hx147_0⟩ := Kd.at_int HR0_1.out x3_1 p147 q147; obtain rfl : ad145 = ad147 := (by injection e147); replace hx147_0 := (HB.out.cell (World.block_lt_of_cell? w _ hx147_0)).trans hx147_0; replace p147 := eq_true p147; replace q147 := eq_true q147))
        repeat (go_quiet (first | (go_at_call 50; (with_reducible refine (spec_l1In.calls (rd l0_1 x3_1) 0 a0_0 true _ A8.out).mono ?_); rintro e w' ⟨rfl, ⟨nd, rfl⟩⟩; (try first | exact ⟨rfl, _, World.drewN_drewN _ _ _⟩ | exact ⟨rfl, _, Eq.trans (World.drewN_drewN _ _ _) (congrArg (World.drewN _) (Nat.add_assoc _ _ _))⟩); have p147 : 0 ≤ (x3_1 : Int) := of_decide_eq_true (by first | (with_reducible assumption) | assumption); have q147 : x3_1 < (l0_1.length : Int) := of_decide_eq_true (by first | (with_reducible assumption) | assumption); obtain ⟨ad147, e147, hx147_0⟩ := Kd.at_int HR0_1.out x3_1 p147 q147; obtain rfl : ad145 = ad147 := (by injection e147); replace hx147_0 := (HB.out.cell (World.block_lt_of_cell? w _ hx147_0)).trans hx147_0; replace p147 := eq_true p147; replace q147 := eq_true q147)); try go_wp2_with (first | (go_at_call 50; (with_reducible refine (spec_l1In.calls (rd l0_1 x3_1) 0 a0_0 true _ A8.out).mono ?_); rintro e w' ⟨rfl, ⟨nd, rfl⟩⟩; (try first | exact ⟨rfl, _, World.drewN_drewN _ _ _⟩ | exact ⟨rfl, _, Eq.trans (World.drewN_drewN _ _ _) (congrArg (World.drewN _) (Nat.add_assoc _ _ _))⟩); have p147 : 0 ≤ (x3_1 : Int) := of_decide_eq_true (by first | (with_reducible assumption) | assumption); have q147 : x3_1 < (l0_1.length : Int) := of_decide_eq_true (by first | (with_reducible assumption) | assumption); obtain ⟨ad147, e147, hx147_0⟩ := Kd.at_int HR0_1.out x3_1 p147 q147; obtain rfl : ad145 = ad147 := (by injection e147); replace hx147_0 := (HB.out.cell (World.block_lt_of_cell? w _ hx147_0)).trans hx147_0; replace p147 := eq_true p147; replace q147 := eq_true q147)))
        go_roundg k1
        case measure => have := HK1.out; omega
        case rel => exact ⟨(wrap64 (x3_1 + 1)), eq_b, H', ⟨by have := HK1.out; omega⟩, ⟨blk_a⟩, ⟨below_a⟩⟩
      ·
       replace c9 := Bool.eq_false_iff.mpr c9; subst c9; have H1 : (some 3) = some r := by rw [if_neg (show ¬ (false = true) by decide)] at H; exact H
       clear H; have H := H1; clear H1; obtain rfl := Option.some.inj H; obtain ⟨hcz13_0, hcz13_1, hfz13_0, hfz13_1⟩ := bc2_ BK143.out; have p145 : 0 ≤ (x3_1 : Int) := of_decide_eq_true (by first | (with_reducible assumption) | assumption); have q145 : x3_1 < (l0_1.length : Int) := of_decide_eq_true (by first | (with_reducible assumption) | assumption); obtain ⟨ad145, e145, hx145_0⟩ := Kd.at_int HR0_1.out x3_1 p145 q145
       cases e145
       replace hx145_0 := (HB.out.cell (World.block_lt_of_cell? w _ hx145_0)).trans hx145_0; replace p145 := eq_true p145; replace q145 := eq_true q145
       go_wp2_with (first | (go_at_call 50; (with_reducible refine (spec_l1In.calls (rd l0_1 x3_1) 0 a0_0 false _ A8.out).mono ?_); rintro e w' ⟨rfl, ⟨nd, rfl⟩⟩; (try first | exact ⟨rfl, _, World.drewN_drewN _ _ _⟩ | exact ⟨rfl, _, Eq.trans (World.drewN_drewN _ _ _) (congrArg (World.drewN _) (Nat.add_assoc _ _ _))⟩)))
       repeat (go_quiet (first | (go_at_call 50; (with_reducible refine (spec_l1In.calls (rd l0_1 x3_1) 0 a0_0 false _ A8.out).mono ?_); rintro e w' ⟨rfl, ⟨nd, rfl⟩⟩; (try first | exact ⟨rfl, _, World.drewN_drewN _ _ _⟩ | exact ⟨rfl, _, Eq.trans (World.drewN_drewN _ _ _) (congrArg (World.drewN _) (Nat.add_assoc _ _ _))⟩))); try go_wp2_with (first | (go_at_call 50; (with_reducible refine (spec_l1In.calls (rd l0_1 x3_1) 0 a0_0 false _ A8.out).mono ?_); rintro e w' ⟨rfl, ⟨nd, rfl⟩⟩; (try first | exact ⟨rfl, _, World.drewN_drewN _ _ _⟩ | exact ⟨rfl, _, Eq.trans (World.drewN_drewN _ _ _) (congrArg (World.drewN _) (Nat.add_assoc _ _ _))⟩))))
       go_ret
       exact ⟨eq_a, below_a⟩
     ·
      rw [if_neg c7] at H; exact absurd H (by simp)
    ·
     rw [if_neg c6] at H; have c6b0 : decide (x3_1 < (l0_1.length : Int)) = false := decide_eq_false c6; clear c6; have H' := Aside0.mk H; clear H; obtain ⟨hcz14_0, hcz14_1, hfz14_0, hfz14_1⟩ := bc2_ BK143.out
     go_wp2
     repeat (go_quiet (fail); try go_wp2)
     go_loopg [4] k1 (fun kq v4 w' => ∃ (x4_2 : Int), v4 = .int .i64 x4_2 ∧ Aside0 (spec_WindowFault.l1 kq x4_2 a0_0 l0_1 = some r) ∧ Aside0 (kq ≤ k1) ∧ Aside0 (w'.heap[gb143]? = some (.cells #[.int .i64 a0_0, (.slice A0_1 l0_1.length c0_1)] 26 (0, 0))) ∧ Aside0 (Below w.heap.size w w'))
     case atStart => exact ⟨(1), eq_b, H', ⟨Nat.le_refl _⟩, ⟨blk_a⟩, ⟨below_a⟩⟩
     case round =>
      clear H'
      try clear c1
      try clear p1
      try clear q1
      try clear hx1
      try clear p2 p2
      try clear c3
      try clear c6 c6b0
      try clear p6
      try clear c7 c7b0
      try clear c9
      try clear c10 c10b0 c10b1
      try clear p14
      try clear q14
      try clear hx14
      try clear hcz11_0 hcz11_1
      try clear hcz12_0 hcz12_1
      try clear hcz13_0 hcz13_1
      try clear hcz14_0 hcz14_1
      try clear hcz5_0 hcz5_1
      try clear hfz11_0 hfz11_1
      try clear hfz12_0 hfz12_1
      try clear hfz13_0 hfz13_1
      try clear hfz14_0 hfz14_1
      try clear hfz5_0 hfz5_1
      try clear hx145_0
      try clear hx147_0
      try clear p145
      try clear p147
      try clear q145
      try clear q147
      obtain ⟨x4_2, rfl, HA, HK2, BK143, HB⟩ := hrel
      cases gk with
      | zero => exact absurd HA.out (by simp [spec_WindowFault.l1])
      | succ k2 =>
       have H := HA.out; clear HA; simp only [spec_WindowFault.l1] at H
       by_cases c15 : x4_2 < (l0_1.length : Int)
       ·
        rw [if_pos c15] at H; have c15b0 : decide (x4_2 < (l0_1.length : Int)) = true := decide_eq_true c15; clear c15
        by_cases c16 : 0 ≤ x4_2
        ·
         rw [if_pos c16] at H; have c16b0 : decide (0 ≤ x4_2) = true := decide_eq_true c16; clear c16; obtain ⟨ji17, hji17⟩ : ∃ j_ : Int, (wrap64 (x4_2 - 1)) = j_ := ⟨_, rfl⟩; replace H : (if 0 ≤ (ji17) then (if (ji17) < (l0_1.length : Int) then (if (rd l0_1 x4_2) ≤ (rd l0_1 (ji17)) then (some 1) else (spec_WindowFault.l1 k2 (wrap64 (x4_2 + 1)) a0_0 l0_1)) else (none)) else (none)) = some r := by first | (rw [hji17] at H; exact H) | (simp only [hji17] at H ⊢; exact H)
         have hji17w : (IntKind.i64.wrap (x4_2 - 1)) = ji17 := (i64_w _).trans hji17
         by_cases c18 : 0 ≤ (ji17)
         ·
          rw [if_pos c18] at H; have c18b0 : decide (0 ≤ (ji17)) = true := decide_eq_true c18; clear c18
          by_cases c19 : (ji17) < (l0_1.length : Int)
          ·
           rw [if_pos c19] at H; have c19b0 : decide ((ji17) < (l0_1.length : Int)) = true := decide_eq_true c19; clear c19
           by_cases c20 : (rd l0_1 x4_2) ≤ (rd l0_1 (ji17))
           ·
            rw [if_pos c20] at H; have c20b0 : decide ((rd l0_1 x4_2) ≤ (rd l0_1 (ji17))) = true := decide_eq_true c20; clear c20; obtain rfl := Option.some.inj H; obtain ⟨hcz21_0, hcz21_1, hfz21_0, hfz21_1⟩ := bc2_ BK143.out; have p148 : 0 ≤ (x4_2 : Int) := of_decide_eq_true (by first | (with_reducible assumption) | assumption); have q148 : x4_2 < (l0_1.length : Int) := of_decide_eq_true (by first | (with_reducible assumption) | assumption); obtain ⟨ad148, e148, hx148_0⟩ := Kd.at_int HR0_1.out x4_2 p148 q148
            cases e148
            replace hx148_0 := (HB.out.cell (World.block_lt_of_cell? w _ hx148_0)).trans hx148_0; replace p148 := eq_true p148; replace q148 := eq_true q148; have p149 : 0 ≤ ((ji17) : Int) := of_decide_eq_true (by first | (with_reducible assumption) | assumption); have q149 : (ji17) < (l0_1.length : Int) := of_decide_eq_true (by first | (with_reducible assumption) | assumption); obtain ⟨ad149, e149, hx149_0⟩ := Kd.at_int HR0_1.out (ji17) p149 q149; obtain rfl : ad148 = ad149 := (by injection e149); replace hx149_0 := (HB.out.cell (World.block_lt_of_cell? w _ hx149_0)).trans hx149_0; replace p149 := eq_true p149; replace q149 := eq_true q149
            go_wp2
            repeat (go_quiet (fail); try go_wp2)
            go_ret
            exact ⟨by first | rfl | (simp [errW_none, errW_some] <;> rfl) | (simp only [← hji17]; first | rfl | (simp [errW_none, errW_some] <;> rfl)) | (simp [*, errW_none, errW_some] <;> rfl), below_a⟩
           ·
            rw [if_neg c20] at H; have c20b0 : decide ((rd l0_1 x4_2) ≤ (rd l0_1 (ji17))) = false := decide_eq_false c20; clear c20; have H' := Aside0.mk H; clear H; obtain ⟨hcz22_0, hcz22_1, hfz22_0, hfz22_1⟩ := bc2_ BK143.out; have p148 : 0 ≤ (x4_2 : Int) := of_decide_eq_true (by first | (with_reducible assumption) | assumption); have q148 : x4_2 < (l0_1.length : Int) := of_decide_eq_true (by first | (with_reducible assumption) | assumption); obtain ⟨ad148, e148, hx148_0⟩ := Kd.at_int HR0_1.out x4_2 p148 q148
            cases e148
            replace hx148_0 := (HB.out.cell (World.block_lt_of_cell? w _ hx148_0)).trans hx148_0; replace p148 := eq_true p148; replace q148 := eq_true q148; have p149 : 0 ≤ ((ji17) : Int) := of_decide_eq_true (by first | (with_reducible assumption) | assumption); have q149 : (ji17) < (l0_1.length : Int) := of_decide_eq_true (by first | (with_reducible assumption) | assumption); obtain ⟨ad149, e149, hx149_0⟩ := Kd.at_int HR0_1.out (ji17) p149 q149; obtain rfl : ad148 = ad149 := (by injection e149); replace hx149_0 := (HB.out.cell (World.block_lt_of_cell? w _ hx149_0)).trans hx149_0; replace p149 := eq_true p149; replace q149 := eq_true q149
            go_wp2
            repeat (go_quiet (fail); try go_wp2)
            go_roundg k2
            case measure => have := HK1.out; have := HK2.out; omega
            case rel => exact ⟨(wrap64 (x4_2 + 1)), eq_b, H', ⟨by have := HK1.out; have := HK2.out; omega⟩, ⟨blk_a⟩, ⟨below_a⟩⟩
          ·
           rw [if_neg c19] at H; exact absurd H (by simp)
         ·
          rw [if_neg c18] at H; exact absurd H (by simp)
        ·
         rw [if_neg c16] at H; exact absurd H (by simp)
       ·
        rw [if_neg c15] at H; have c15b0 : decide (x4_2 < (l0_1.length : Int)) = false := decide_eq_false c15; clear c15
        by_cases c23 : a0_0 ≥ 0
        ·
         rw [if_pos c23] at H; have c23b0 : decide (0 ≤ a0_0) = true := decide_eq_true c23; clear c23
         by_cases c24 : (l0_1.length : Int) = 0
         ·
          rw [if_pos c24] at H; have c24b0 : ((l0_1.length : Int) == 0) = true := beq_iff_eq.mpr c24; have c24b1 : ((l0_1.length : Int) != 0) = false := bne_eq_false_iff_eq.mpr c24; clear c24; obtain rfl := Option.some.inj H; obtain ⟨hcz25_0, hcz25_1, hfz25_0, hfz25_1⟩ := bc2_ BK143.out
          go_wp2
          repeat (go_quiet (fail); try go_wp2)
          go_ret
          exact ⟨eq_a, below_a⟩
         ·
          rw [if_neg c24] at H; have c24b0 : ((l0_1.length : Int) == 0) = false := beq_eq_false_iff_ne.mpr c24; have c24b1 : ((l0_1.length : Int) != 0) = true := bne_iff_ne.mpr c24; have c24b2 : ¬ (l0_1 = []) := fun h_ => c24 (by rw [h_]; rfl); obtain ⟨ji26, hji26⟩ : ∃ j_ : Int, (wrap64 ((l0_1.length : Int) - 1)) = j_ := ⟨_, rfl⟩; replace H : (if 0 ≤ (ji26) then (if (ji26) < (l0_1.length : Int) then (if (rd l0_1 (ji26)) = a0_0 then (some 0) else (some 8)) else (none)) else (none)) = some r := by first | (rw [hji26] at H; exact H) | (simp only [hji26] at H ⊢; exact H)
          have hji26w : (IntKind.i64.wrap ((l0_1.length : Int) - 1)) = ji26 := (i64_w _).trans hji26
          by_cases c27 : 0 ≤ (ji26)
          ·
           rw [if_pos c27] at H; have c27b0 : decide (0 ≤ (ji26)) = true := decide_eq_true c27; clear c27
           by_cases c28 : (ji26) < (l0_1.length : Int)
           ·
            rw [if_pos c28] at H; have c28b0 : decide ((ji26) < (l0_1.length : Int)) = true := decide_eq_true c28; clear c28
            by_cases c29 : (rd l0_1 (ji26)) = a0_0
            ·
             rw [if_pos c29] at H; have c29b0 : ((rd l0_1 (ji26)) == a0_0) = true := beq_iff_eq.mpr c29; have c29b1 : ((rd l0_1 (ji26)) != a0_0) = false := bne_eq_false_iff_eq.mpr c29; clear c29; obtain rfl := Option.some.inj H; obtain ⟨hcz30_0, hcz30_1, hfz30_0, hfz30_1⟩ := bc2_ BK143.out; have p150 : 0 ≤ ((ji26) : Int) := of_decide_eq_true (by first | (with_reducible assumption) | assumption); have q150 : (ji26) < (l0_1.length : Int) := of_decide_eq_true (by first | (with_reducible assumption) | assumption); obtain ⟨ad150, e150, hx150_0⟩ := Kd.at_int HR0_1.out (ji26) p150 q150
             cases e150
             replace hx150_0 := (HB.out.cell (World.block_lt_of_cell? w _ hx150_0)).trans hx150_0; replace p150 := eq_true p150; replace q150 := eq_true q150
             go_wp2
             repeat (go_quiet (fail); try go_wp2)
             go_ret
             exact ⟨by first | rfl | (simp [errW_none, errW_some] <;> rfl) | (simp only [← hji26]; first | rfl | (simp [errW_none, errW_some] <;> rfl)) | (simp [*, errW_none, errW_some] <;> rfl), below_a⟩
            ·
             rw [if_neg c29] at H; have c29b0 : ((rd l0_1 (ji26)) == a0_0) = false := beq_eq_false_iff_ne.mpr c29; have c29b1 : ((rd l0_1 (ji26)) != a0_0) = true := bne_iff_ne.mpr c29; obtain rfl := Option.some.inj H; obtain ⟨hcz31_0, hcz31_1, hfz31_0, hfz31_1⟩ := bc2_ BK143.out; have p150 : 0 ≤ ((ji26) : Int) := of_decide_eq_true (by first | (with_reducible assumption) | assumption); have q150 : (ji26) < (l0_1.length : Int) := of_decide_eq_true (by first | (with_reducible assumption) | assumption); obtain ⟨ad150, e150, hx150_0⟩ := Kd.at_int HR0_1.out (ji26) p150 q150
             cases e150
             replace hx150_0 := (HB.out.cell (World.block_lt_of_cell? w _ hx150_0)).trans hx150_0; replace p150 := eq_true p150; replace q150 := eq_true q150
             go_wp2
             repeat (go_quiet (fail); try go_wp2)
             go_ret
             exact ⟨by first | rfl | (simp [errW_none, errW_some] <;> rfl) | (simp only [← hji26]; first | rfl | (simp [errW_none, errW_some] <;> rfl)) | (simp [*, errW_none, errW_some] <;> rfl), below_a⟩
           ·
            rw [if_neg c28] at H; exact absurd H (by simp)
          ·
           rw [if_neg c27] at H; exact absurd H (by simp)
        ·
         rw [if_neg c23] at H; have c23b0 : decide (0 ≤ a0_0) = false := decide_eq_false c23; clear c23; obtain rfl := Option.some.inj H; obtain ⟨hcz32_0, hcz32_1, hfz32_0, hfz32_1⟩ := bc2_ BK143.out
         go_wp2
         repeat (go_quiet (fail); try go_wp2)
         go_ret
         exact ⟨eq_a, below_a⟩
 ·
  replace c3 := Bool.eq_false_iff.mpr c3; subst c3; have H1 : (some 3) = some r := by rw [if_neg (show ¬ (false = true) by decide)] at H; exact H
  clear H; have H := H1; clear H1; obtain rfl := Option.some.inj H
  go_enter Try.func17, Try.ntmps17
  go_wp2_with (first | ((with_reducible refine gate_dst (N := 1) rfl ?_); (try (refine gate_guard (by rfl) ?_; dsimp only)); refine box_event ?hg (N := 1) ?hd (cs := #[.int .i64 a0_0, .slice A0_1 l0_1.length c0_1]) (t := 26) ?hr ?_; (case hd => rfl); (case hg => rfl); (case hr => first | (go_simp; done) | (go_simp; rfl)); intro gb143 hg w33 hbox hb; have n0_ := Aside0.mk (below_step below_a hb); have BK143 := Aside0.mk (hbox); have GW143 := Aside0.mk (bsz_ (w := w) hg); have GE143 := Aside0.mk (bsz_ (w := w) hg); replace HB := n0_; clear n0_; clear hb hbox hg; obtain ⟨hcz34_0, hcz34_1, hfz34_0, hfz34_1⟩ := bc2_ BK143.out) | (go_at_call 50; (with_reducible refine (spec_l1In.calls a0_0 (-1) 1000000000 false _ A2.out).mono ?_); rintro e w' ⟨rfl, ⟨nd, rfl⟩⟩; (try first | exact ⟨rfl, _, World.drewN_drewN _ _ _⟩ | exact ⟨rfl, _, Eq.trans (World.drewN_drewN _ _ _) (congrArg (World.drewN _) (Nat.add_assoc _ _ _))⟩)))
  repeat (go_quiet (first | ((with_reducible refine gate_dst (N := 1) rfl ?_); (try (refine gate_guard (by rfl) ?_; dsimp only)); refine box_event ?hg (N := 1) ?hd (cs := #[.int .i64 a0_0, .slice A0_1 l0_1.length c0_1]) (t := 26) ?hr ?_; (case hd => rfl); (case hg => rfl); (case hr => first | (go_simp; done) | (go_simp; rfl)); intro gb143 hg w33 hbox hb; have n0_ := Aside0.mk (below_step below_a hb); have BK143 := Aside0.mk (hbox); have GW143 := Aside0.mk (bsz_ (w := w) hg); have GE143 := Aside0.mk (bsz_ (w := w) hg); replace HB := n0_; clear n0_; clear hb hbox hg; obtain ⟨hcz34_0, hcz34_1, hfz34_0, hfz34_1⟩ := bc2_ BK143.out) | (go_at_call 50; (with_reducible refine (spec_l1In.calls a0_0 (-1) 1000000000 false _ A2.out).mono ?_); rintro e w' ⟨rfl, ⟨nd, rfl⟩⟩; (try first | exact ⟨rfl, _, World.drewN_drewN _ _ _⟩ | exact ⟨rfl, _, Eq.trans (World.drewN_drewN _ _ _) (congrArg (World.drewN _) (Nat.add_assoc _ _ _))⟩))); try go_wp2_with (first | ((with_reducible refine gate_dst (N := 1) rfl ?_); (try (refine gate_guard (by rfl) ?_; dsimp only)); refine box_event ?hg (N := 1) ?hd (cs := #[.int .i64 a0_0, .slice A0_1 l0_1.length c0_1]) (t := 26) ?hr ?_; (case hd => rfl); (case hg => rfl); (case hr => first | (go_simp; done) | (go_simp; rfl)); intro gb143 hg w33 hbox hb; have n0_ := Aside0.mk (below_step below_a hb); have BK143 := Aside0.mk (hbox); have GW143 := Aside0.mk (bsz_ (w := w) hg); have GE143 := Aside0.mk (bsz_ (w := w) hg); replace HB := n0_; clear n0_; clear hb hbox hg; obtain ⟨hcz34_0, hcz34_1, hfz34_0, hfz34_1⟩ := bc2_ BK143.out) | (go_at_call 50; (with_reducible refine (spec_l1In.calls a0_0 (-1) 1000000000 false _ A2.out).mono ?_); rintro e w' ⟨rfl, ⟨nd, rfl⟩⟩; (try first | exact ⟨rfl, _, World.drewN_drewN _ _ _⟩ | exact ⟨rfl, _, Eq.trans (World.drewN_drewN _ _ _) (congrArg (World.drewN _) (Nat.add_assoc _ _ _))⟩))))
  go_ret
  exact ⟨eq_a, below_a⟩

end Go.Proofs.Ytbnibakamdhpdaa.MFnExactTakeAll
