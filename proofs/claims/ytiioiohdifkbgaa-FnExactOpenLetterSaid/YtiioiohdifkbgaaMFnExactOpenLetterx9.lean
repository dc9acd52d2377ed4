-- Laid by a program of this session (the kit's print, turned where it falls short; the texts of functions that it does not take are proved by hand).
import Derived.Test.YtiioiohdifkbgaaMFnExactOpenLetterx0
import Derived.Test.YtiioiohdifkbgaaMFnExactOpenLetterx8
namespace Go.Proofs.Ytiioiohdifkbgaa.MFnExactOpenLetter
open Go.RowKit Go.Proofs.YtiioiohdifkbgaaW.PrintWords Go.Proofs.YtiioiohdifkbgaaW.PrintLast Go.Proofs.YtiioiohdifkbgaaW.PrintMore
set_option maxHeartbeats 8000000
set_option maxRecDepth 100000
attribute [local go_sem] max2_int min2_int max_two min_two max_three min_three max_four min_four   -- for this text's walks alone
set_option linter.unusedVariables false
set_option linter.unusedSimpArgs false
attribute [local go_sem] isSome_setCell
mutual
def impl_element_times.l0 : Nat → List Int → Int → Int → Int → Int → Int → Int → Option (Int × Int)
 | 0, _, _, _, _, _, _, _ => none
 | k + 1, x14, x15, x16, x403000, x403001, x406000, x406001 => if x16 < x15 then (if 0 ≤ x16 then (if x16 < (x14.length : Int) then (impl_element_times.l1 k (rd x14 x16) 63 x14 x15 x16 x403000 x403001 x406000 x406001) else (none)) else (none)) else (some (x406000, x406001))
def impl_element_times.l1 : Nat → Int → Int → List Int → Int → Int → Int → Int → Int → Int → Option (Int × Int)
 | 0, _, _, _, _, _, _, _, _, _ => none
 | k + 1, x7, x8, x14, x15, x16, x403000, x403001, x406000, x406001 => if x8 ≥ 0 then (if 0 ≤ x8 then (if (Int.tmod (shr .u64 x7 x8) 2) = 1 then ((impl_element_plus.f x406000 x406001 x403000 x403001).bind fun bt410 => ((impl_element_shifted.f x403000 x403001).bind fun bt412 => (impl_element_times.l1 k x7 (wrap64 (x8 - 1)) x14 x15 x16 bt412.1 bt412.2 bt410.1 bt410.2))) else ((impl_element_shifted.f x403000 x403001).bind fun bt414 => (impl_element_times.l1 k x7 (wrap64 (x8 - 1)) x14 x15 x16 bt414.1 bt414.2 x406000 x406001))) else (none)) else (impl_element_times.l0 k x14 x15 (wrap64 (x16 + 1)) x403000 x403001 x406000 x406001)
end
def impl_element_times.f (k : Nat) (a0_0 : Int) (a0_1 : Int) (a1_0 : Int) (a1_1 : Int) : Option (Int × Int) := (some (([a1_0, a1_1] : List Int) : List Int)).bind fun y406 => (impl_element_times.l0 k y406 (y406.length : Int) 0 a0_0 a0_1 0 0)
theorem impl_element_times.calls (k : Nat) (a0_0 : Int) (a0_1 : Int) (a1_0 : Int) (a1_1 : Int) (r1 : Int) (r2 : Int) (w : World) (h : impl_element_times.f k a0_0 a0_1 a1_0 a1_1 = some (r1, r2)) :
  Calls Try.prog 116 #[.agg #[.int .u64 a0_0, .int .u64 a0_1], .agg #[.int .u64 a1_0, .int .u64 a1_1]] w fun e w' => e = .returned (.agg #[.int .u64 r1, .int .u64 r2]) ∧ Below w.heap.size w w' := by
 have hu139 := Try.underlying139
 have HB := A_ (Below.refl w.heap.size w)
 have H : ((some (([a1_0, a1_1] : List Int) : List Int)).bind fun y406 => (impl_element_times.l0 k y406 (y406.length : Int) 0 a0_0 a0_1 0 0)) = some (r1, r2) := h
 clear h
 obtain ⟨y406, hy406⟩ : ∃ y_ : List Int, y_ = (([a1_0, a1_1] : List Int)) := ⟨_, rfl⟩
 replace H : (impl_element_times.l0 k y406 (y406.length : Int) 0 a0_0 a0_1 0 0) = some (r1, r2) := by first | (rw [hy406]; with_reducible exact H) | (have H2_ := os_ H; rw [hy406]; with_reducible exact H2_) | (have H2_ := os_ H; with_reducible exact H2_) | with_reducible exact H | (rw [hy406]; exact H) | exact H
 have Ny406 := A_ hy406
 clear hy406
 have H' := A_ H
 clear H
 go_enter Try.func116, Try.ntmps116
 go_wp2_with (first | ((with_reducible refine gate_dst (N := 2) rfl ?_); refine bx_ 2 (#[.int .u64 a0_0, .int .u64 a0_1]) 139 rfl rfl ?hr ?_; (case hr => go_simp <;> rfl); intro gb402 hg w3 hbox hb; have n0_ := bs_ hb; have BK402 := A_ (hbox); have GW402 := gw_ (w := w) hg; replace HB := n0_; clear n0_; clear hb hbox hg) | ((with_reducible refine gate_dst (N := 3) rfl ?_); refine bx_ 3 (#[.int .u64 a1_0, .int .u64 a1_1]) 139 rfl rfl ?hr ?_; (case hr => go_simp <;> rfl); intro gb403 hg w4 hbox hb; have n0_ := bw_ gb402 hb; have n1_ := bs_ hb; have BK403 := A_ (hbox); have GW403 := gw_ (w := w) hg; have NB402_403 := bn_ gb402 hg; have NB403_402 := bm2_ gb402 hg; replace BK402 := n0_; replace HB := n1_; clear n0_ n1_; clear hb hbox hg) | ((with_reducible refine gate_dst (N := 4) rfl ?_); refine bx_ 4 (#[.int .u64 0, .int .u64 0]) 139 rfl rfl ?hr ?_; (case hr => go_simp <;> rfl); intro gb404 hg w5 hbox hb; have n0_ := bw_ gb402 hb; have n1_ := bw_ gb403 hb; have n2_ := bs_ hb; have BK404 := A_ (hbox); have GW404 := gw_ (w := w) hg; have NB402_404 := bn_ gb402 hg; have NB404_402 := bm2_ gb402 hg; have NB403_404 := bn_ gb403 hg; have NB404_403 := bm2_ gb403 hg; replace BK402 := n0_; replace BK403 := n1_; replace HB := n2_; clear n0_ n1_ n2_; clear hb hbox hg) | ((with_reducible refine gate_dst (N := 5) rfl ?_); refine bx_ 5 (#[.int .u64 0, .int .u64 0]) 139 rfl rfl ?hr ?_; (case hr => go_simp <;> rfl); intro gb405 hg w6 hbox hb; have n0_ := bw_ gb402 hb; have n1_ := bw_ gb403 hb; have n2_ := bw_ gb404 hb; have n3_ := bs_ hb; have BK405 := A_ (hbox); have GW405 := gw_ (w := w) hg; have NB402_405 := bn_ gb402 hg; have NB405_402 := bm2_ gb402 hg; have NB403_405 := bn_ gb403 hg; have NB405_403 := bm2_ gb403 hg; have NB404_405 := bn_ gb404 hg; have NB405_404 := bm2_ gb404 hg; replace BK402 := n0_; replace BK403 := n1_; replace BK404 := n2_; replace HB := n3_; clear n0_ n1_ n2_ n3_; clear hb hbox hg; have hnb7 := NB405_402.out; have hnc7 := NB402_405.out; have hnb8 := NB405_403.out; have hnc8 := NB403_405.out; have hnb9 := NB405_404.out; have hnc9 := NB404_405.out; obtain ⟨hcz10_0, hcz10_1, hfz10_0, hfz10_1⟩ := bc2_ BK405.out; have hnb11 := NB403_402.out; have hnc11 := NB402_403.out; have hnb12 := NB403_404.out; have hnc12 := NB404_403.out; obtain ⟨hcz13_0, hcz13_1, hfz13_0, hfz13_1⟩ := bc2_ BK403.out) | ((with_reducible refine gate_dst (N := 14) rfl ?_); refine Kd.R_lit (Kd.int .u64) _ 124 ?hg (N := 14) ?hd (xs := ([a1_0, a1_1] : List Int)) (inner := [.int .u64 a1_0, .int .u64 a1_1]) (ok := fun _ => True) (okp := fun _ => True) ?hr ?hp (fun _ hk => hk) trivial (Below.refl _ _) (Nat.le_refl _) (by simp) ?_; (case hd => rfl); (case hg => rfl); (case hr => go_simp <;> rfl); (case hp => exact (Reps.one (show Kd.M (Kd.int .u64) _ _ _ a1_0 [.int .u64 a1_0] from rfl) (Reps.one (show Kd.M (Kd.int .u64) _ _ _ a1_1 [.int .u64 a1_1] from rfl) (Reps.none _ _)))); intro v407 w14 ho15 hb hg_ hnew_; clear hg_ hnew_; (first | rw [← Ny406.out] at ho15 | (simp only [Int.reduceToNat] at ho15; rw [← Ny406.out] at ho15)); have HO408 := A_ (Kd.R_lower ho15 (below_size below_a)); replace BK402 := bw_ gb402 hb; replace BK403 := bw_ gb403 hb; replace BK404 := bw_ gb404 hb; replace BK405 := A_ (blk_below (g := gb405) (o := .cells #[.int .u64 0, .int .u64 0] 139 (0, 0)) blk_a hb); replace HB := bs_ hb; clear hb ho15; obtain ⟨Ao16, co16, eo16⟩ := Kd.R_slice HO408.out; subst eo16))
 go_loopg [16] k (fun kq v16 w' => ∃ (x16_1 : Int) (x403000_1 : Int) (x403001_1 : Int) (x406000_1 : Int) (x406001_1 : Int), v16 = .int .i64 x16_1 ∧ Aside0 (impl_element_times.l0 kq y406 (y406.length : Int) x16_1 x403000_1 x403001_1 x406000_1 x406001_1 = some (r1, r2)) ∧ Aside0 (kq ≤ k) ∧ Aside0 (Kd.R (Kd.int .u64) 124 w' w.heap.size (fun _ => True) (.slice Ao16 y406.length co16) y406) ∧ Aside0 (w'.heap[gb402]? = some (.cells #[.int .u64 x403000_1, .int .u64 x403001_1] 139 (0, 0))) ∧ Aside0 (w'.heap[gb403]? = some (.cells #[.int .u64 a1_0, .int .u64 a1_1] 139 (0, 0))) ∧ Aside0 (w'.heap[gb404]? = some (.cells #[.int .u64 0, .int .u64 0] 139 (0, 0))) ∧ Aside0 (w'.heap[gb405]? = some (.cells #[.int .u64 x406000_1, .int .u64 x406001_1] 139 (0, 0))) ∧ Aside0 (Below w.heap.size w w'))
 case atStart => exact ⟨(0), (a0_0), (a0_1), (0), (0), eq_b, H', ⟨Nat.le_refl _⟩, ⟨R_a HO408.out⟩, ⟨blk_a⟩, ⟨blk_a⟩, ⟨blk_a⟩, ⟨blk_a⟩, ⟨below_a⟩⟩
 case round =>
  clear H'
  try clear c1
  try clear p2
  try clear c7
  try clear c8
  try clear c9
  try clear c11
  try clear c12
  try clear hcz10_0 hcz10_1
  try clear hcz13_0 hcz13_1
  try clear hfz10_0 hfz10_1
  try clear hfz13_0 hfz13_1
  obtain ⟨x16_1, x403000_1, x403001_1, x406000_1, x406001_1, rfl, HA, HK1, HO_14, BK402, BK403, BK404, BK405, HB⟩ := hrel
  cases gk with
  | zero => exact absurd HA.out (by simp [impl_element_times.l0])
  | succ k1 =>
   have H := HA.out; clear HA; simp only [impl_element_times.l0] at H
   by_cases c17 : x16_1 < (y406.length : Int)
   ·
    rw [if_pos c17] at H; have c17b0 : decide (x16_1 < (y406.length : Int)) = true := decide_eq_true c17; clear c17
    by_cases c18 : 0 ≤ x16_1
    rotate_left
    · rw [if_neg c18] at H; exact absurd H (by simp)
    rw [if_pos c18] at H; have c18b0 : decide (0 ≤ x16_1) = true := decide_eq_true c18; clear c18
    by_cases c19 : x16_1 < (y406.length : Int)
    rotate_left
    · rw [if_neg c19] at H; exact absurd H (by simp)
    rw [if_pos c19] at H; have c19b0 : decide (x16_1 < (y406.length : Int)) = true := decide_eq_true c19; clear c19; have H' := A_ H; clear H; have p409 : 0 ≤ (x16_1 : Int) := od_; have q409 : x16_1 < (y406.length : Int) := od_; obtain ⟨ad409, e409, hx409_0⟩ := Kd.at_int (Kd.R_reads' HO_14.out).2.2 x16_1 p409 q409
    cases e409
    replace p409 := eq_true p409; replace q409 := eq_true q409
    go_wp2
    go_loopg [8] k1 (fun kq v8 w' => ∃ (x8_2 : Int) (x403000_2 : Int) (x403001_2 : Int) (x406000_2 : Int) (x406001_2 : Int), v8 = .int .i64 x8_2 ∧ Aside0 (impl_element_times.l1 kq (rd y406 x16_1) x8_2 y406 (y406.length : Int) x16_1 x403000_2 x403001_2 x406000_2 x406001_2 = some (r1, r2)) ∧ Aside0 (kq ≤ k1) ∧ Aside0 (Kd.R (Kd.int .u64) 124 w' w.heap.size (fun _ => True) (.slice (some ad409) y406.length co16) y406) ∧ Aside0 (w'.heap[gb402]? = some (.cells #[.int .u64 x403000_2, .int .u64 x403001_2] 139 (0, 0))) ∧ Aside0 (w'.heap[gb403]? = some (.cells #[.int .u64 a1_0, .int .u64 a1_1] 139 (0, 0))) ∧ Aside0 (w'.heap[gb404]? = some (.cells #[.int .u64 0, .int .u64 0] 139 (0, 0))) ∧ Aside0 (w'.heap[gb405]? = some (.cells #[.int .u64 x406000_2, .int .u64 x406001_2] 139 (0, 0))) ∧ Aside0 (Below w.heap.size w w'))
    case atStart => exact ⟨(63), (x403000_1), (x403001_1), (x406000_1), (x406001_1), eq_b, H', ⟨Nat.le_refl _⟩, ⟨R_a HO_14.out⟩, ⟨blk_a⟩, ⟨blk_a⟩, ⟨blk_a⟩, ⟨blk_a⟩, ⟨below_a⟩⟩
    case round =>
     clear H'
     try clear c1
     try clear p2 p2
     try clear p4
     try clear q4
     try clear hx4
     try clear c7
     try clear c8
     try clear c9
     try clear c11
     try clear c12
     try clear c17 c17b0
     try clear c18 c18b0
     try clear c19 c19b0
     try clear hcz10_0 hcz10_1
     try clear hcz13_0 hcz13_1
     try clear hfz10_0 hfz10_1
     try clear hfz13_0 hfz13_1
     try clear hx409_0
     try clear p409
     try clear q409
     obtain ⟨x8_2, x403000_2, x403001_2, x406000_2, x406001_2, rfl, HA, HK2, HO_14, BK402, BK403, BK404, BK405, HB⟩ := hrel
     cases gk with
     | zero => exact absurd HA.out (by simp [impl_element_times.l1])
     | succ k2 =>
      have H := HA.out; clear HA; simp only [impl_element_times.l1] at H
      by_cases c20 : x8_2 ≥ 0
      ·
       rw [if_pos c20] at H; have c20b0 : decide (0 ≤ x8_2) = true := decide_eq_true c20; clear c20
       by_cases c21 : 0 ≤ x8_2
       rotate_left
       · rw [if_neg c21] at H; exact absurd H (by simp)
       rw [if_pos c21] at H; have c21b0 := eq_true c21; have c21b1 : decide (0 ≤ x8_2) = true := decide_eq_true c21; clear c21; obtain ⟨ji22, hji22⟩ : ∃ j_ : Int, (shr .u64 (rd y406 x16_1) x8_2) = j_ := ⟨_, rfl⟩; replace H : (if (Int.tmod (ji22) 2) = 1 then ((impl_element_plus.f x406000_2 x406001_2 x403000_2 x403001_2).bind fun bt410 => ((impl_element_shifted.f x403000_2 x403001_2).bind fun bt412 => (impl_element_times.l1 k2 (rd y406 x16_1) (wrap64 (x8_2 - 1)) y406 (y406.length : Int) x16_1 bt412.1 bt412.2 bt410.1 bt410.2))) else ((impl_element_shifted.f x403000_2 x403001_2).bind fun bt414 => (impl_element_times.l1 k2 (rd y406 x16_1) (wrap64 (x8_2 - 1)) y406 (y406.length : Int) x16_1 bt414.1 bt414.2 x406000_2 x406001_2))) = some (r1, r2) := by first | (rw [hji22] at H; exact H) | (simp only [hji22] at H ⊢; exact H)
       have hji22_ : ((rd y406 x16_1) / 2 ^ min x8_2.toNat 64) = ji22 := hji22; have hji22z : x8_2 ≤ 64 → ((rd y406 x16_1) / 2 ^ x8_2.toNat) = ji22 := shr_small hji22
       by_cases c23 : (Int.tmod (ji22) 2) = 1
       ·
        rw [if_pos c23] at H; have c23b0 : ((Int.tmod (ji22) 2) == 1) = true := beq_iff_eq.mpr c23; have c23b1 : ((Int.tmod (ji22) 2) != 1) = false := bne_eq_false_iff_eq.mpr c23; clear c23; obtain ⟨⟨t410, t411⟩, A240, H⟩ := bi_ H; (try dsimp only at H); have A24 := A_ A240; clear A240; obtain ⟨⟨t412, t413⟩, A250, H⟩ := bi_ H; replace H : (impl_element_times.l1 k2 (rd y406 x16_1) (wrap64 (x8_2 - 1)) y406 (y406.length : Int) x16_1 t412 t413 t410 t411) = some (r1, r2) := H; have A25 := A_ A250; clear A250; have H' := A_ H; clear H; have hnb26 := NB405_402.out; have hnc26 := NB402_405.out; have hnb27 := NB405_403.out; have hnc27 := NB403_405.out; have hnb28 := NB405_404.out; have hnc28 := NB404_405.out; obtain ⟨hcz29_0, hcz29_1, hfz29_0, hfz29_1⟩ := bc2_ BK405.out; have hnb30 := NB402_403.out; have hnc30 := NB403_402.out; have hnb31 := NB402_404.out; have hnc31 := NB404_402.out; obtain ⟨hcz32_0, hcz32_1, hfz32_0, hfz32_1⟩ := bc2_ BK402.out
        go_wp2_with (first | ((with_reducible refine gate_callee (f := 115) rfl ?_); refine goesL_ (some 31) rfl rfl Try.func115 (by kernel_rfl) rfl #[.agg #[.int .u64 x406000_2, .int .u64 x406001_2], .agg #[.int .u64 x403000_2, .int .u64 x403001_2]] rfl args_a ?_; (with_reducible refine (impl_element_plus.calls x406000_2 x406001_2 x403000_2 x403001_2 t410 t411 _ A24.out).mono ?_); rintro e w33 ⟨rfl, hb⟩; refine ⟨_, rfl, ?_⟩; replace HO_14 := A_ (Kd.R_below (R_a HO_14.out) hb); replace BK402 := bw_ gb402 hb; replace BK403 := bw_ gb403 hb; replace BK404 := bw_ gb404 hb; replace BK405 := bw_ gb405 hb; replace HB := bs_ hb; (try clear hb); obtain ⟨hcz34_0, hcz34_1, hfz34_0, hfz34_1⟩ := bc2_ BK405.out; obtain ⟨hcz35_0, hcz35_1, hfz35_0, hfz35_1⟩ := bc2_ BK402.out) | ((with_reducible refine gate_callee (f := 124) rfl ?_); refine goesL_ (some 33) rfl rfl Try.func124 (by kernel_rfl) rfl #[.agg #[.int .u64 x403000_2, .int .u64 x403001_2]] rfl args_a ?_; (with_reducible refine (impl_element_shifted.calls x403000_2 x403001_2 t412 t413 _ A25.out).mono ?_); rintro e w36 ⟨rfl, hb⟩; refine ⟨_, rfl, ?_⟩; replace HO_14 := A_ (Kd.R_below (by (with_reducible repeat (first | apply Kd.R_alloc | apply Kd.R_drewN | apply Kd.R_drew)); exact (Kd.R_mono (Kd.R_far (p := ⟨gb405, 1, none⟩) (Kd.R_far (p := ⟨gb405, 0, none⟩) (Kd.R_types HO_14.out BK405.out (by decide)) (fun _ hk => hk.2) (.int .u64 t410)) (fun _ hk => hk.2) (.int .u64 t411)) (fun _ h_ => h_.1))) hb); replace BK402 := bw_ gb402 hb; replace BK403 := bw_ gb403 hb; replace BK404 := bw_ gb404 hb; replace BK405 := A_ (blk_below (g := gb405) (o := .cells #[.int .u64 t410, .int .u64 t411] 139 (0, 0)) blk_a hb); replace HB := bs_ hb; (try clear hb); obtain ⟨hcz37_0, hcz37_1, hfz37_0, hfz37_1⟩ := bc2_ BK402.out))
        go_roundg k2
        case measure => have := HK1.out; have := HK2.out; omega
        case rel => exact ⟨(wrap64 (x8_2 - 1)), (t412), (t413), (t410), (t411), eq_b, H', ⟨by have := HK1.out; have := HK2.out; omega⟩, ⟨by (with_reducible repeat (first | apply Kd.R_alloc | apply Kd.R_drewN | apply Kd.R_drew)); exact Kd.R_mono (Kd.R_far (p := ⟨gb402, 1, none⟩) (Kd.R_far (p := ⟨gb402, 0, none⟩) (Kd.R_types HO_14.out BK402.out (by decide)) (fun _ hk => hk.2) (.int .u64 t412)) (fun _ hk => hk.2) (.int .u64 t413)) (fun _ hk => trivial)⟩, ⟨blk_a⟩, ⟨blk_a⟩, ⟨blk_a⟩, ⟨blk_a⟩, ⟨below_a⟩⟩
       ·
        rw [if_neg c23] at H; have c23b0 : ((Int.tmod (ji22) 2) == 1) = false := beq_eq_false_iff_ne.mpr c23; have c23b1 : ((Int.tmod (ji22) 2) != 1) = true := bne_iff_ne.mpr c23; obtain ⟨⟨t414, t415⟩, A380, H⟩ := bi_ H; replace H : (impl_element_times.l1 k2 (rd y406 x16_1) (wrap64 (x8_2 - 1)) y406 (y406.length : Int) x16_1 t414 t415 x406000_2 x406001_2) = some (r1, r2) := H; have A38 := A_ A380; clear A380; have H' := A_ H; clear H; have hnb39 := NB402_403.out; have hnc39 := NB403_402.out; have hnb40 := NB402_404.out; have hnc40 := NB404_402.out; have hnb41 := NB402_405.out; have hnc41 := NB405_402.out; obtain ⟨hcz42_0, hcz42_1, hfz42_0, hfz42_1⟩ := bc2_ BK402.out
        go_wp2_with (first | ((with_reducible refine gate_callee (f := 124) rfl ?_); refine goesL_ (some 33) rfl rfl Try.func124 (by kernel_rfl) rfl #[.agg #[.int .u64 x403000_2, .int .u64 x403001_2]] rfl args_a ?_; (with_reducible refine (impl_element_shifted.calls x403000_2 x403001_2 t414 t415 _ A38.out).mono ?_); rintro e w43 ⟨rfl, hb⟩; refine ⟨_, rfl, ?_⟩; replace HO_14 := A_ (Kd.R_below (R_a HO_14.out) hb); replace BK402 := bw_ gb402 hb; replace BK403 := bw_ gb403 hb; replace BK404 := bw_ gb404 hb; replace BK405 := bw_ gb405 hb; replace HB := bs_ hb; (try clear hb); obtain ⟨hcz44_0, hcz44_1, hfz44_0, hfz44_1⟩ := bc2_ BK402.out))
        go_roundg k2
        case measure => have := HK1.out; have := HK2.out; omega
        case rel => exact ⟨(wrap64 (x8_2 - 1)), (t414), (t415), (x406000_2), (x406001_2), eq_b, H', ⟨by have := HK1.out; have := HK2.out; omega⟩, ⟨by (with_reducible repeat (first | apply Kd.R_alloc | apply Kd.R_drewN | apply Kd.R_drew)); exact Kd.R_mono (Kd.R_far (p := ⟨gb402, 1, none⟩) (Kd.R_far (p := ⟨gb402, 0, none⟩) (Kd.R_types HO_14.out BK402.out (by decide)) (fun _ hk => hk.2) (.int .u64 t414)) (fun _ hk => hk.2) (.int .u64 t415)) (fun _ hk => trivial)⟩, ⟨blk_a⟩, ⟨blk_a⟩, ⟨blk_a⟩, ⟨blk_a⟩, ⟨below_a⟩⟩
      ·
       rw [if_neg c20] at H; have c20b0 : decide (0 ≤ x8_2) = false := decide_eq_false c20; clear c20; have H' := A_ H; clear H
       go_wp2
       go_roundg k2
       case measure => have := HK1.out; have := HK2.out; omega
       case rel => exact ⟨(wrap64 (x16_1 + 1)), (x403000_2), (x403001_2), (x406000_2), (x406001_2), eq_b, H', ⟨by have := HK1.out; have := HK2.out; omega⟩, ⟨R_a HO_14.out⟩, ⟨blk_a⟩, ⟨blk_a⟩, ⟨blk_a⟩, ⟨blk_a⟩, ⟨below_a⟩⟩
   ·
    rw [if_neg c17] at H; have c17b0 : decide (x16_1 < (y406.length : Int)) = false := decide_eq_false c17; clear c17; simp only [Option.some.injEq, Prod.mk.injEq] at H; obtain ⟨rfl, rfl⟩ := H; have hnb45 := NB405_402.out; have hnc45 := NB402_405.out; have hnb46 := NB405_403.out; have hnc46 := NB403_405.out; have hnb47 := NB405_404.out; have hnc47 := NB404_405.out; obtain ⟨hcz48_0, hcz48_1, hfz48_0, hfz48_1⟩ := bc2_ BK405.out; have hnb49 := NB404_402.out; have hnc49 := NB402_404.out; have hnb50 := NB404_403.out; have hnc50 := NB403_404.out; obtain ⟨hcz51_0, hcz51_1, hfz51_0, hfz51_1⟩ := bc2_ BK404.out
    go_wp2
    refine bodyPost_ret (results_cell_row rfl _ _ gb404 139 #[.int .u64 x406000_1, .int .u64 x406001_1] (0, 0) _ rfl blk_a Try.underlying139 rfl (by kernel_rfl)) rfl ?_; exact ⟨eq_a, below_a⟩
def impl_whole.f (l0 : List Int) : Option (List Int) := (bytes_Clone.f l0).bind fun t416 => (if 0 ≤ ((16 - ((l0.length : Int) % 16)) % 16) then (if t416.length + ((16 - ((l0.length : Int) % 16)) % 16 : Int).toNat < 140737488355328 then (some (t416 ++ List.replicate ((16 - ((l0.length : Int) % 16)) % 16 : Int).toNat 0)) else (none)) else (none))
theorem impl_whole.calls (A0 : Option Addr) (c0 : Nat) (l0 : List Int) (r : List Int) (w : World) (hr0 : Kd.C (Kd.int .u8) w A0 l0.length l0) (hc0 : l0.length ≤ c0) (h : impl_whole.f l0 = some r) :
  Calls Try.prog 109 #[.slice A0 l0.length c0] w fun e w' => ∃ v0_ : Value, e = .returned (v0_) ∧ Kd.R (Kd.int .u8) 5 w' w.heap.size (fun _ => True) v0_ r ∧ Below w.heap.size w w' := by
 have HR0 := A_ hr0
 have HC0 := A_ hc0
 clear hr0 hc0
 have HB := A_ (Below.refl w.heap.size w)
 have H : ((bytes_Clone.f l0).bind fun t416 => (if 0 ≤ ((16 - ((l0.length : Int) % 16)) % 16) then (if t416.length + ((16 - ((l0.length : Int) % 16)) % 16 : Int).toNat < 140737488355328 then (some (t416 ++ List.replicate ((16 - ((l0.length : Int) % 16)) % 16 : Int).toNat 0)) else (none)) else (none))) = some r := h
 clear h
 obtain ⟨t416, A20, H⟩ := bi_ H
 (try dsimp only at H)
 have A2 := A_ A20
 clear A20
 obtain ⟨ji3, hji3⟩ : ∃ j_ : Int, ((16 - ((l0.length : Int) % 16)) % 16) = j_ := ⟨_, rfl⟩
 replace H : (if 0 ≤ (ji3) then (if t416.length + (ji3 : Int).toNat < 140737488355328 then (some (t416 ++ List.replicate (ji3 : Int).toNat 0)) else (none)) else (none)) = some r := by first | (rw [hji3] at H; exact H) | (simp only [hji3] at H ⊢; exact H)
 (try rw [hji3] at A2)
 by_cases c4 : 0 ≤ (ji3)
 rotate_left
 · rw [if_neg c4] at H; exact absurd H (by simp)
 rw [if_pos c4] at H; have c4b0 := eq_true c4; have c4b1 : decide (0 ≤ (ji3)) = true := decide_eq_true c4; clear c4
 by_cases c5 : t416.length + (ji3 : Int).toNat < 140737488355328
 rotate_left
 · rw [if_neg c5] at H; exact absurd H (by simp)
 rw [if_pos c5] at H; have LMc5 := A_ c5; clear c5; obtain ⟨y419, hy419⟩ : ∃ y_ : List Int, y_ = (t416 ++ List.replicate (ji3 : Int).toNat 0) := ⟨_, rfl⟩; replace H : (some y419) = some r := by first | (rw [hy419]; with_reducible exact H) | (have H2_ := os_ H; rw [hy419]; with_reducible exact H2_) | (have H2_ := os_ H; with_reducible exact H2_) | with_reducible exact H | (rw [hy419]; exact H) | exact H
 have Ny419 := A_ hy419; clear hy419; obtain rfl := Option.some.inj H
 go_enter Try.func109, Try.ntmps109
 go_wp2_with (first | ((with_reducible refine gate_callee (f := 105) rfl ?_); refine goesL_ (some 4) rfl rfl Try.func105 (by kernel_rfl) rfl #[.slice A0 l0.length c0] rfl args_a ?_; (with_reducible refine (bytes_Clone.calls _ _ l0 t416 _ ?side1 ?side2 A2.out).mono ?_); (case side1 => exact ca_ HR0.out); (case side2 => exact HC0.out); rintro e w6 ⟨v417, rfl, ho0, hb⟩; refine ⟨_, rfl, ?_⟩; have HO418 := A_ (Kd.R_lower ho0 (below_size below_a)); replace HB := bs_ hb; (try clear hb ho0)) | (at_builtin; refine Kd.R_append_zeros (Kd.int .u8) (w0 := w) w.heap.size rfl (.tmp 4) (.tmp 9) 25 3 5 (.int .u8 0) 1 rfl Try.underlying25 Try.underlying3 info5 rfl (by decide) (by omega) v417 t416 0 (ji3 : Int) (fun _ => True) rfl (by first | exact congrArg (Value.int .i64) hji3 | rfl) rfl ?aF ?aO od_ ?aB ?aS ?aL ?_; (case aB => exact below_a); (case aF => exact (fun _ _ => trivial)); (case aO => exact (R_a HO418.out)); (case aS => exact (below_size below_a)); (case aL => have := LMc5.out; omega); intro v420 w7 ho hb hg hat; rw [← Ny419.out] at ho; replace HB := A_ (hb); have HO421 := A_ (ho); clear HO418; clear ho hb hg hat))
 go_ret
 exact ⟨_, by first | rfl | (simp [errW_none, errW_some] <;> rfl) | (simp only [← hji3]; first | rfl | (simp [errW_none, errW_some] <;> rfl)) | (simp [*, errW_none, errW_some] <;> rfl), R_a HO421.out, below_a⟩
end Go.Proofs.Ytiioiohdifkbgaa.MFnExactOpenLetter
