-- Laid by a program of this session (the kit's print, turned where it falls short; the texts of functions that it does not take are proved by hand).
import Derived.Test.YtiioiohdifkbgaaMFnExactOpenLetterx0
import Derived.Test.YtiioiohdifkbgaaMFnExactOpenLetterx7
namespace Go.Proofs.Ytiioiohdifkbgaa.MFnExactOpenLetter
open Go.RowKit Go.Proofs.YtiioiohdifkbgaaW.PrintWords Go.Proofs.YtiioiohdifkbgaaW.PrintLast Go.Proofs.YtiioiohdifkbgaaW.PrintMore
set_option maxHeartbeats 8000000
set_option maxRecDepth 100000
attribute [local go_sem] max2_int min2_int max_two min_two max_three min_three max_four min_four   -- for this text's walks alone
set_option linter.unusedVariables false
set_option linter.unusedSimpArgs false
attribute [local go_sem] isSome_setCell
mutual
def impl_RingFault.l0 : Nat → List (S59) → Int → Int → Int → List (S59) → Option (Int)
 | 0, _, _, _, _, _ => none
 | k + 1, x13, x14, x15, x362000, x362001 => if x15 < x14 then (if 0 ≤ x15 then (if x15 < (x13.length : Int) then ((impl_Key_fault.f ((rd_T59 x13 x15).f0) ((rd_T59 x13 x15).f1)).bind fun t365 => (if t365 = 0 then (impl_RingFault.l0 k x13 x14 (wrap64 (x15 + 1)) x362000 x362001) else (some t365))) else (none)) else (none)) else (impl_RingFault.l1 k 1 x362000 x362001)
def impl_RingFault.l1 : Nat → Int → Int → List (S59) → Option (Int)
 | 0, _, _, _ => none
 | k + 1, x6, x362000, x362001 => if x6 < (x362001.length : Int) then (if 0 ≤ (wrap64 (x6 - 1)) then (if (wrap64 (x6 - 1)) < (x362001.length : Int) then (if 0 ≤ x6 then (if ((rd_T59 x362001 (wrap64 (x6 - 1))).f0) ≥ ((rd_T59 x362001 x6).f0) then (some 1) else (impl_RingFault.l1 k (wrap64 (x6 + 1)) x362000 x362001)) else (none)) else (none)) else (none)) else ((impl_Ring_place.f x362000 x362001 x362000).bind fun t368 => (if t368 < 0 then (some 4) else (some 0)))
end
def impl_RingFault.f (k : Nat) (a0_0 : Int) (l0_1 : List (S59)) : Option (Int) := (impl_in.f (l0_1.length : Int) 1 3).bind fun t362 => (if t362 = true then (impl_RingFault.l0 k l0_1 (l0_1.length : Int) 0 a0_0 l0_1) else (some 2))
theorem impl_RingFault.calls (k : Nat) (a0_0 : Int) (A0_1 : Option Addr) (c0_1 : Nat) (l0_1 : List (S59)) (r : Int) (w : World) (hr0_1 : Kd.C k59 w A0_1 l0_1.length l0_1) (hc0_1 : l0_1.length ≤ c0_1) (h : impl_RingFault.f k a0_0 l0_1 = some r) :
  Calls Try.prog 40 #[.agg #[.int .i64 a0_0, .slice A0_1 l0_1.length c0_1]] w fun e w' => e = .returned (.int .i64 r) ∧ Below w.heap.size w w' := by
 have hu34 := Try.underlying34
 have hu59 := Try.underlying59
 have HR0_1 := A_ hr0_1
 have HC0_1 := A_ hc0_1
 clear hr0_1 hc0_1
 have HB := A_ (Below.refl w.heap.size w)
 have H : ((impl_in.f (l0_1.length : Int) 1 3).bind fun t362 => (if t362 = true then (impl_RingFault.l0 k l0_1 (l0_1.length : Int) 0 a0_0 l0_1) else (some 2))) = some r := h
 clear h
 obtain ⟨t362, A20, H⟩ := bi_ H
 replace H : (if t362 = true then (impl_RingFault.l0 k l0_1 (l0_1.length : Int) 0 a0_0 l0_1) else (some 2)) = some r := H
 have A2 := A_ A20
 clear A20
 by_cases c3 : t362 = true
 ·
  subst c3; have H1 : (impl_RingFault.l0 k l0_1 (l0_1.length : Int) 0 a0_0 l0_1) = some r := by rw [if_pos rfl] at H; exact H
  clear H; have H := H1; clear H1; have H' := A_ H; clear H
  go_enter Try.func40, Try.ntmps40
  go_wp2_with (first | ((with_reducible refine gate_dst (N := 1) rfl ?_); refine bx_ 1 (#[.int .i64 a0_0, .slice A0_1 l0_1.length c0_1]) 34 rfl rfl ?hr ?_; (case hr => go_simp <;> rfl); intro gb361 hg w4 hbox hb; have n0_ := bs_ hb; have BK361 := A_ (hbox); have GW361 := gw_ (w := w) hg; replace HB := n0_; clear n0_; clear hb hbox hg; obtain ⟨hcz5_0, hcz5_1, hfz5_0, hfz5_1⟩ := bc2_ BK361.out) | (go_at_call 68; (with_reducible refine (impl_in.calls (l0_1.length : Int) 1 3 true _ A2.out).mono ?_); rintro e w' ⟨rfl, ⟨nd, rfl⟩⟩; (try first | exact ⟨rfl, _, World.drewN_drewN _ _ _⟩ | exact ⟨rfl, _, Eq.trans (World.drewN_drewN _ _ _) (congrArg (World.drewN _) (Nat.add_assoc _ _ _))⟩)))
  repeat (go_quiet (first | ((with_reducible refine gate_dst (N := 1) rfl ?_); refine bx_ 1 (#[.int .i64 a0_0, .slice A0_1 l0_1.length c0_1]) 34 rfl rfl ?hr ?_; (case hr => go_simp <;> rfl); intro gb361 hg w4 hbox hb; have n0_ := bs_ hb; have BK361 := A_ (hbox); have GW361 := gw_ (w := w) hg; replace HB := n0_; clear n0_; clear hb hbox hg; obtain ⟨hcz5_0, hcz5_1, hfz5_0, hfz5_1⟩ := bc2_ BK361.out) | (go_at_call 68; (with_reducible refine (impl_in.calls (l0_1.length : Int) 1 3 true _ A2.out).mono ?_); rintro e w' ⟨rfl, ⟨nd, rfl⟩⟩; (try first | exact ⟨rfl, _, World.drewN_drewN _ _ _⟩ | exact ⟨rfl, _, Eq.trans (World.drewN_drewN _ _ _) (congrArg (World.drewN _) (Nat.add_assoc _ _ _))⟩))); try go_wp2_with (first | ((with_reducible refine gate_dst (N := 1) rfl ?_); refine bx_ 1 (#[.int .i64 a0_0, .slice A0_1 l0_1.length c0_1]) 34 rfl rfl ?hr ?_; (case hr => go_simp <;> rfl); intro gb361 hg w4 hbox hb; have n0_ := bs_ hb; have BK361 := A_ (hbox); have GW361 := gw_ (w := w) hg; replace HB := n0_; clear n0_; clear hb hbox hg; obtain ⟨hcz5_0, hcz5_1, hfz5_0, hfz5_1⟩ := bc2_ BK361.out) | (go_at_call 68; (with_reducible refine (impl_in.calls (l0_1.length : Int) 1 3 true _ A2.out).mono ?_); rintro e w' ⟨rfl, ⟨nd, rfl⟩⟩; (try first | exact ⟨rfl, _, World.drewN_drewN _ _ _⟩ | exact ⟨rfl, _, Eq.trans (World.drewN_drewN _ _ _) (congrArg (World.drewN _) (Nat.add_assoc _ _ _))⟩))))
  go_loopg [15] k (fun kq v15 w' => ∃ (x15_1 : Int), v15 = .int .i64 x15_1 ∧ Aside0 (impl_RingFault.l0 kq l0_1 (l0_1.length : Int) x15_1 a0_0 l0_1 = some r) ∧ Aside0 (kq ≤ k) ∧ Aside0 (w'.heap[gb361]? = some (.cells #[.int .i64 a0_0, (.slice A0_1 l0_1.length c0_1)] 34 (0, 0))) ∧ Aside0 (Below w.heap.size w w'))
  case atStart => exact ⟨(0), eq_b, H', ⟨Nat.le_refl _⟩, ⟨blk_a⟩, ⟨below_a⟩⟩
  case round =>
   clear H'
   try clear p2
   try clear c3
   try clear c4
   try clear hcz5_0 hcz5_1
   try clear hfz5_0 hfz5_1
   obtain ⟨x15_1, rfl, HA, HK1, BK361, HB⟩ := hrel
   cases gk with
   | zero => exact absurd HA.out (by simp [impl_RingFault.l0])
   | succ k1 =>
    have H := HA.out; clear HA; simp only [impl_RingFault.l0] at H
    by_cases c6 : x15_1 < (l0_1.length : Int)
    ·
     rw [if_pos c6] at H; have c6b0 : decide (x15_1 < (l0_1.length : Int)) = true := decide_eq_true c6; clear c6
     by_cases c7 : 0 ≤ x15_1
     rotate_left
     · rw [if_neg c7] at H; exact absurd H (by simp)
     rw [if_pos c7] at H; have c7b0 : decide (0 ≤ x15_1) = true := decide_eq_true c7; clear c7
     by_cases c8 : x15_1 < (l0_1.length : Int)
     rotate_left
     · rw [if_neg c8] at H; exact absurd H (by simp)
     rw [if_pos c8] at H; have c8b0 : decide (x15_1 < (l0_1.length : Int)) = true := decide_eq_true c8; clear c8; obtain ⟨t365, A90, H⟩ := bi_ H; replace H : (if t365 = 0 then (impl_RingFault.l0 k1 l0_1 (l0_1.length : Int) (wrap64 (x15_1 + 1)) a0_0 l0_1) else (some t365)) = some r := H; have A9 := A_ A90; clear A90
     by_cases c10 : t365 = 0
     ·
      rw [if_pos c10] at H; have c10b0 : (t365 == 0) = true := beq_iff_eq.mpr c10; have c10b1 : (t365 != 0) = false := bne_eq_false_iff_eq.mpr c10; clear c10; have H' := A_ H; clear H; have p363 : 0 ≤ (x15_1 : Int) := od_; have q363 : x15_1 < (l0_1.length : Int) := od_; obtain ⟨ad363, A363_1, c363_1, e363, hx363_0, hx363_1, hl363_1, hi363_1⟩ := at_T59 HR0_1.out x15_1 p363 q363
      cases e363
      replace hx363_0 := hc_ HB hx363_0; replace hx363_1 := hc_ HB hx363_1; have HR363_1 := A_ hi363_1; have HC363_1 := A_ hl363_1; clear hi363_1 hl363_1; replace p363 := eq_true p363; replace q363 := eq_true q363
      go_wp2_with (first | ((with_reducible refine gate_dst (N := 4) rfl ?_); refine bx_ 4 (#[.int .i64 0, .slice none 0 0]) 59 rfl rfl ?hr ?_; (case hr => go_simp <;> rfl); intro gb364 hg w11 hbox hb; have n0_ := bw_ gb361 hb; have n1_ := bs_ hb; have BK364 := A_ (hbox); have GW364 := gw_ (w := w) hg; have NB361_364 := bn_ gb361 hg; have NB364_361 := bm2_ gb361 hg; replace BK361 := n0_; replace HB := n1_; clear n0_ n1_; clear hb hbox hg; have hnb12 := NB364_361.out; have hnc12 := NB361_364.out; obtain ⟨hcz13_0, hcz13_1, hfz13_0, hfz13_1⟩ := bc2_ BK364.out) | (go_at_call 81; (with_reducible refine (impl_Key_fault.calls ((rd_T59 l0_1 x15_1).f0) _ _ ((rd_T59 l0_1 x15_1).f1) t365 _ ?side1 ?side2 A9.out).mono ?_); (case side1 => exact Kd.C_below HR363_1.out below_a); (case side2 => exact HC363_1.out); rintro e w14 ⟨rfl, hb⟩; replace BK361 := bw_ gb361 hb; replace BK364 := A_ (blk_below (g := gb364) (o := .cells #[.int .i64 ((rd_T59 l0_1 x15_1).f0), .slice A363_1 ((rd_T59 l0_1 x15_1).f1).length c363_1] 59 (0, 0)) blk_a hb); replace HB := bs_ hb; (try clear hb)))
      repeat (go_quiet (first | ((with_reducible refine gate_dst (N := 4) rfl ?_); refine bx_ 4 (#[.int .i64 0, .slice none 0 0]) 59 rfl rfl ?hr ?_; (case hr => go_simp <;> rfl); intro gb364 hg w11 hbox hb; have n0_ := bw_ gb361 hb; have n1_ := bs_ hb; have BK364 := A_ (hbox); have GW364 := gw_ (w := w) hg; have NB361_364 := bn_ gb361 hg; have NB364_361 := bm2_ gb361 hg; replace BK361 := n0_; replace HB := n1_; clear n0_ n1_; clear hb hbox hg; have hnb12 := NB364_361.out; have hnc12 := NB361_364.out; obtain ⟨hcz13_0, hcz13_1, hfz13_0, hfz13_1⟩ := bc2_ BK364.out) | (go_at_call 81; (with_reducible refine (impl_Key_fault.calls ((rd_T59 l0_1 x15_1).f0) _ _ ((rd_T59 l0_1 x15_1).f1) t365 _ ?side1 ?side2 A9.out).mono ?_); (case side1 => exact Kd.C_below HR363_1.out below_a); (case side2 => exact HC363_1.out); rintro e w14 ⟨rfl, hb⟩; replace BK361 := bw_ gb361 hb; replace BK364 := A_ (blk_below (g := gb364) (o := .cells #[.int .i64 ((rd_T59 l0_1 x15_1).f0), .slice A363_1 ((rd_T59 l0_1 x15_1).f1).length c363_1] 59 (0, 0)) blk_a hb); replace HB := bs_ hb; (try clear hb))); try go_wp2_with (first | ((with_reducible refine gate_dst (N := 4) rfl ?_); refine bx_ 4 (#[.int .i64 0, .slice none 0 0]) 59 rfl rfl ?hr ?_; (case hr => go_simp <;> rfl); intro gb364 hg w11 hbox hb; have n0_ := bw_ gb361 hb; have n1_ := bs_ hb; have BK364 := A_ (hbox); have GW364 := gw_ (w := w) hg; have NB361_364 := bn_ gb361 hg; have NB364_361 := bm2_ gb361 hg; replace BK361 := n0_; replace HB := n1_; clear n0_ n1_; clear hb hbox hg; have hnb12 := NB364_361.out; have hnc12 := NB361_364.out; obtain ⟨hcz13_0, hcz13_1, hfz13_0, hfz13_1⟩ := bc2_ BK364.out) | (go_at_call 81; (with_reducible refine (impl_Key_fault.calls ((rd_T59 l0_1 x15_1).f0) _ _ ((rd_T59 l0_1 x15_1).f1) t365 _ ?side1 ?side2 A9.out).mono ?_); (case side1 => exact Kd.C_below HR363_1.out below_a); (case side2 => exact HC363_1.out); rintro e w14 ⟨rfl, hb⟩; replace BK361 := bw_ gb361 hb; replace BK364 := A_ (blk_below (g := gb364) (o := .cells #[.int .i64 ((rd_T59 l0_1 x15_1).f0), .slice A363_1 ((rd_T59 l0_1 x15_1).f1).length c363_1] 59 (0, 0)) blk_a hb); replace HB := bs_ hb; (try clear hb))))
      go_roundg k1
      case measure => have := HK1.out; omega
      case rel => exact ⟨(wrap64 (x15_1 + 1)), eq_b, H', ⟨by have := HK1.out; omega⟩, ⟨blk_a⟩, ⟨below_a⟩⟩
     ·
      rw [if_neg c10] at H; have c10b0 : (t365 == 0) = false := beq_eq_false_iff_ne.mpr c10; have c10b1 : (t365 != 0) = true := bne_iff_ne.mpr c10; obtain rfl := Option.some.inj H; have p363 : 0 ≤ (x15_1 : Int) := od_; have q363 : x15_1 < (l0_1.length : Int) := od_; obtain ⟨ad363, A363_1, c363_1, e363, hx363_0, hx363_1, hl363_1, hi363_1⟩ := at_T59 HR0_1.out x15_1 p363 q363
      cases e363
      replace hx363_0 := hc_ HB hx363_0; replace hx363_1 := hc_ HB hx363_1; have HR363_1 := A_ hi363_1; have HC363_1 := A_ hl363_1; clear hi363_1 hl363_1; replace p363 := eq_true p363; replace q363 := eq_true q363
      go_wp2_with (first | ((with_reducible refine gate_dst (N := 4) rfl ?_); refine bx_ 4 (#[.int .i64 0, .slice none 0 0]) 59 rfl rfl ?hr ?_; (case hr => go_simp <;> rfl); intro gb364 hg w15 hbox hb; have n0_ := bw_ gb361 hb; have n1_ := bs_ hb; have BK364 := A_ (hbox); have GW364 := gw_ (w := w) hg; have NB361_364 := bn_ gb361 hg; have NB364_361 := bm2_ gb361 hg; replace BK361 := n0_; replace HB := n1_; clear n0_ n1_; clear hb hbox hg; have hnb16 := NB364_361.out; have hnc16 := NB361_364.out; obtain ⟨hcz17_0, hcz17_1, hfz17_0, hfz17_1⟩ := bc2_ BK364.out) | (go_at_call 81; (with_reducible refine (impl_Key_fault.calls ((rd_T59 l0_1 x15_1).f0) _ _ ((rd_T59 l0_1 x15_1).f1) t365 _ ?side1 ?side2 A9.out).mono ?_); (case side1 => exact Kd.C_below HR363_1.out below_a); (case side2 => exact HC363_1.out); rintro e w18 ⟨rfl, hb⟩; replace BK361 := bw_ gb361 hb; replace BK364 := A_ (blk_below (g := gb364) (o := .cells #[.int .i64 ((rd_T59 l0_1 x15_1).f0), .slice A363_1 ((rd_T59 l0_1 x15_1).f1).length c363_1] 59 (0, 0)) blk_a hb); replace HB := bs_ hb; (try clear hb)))
      repeat (go_quiet (first | ((with_reducible refine gate_dst (N := 4) rfl ?_); refine bx_ 4 (#[.int .i64 0, .slice none 0 0]) 59 rfl rfl ?hr ?_; (case hr => go_simp <;> rfl); intro gb364 hg w15 hbox hb; have n0_ := bw_ gb361 hb; have n1_ := bs_ hb; have BK364 := A_ (hbox); have GW364 := gw_ (w := w) hg; have NB361_364 := bn_ gb361 hg; have NB364_361 := bm2_ gb361 hg; replace BK361 := n0_; replace HB := n1_; clear n0_ n1_; clear hb hbox hg; have hnb16 := NB364_361.out; have hnc16 := NB361_364.out; obtain ⟨hcz17_0, hcz17_1, hfz17_0, hfz17_1⟩ := bc2_ BK364.out) | (go_at_call 81; (with_reducible refine (impl_Key_fault.calls ((rd_T59 l0_1 x15_1).f0) _ _ ((rd_T59 l0_1 x15_1).f1) t365 _ ?side1 ?side2 A9.out).mono ?_); (case side1 => exact Kd.C_below HR363_1.out below_a); (case side2 => exact HC363_1.out); rintro e w18 ⟨rfl, hb⟩; replace BK361 := bw_ gb361 hb; replace BK364 := A_ (blk_below (g := gb364) (o := .cells #[.int .i64 ((rd_T59 l0_1 x15_1).f0), .slice A363_1 ((rd_T59 l0_1 x15_1).f1).length c363_1] 59 (0, 0)) blk_a hb); replace HB := bs_ hb; (try clear hb))); try go_wp2_with (first | ((with_reducible refine gate_dst (N := 4) rfl ?_); refine bx_ 4 (#[.int .i64 0, .slice none 0 0]) 59 rfl rfl ?hr ?_; (case hr => go_simp <;> rfl); intro gb364 hg w15 hbox hb; have n0_ := bw_ gb361 hb; have n1_ := bs_ hb; have BK364 := A_ (hbox); have GW364 := gw_ (w := w) hg; have NB361_364 := bn_ gb361 hg; have NB364_361 := bm2_ gb361 hg; replace BK361 := n0_; replace HB := n1_; clear n0_ n1_; clear hb hbox hg; have hnb16 := NB364_361.out; have hnc16 := NB361_364.out; obtain ⟨hcz17_0, hcz17_1, hfz17_0, hfz17_1⟩ := bc2_ BK364.out) | (go_at_call 81; (with_reducible refine (impl_Key_fault.calls ((rd_T59 l0_1 x15_1).f0) _ _ ((rd_T59 l0_1 x15_1).f1) t365 _ ?side1 ?side2 A9.out).mono ?_); (case side1 => exact Kd.C_below HR363_1.out below_a); (case side2 => exact HC363_1.out); rintro e w18 ⟨rfl, hb⟩; replace BK361 := bw_ gb361 hb; replace BK364 := A_ (blk_below (g := gb364) (o := .cells #[.int .i64 ((rd_T59 l0_1 x15_1).f0), .slice A363_1 ((rd_T59 l0_1 x15_1).f1).length c363_1] 59 (0, 0)) blk_a hb); replace HB := bs_ hb; (try clear hb))))
      go_ret
      exact ⟨eq_a, below_a⟩
    ·
     rw [if_neg c6] at H; have c6b0 : decide (x15_1 < (l0_1.length : Int)) = false := decide_eq_false c6; clear c6; have H' := A_ H; clear H
     go_wp2
     repeat (go_quiet (fail); try go_wp2)
     go_loopg [6] k1 (fun kq v6 w' => ∃ (x6_2 : Int), v6 = .int .i64 x6_2 ∧ Aside0 (impl_RingFault.l1 kq x6_2 a0_0 l0_1 = some r) ∧ Aside0 (kq ≤ k1) ∧ Aside0 (w'.heap[gb361]? = some (.cells #[.int .i64 a0_0, (.slice A0_1 l0_1.length c0_1)] 34 (0, 0))) ∧ Aside0 (Below w.heap.size w w'))
     case atStart => exact ⟨(1), eq_b, H', ⟨Nat.le_refl _⟩, ⟨blk_a⟩, ⟨below_a⟩⟩
     case round =>
      clear H'
      try clear c1
      try clear p2 p2
      try clear c3
      try clear p3
      try clear q3
      try clear hx3
      try clear c4
      try clear c6 c6b0
      try clear p6
      try clear c7 c7b0
      try clear c8 c8b0
      try clear c10 c10b0 c10b1
      try clear c12
      try clear c16
      try clear hcz13_0 hcz13_1
      try clear hcz17_0 hcz17_1
      try clear hcz5_0 hcz5_1
      try clear hfz13_0 hfz13_1
      try clear hfz17_0 hfz17_1
      try clear hfz5_0 hfz5_1
      try clear hx363_0 hx363_1
      try clear p363
      try clear q363
      obtain ⟨x6_2, rfl, HA, HK2, BK361, HB⟩ := hrel
      cases gk with
      | zero => exact absurd HA.out (by simp [impl_RingFault.l1])
      | succ k2 =>
       have H := HA.out; clear HA; simp only [impl_RingFault.l1] at H
       by_cases c19 : x6_2 < (l0_1.length : Int)
       ·
        rw [if_pos c19] at H; have c19b0 : decide (x6_2 < (l0_1.length : Int)) = true := decide_eq_true c19; clear c19; obtain ⟨ji20, hji20⟩ : ∃ j_ : Int, (wrap64 (x6_2 - 1)) = j_ := ⟨_, rfl⟩; replace H : (if 0 ≤ (ji20) then (if (ji20) < (l0_1.length : Int) then (if 0 ≤ x6_2 then (if ((rd_T59 l0_1 (ji20)).f0) ≥ ((rd_T59 l0_1 x6_2).f0) then (some 1) else (impl_RingFault.l1 k2 (wrap64 (x6_2 + 1)) a0_0 l0_1)) else (none)) else (none)) else (none)) = some r := by first | (rw [hji20] at H; exact H) | (simp only [hji20] at H ⊢; exact H)
        have hji20w : (IntKind.i64.wrap (x6_2 - 1)) = ji20 := (i64_w _).trans hji20
        by_cases c21 : 0 ≤ (ji20)
        rotate_left
        · rw [if_neg c21] at H; exact absurd H (by simp)
        rw [if_pos c21] at H; have c21b0 : decide (0 ≤ (ji20)) = true := decide_eq_true c21; clear c21
        by_cases c22 : (ji20) < (l0_1.length : Int)
        rotate_left
        · rw [if_neg c22] at H; exact absurd H (by simp)
        rw [if_pos c22] at H; have c22b0 : decide ((ji20) < (l0_1.length : Int)) = true := decide_eq_true c22; clear c22
        by_cases c23 : 0 ≤ x6_2
        rotate_left
        · rw [if_neg c23] at H; exact absurd H (by simp)
        rw [if_pos c23] at H; have c23b0 : decide (0 ≤ x6_2) = true := decide_eq_true c23; clear c23
        by_cases c24 : ((rd_T59 l0_1 (ji20)).f0) ≥ ((rd_T59 l0_1 x6_2).f0)
        ·
         rw [if_pos c24] at H; have c24b0 : decide (((rd_T59 l0_1 x6_2).f0) ≤ ((rd_T59 l0_1 (ji20)).f0)) = true := decide_eq_true c24; clear c24; obtain rfl := Option.some.inj H; obtain ⟨hcz25_0, hcz25_1, hfz25_0, hfz25_1⟩ := bc2_ BK361.out; have p366 : 0 ≤ ((ji20) : Int) := od_; have q366 : (ji20) < (l0_1.length : Int) := od_; obtain ⟨ad366, A366_1, c366_1, e366, hx366_0, hx366_1, hl366_1, hi366_1⟩ := at_T59 HR0_1.out (ji20) p366 q366
         cases e366
         replace hx366_0 := hc_ HB hx366_0; replace hx366_1 := hc_ HB hx366_1; have HR366_1 := A_ hi366_1; have HC366_1 := A_ hl366_1; clear hi366_1 hl366_1; replace p366 := eq_true p366; replace q366 := eq_true q366; have p367 : 0 ≤ (x6_2 : Int) := od_; have q367 : x6_2 < (l0_1.length : Int) := od_; obtain ⟨ad367, A367_1, c367_1, e367, hx367_0, hx367_1, hl367_1, hi367_1⟩ := at_T59 HR0_1.out x6_2 p367 q367; obtain rfl : ad366 = ad367 := (by injection e367); replace hx367_0 := hc_ HB hx367_0; replace hx367_1 := hc_ HB hx367_1; have HR367_1 := A_ hi367_1; have HC367_1 := A_ hl367_1; clear hi367_1 hl367_1; replace p367 := eq_true p367; replace q367 := eq_true q367
         go_wp2
         repeat (go_quiet (fail); try go_wp2)
         go_ret
         exact ⟨by first | rfl | (simp [errW_none, errW_some] <;> rfl) | (simp only [← hji20]; first | rfl | (simp [errW_none, errW_some] <;> rfl)) | (simp [*, errW_none, errW_some] <;> rfl), below_a⟩
        ·
         rw [if_neg c24] at H; have c24b0 : decide (((rd_T59 l0_1 x6_2).f0) ≤ ((rd_T59 l0_1 (ji20)).f0)) = false := decide_eq_false c24; clear c24; have H' := A_ H; clear H; obtain ⟨hcz26_0, hcz26_1, hfz26_0, hfz26_1⟩ := bc2_ BK361.out; have p366 : 0 ≤ ((ji20) : Int) := od_; have q366 : (ji20) < (l0_1.length : Int) := od_; obtain ⟨ad366, A366_1, c366_1, e366, hx366_0, hx366_1, hl366_1, hi366_1⟩ := at_T59 HR0_1.out (ji20) p366 q366
         cases e366
         replace hx366_0 := hc_ HB hx366_0; replace hx366_1 := hc_ HB hx366_1; have HR366_1 := A_ hi366_1; have HC366_1 := A_ hl366_1; clear hi366_1 hl366_1; replace p366 := eq_true p366; replace q366 := eq_true q366; have p367 : 0 ≤ (x6_2 : Int) := od_; have q367 : x6_2 < (l0_1.length : Int) := od_; obtain ⟨ad367, A367_1, c367_1, e367, hx367_0, hx367_1, hl367_1, hi367_1⟩ := at_T59 HR0_1.out x6_2 p367 q367; obtain rfl : ad366 = ad367 := (by injection e367); replace hx367_0 := hc_ HB hx367_0; replace hx367_1 := hc_ HB hx367_1; have HR367_1 := A_ hi367_1; have HC367_1 := A_ hl367_1; clear hi367_1 hl367_1; replace p367 := eq_true p367; replace q367 := eq_true q367
         go_wp2
         repeat (go_quiet (fail); try go_wp2)
         go_roundg k2
         case measure => have := HK1.out; have := HK2.out; omega
         case rel => exact ⟨(wrap64 (x6_2 + 1)), eq_b, H', ⟨by have := HK1.out; have := HK2.out; omega⟩, ⟨blk_a⟩, ⟨below_a⟩⟩
       ·
        rw [if_neg c19] at H; have c19b0 : decide (x6_2 < (l0_1.length : Int)) = false := decide_eq_false c19; clear c19; obtain ⟨t368, A270, H⟩ := bi_ H; replace H : (if t368 < 0 then (some 4) else (some 0)) = some r := H; have A27 := A_ A270; clear A270
        by_cases c28 : t368 < 0
        ·
         rw [if_pos c28] at H; have c28b0 : decide (t368 < 0) = true := decide_eq_true c28; clear c28; obtain rfl := Option.some.inj H; obtain ⟨hcz29_0, hcz29_1, hfz29_0, hfz29_1⟩ := bc2_ BK361.out
         go_wp2_with (first | (go_at_call 82; (with_reducible refine (impl_Ring_place.calls a0_0 _ _ l0_1 a0_0 t368 _ ?side1 ?side2 A27.out).mono ?_); (case side1 => exact ca_ (Kd.C_below HR0_1.out HB.out)); (case side2 => exact HC0_1.out); rintro e w30 ⟨rfl, hb⟩; replace BK361 := bw_ gb361 hb; replace HB := bs_ hb; (try clear hb)))
         repeat (go_quiet (first | (go_at_call 82; (with_reducible refine (impl_Ring_place.calls a0_0 _ _ l0_1 a0_0 t368 _ ?side1 ?side2 A27.out).mono ?_); (case side1 => exact ca_ (Kd.C_below HR0_1.out HB.out)); (case side2 => exact HC0_1.out); rintro e w30 ⟨rfl, hb⟩; replace BK361 := bw_ gb361 hb; replace HB := bs_ hb; (try clear hb))); try go_wp2_with (first | (go_at_call 82; (with_reducible refine (impl_Ring_place.calls a0_0 _ _ l0_1 a0_0 t368 _ ?side1 ?side2 A27.out).mono ?_); (case side1 => exact ca_ (Kd.C_below HR0_1.out HB.out)); (case side2 => exact HC0_1.out); rintro e w30 ⟨rfl, hb⟩; replace BK361 := bw_ gb361 hb; replace HB := bs_ hb; (try clear hb))))
         go_ret
         exact ⟨eq_a, below_a⟩
        ·
         rw [if_neg c28] at H; have c28b0 : decide (t368 < 0) = false := decide_eq_false c28; clear c28; obtain rfl := Option.some.inj H; obtain ⟨hcz31_0, hcz31_1, hfz31_0, hfz31_1⟩ := bc2_ BK361.out
         go_wp2_with (first | (go_at_call 82; (with_reducible refine (impl_Ring_place.calls a0_0 _ _ l0_1 a0_0 t368 _ ?side1 ?side2 A27.out).mono ?_); (case side1 => exact ca_ (Kd.C_below HR0_1.out HB.out)); (case side2 => exact HC0_1.out); rintro e w32 ⟨rfl, hb⟩; replace BK361 := bw_ gb361 hb; replace HB := bs_ hb; (try clear hb)))
         repeat (go_quiet (first | (go_at_call 82; (with_reducible refine (impl_Ring_place.calls a0_0 _ _ l0_1 a0_0 t368 _ ?side1 ?side2 A27.out).mono ?_); (case side1 => exact ca_ (Kd.C_below HR0_1.out HB.out)); (case side2 => exact HC0_1.out); rintro e w32 ⟨rfl, hb⟩; replace BK361 := bw_ gb361 hb; replace HB := bs_ hb; (try clear hb))); try go_wp2_with (first | (go_at_call 82; (with_reducible refine (impl_Ring_place.calls a0_0 _ _ l0_1 a0_0 t368 _ ?side1 ?side2 A27.out).mono ?_); (case side1 => exact ca_ (Kd.C_below HR0_1.out HB.out)); (case side2 => exact HC0_1.out); rintro e w32 ⟨rfl, hb⟩; replace BK361 := bw_ gb361 hb; replace HB := bs_ hb; (try clear hb))))
         go_ret
         exact ⟨eq_a, below_a⟩
 ·
  replace c3 := Bool.eq_false_iff.mpr c3; subst c3; have H1 : (some 2) = some r := by rw [if_neg (show ¬ (false = true) by decide)] at H; exact H
  clear H; have H := H1; clear H1; obtain rfl := Option.some.inj H
  go_enter Try.func40, Try.ntmps40
  go_wp2_with (first | ((with_reducible refine gate_dst (N := 1) rfl ?_); refine bx_ 1 (#[.int .i64 a0_0, .slice A0_1 l0_1.length c0_1]) 34 rfl rfl ?hr ?_; (case hr => go_simp <;> rfl); intro gb361 hg w33 hbox hb; have n0_ := bs_ hb; have BK361 := A_ (hbox); have GW361 := gw_ (w := w) hg; replace HB := n0_; clear n0_; clear hb hbox hg; obtain ⟨hcz34_0, hcz34_1, hfz34_0, hfz34_1⟩ := bc2_ BK361.out) | (go_at_call 68; (with_reducible refine (impl_in.calls (l0_1.length : Int) 1 3 false _ A2.out).mono ?_); rintro e w' ⟨rfl, ⟨nd, rfl⟩⟩; (try first | exact ⟨rfl, _, World.drewN_drewN _ _ _⟩ | exact ⟨rfl, _, Eq.trans (World.drewN_drewN _ _ _) (congrArg (World.drewN _) (Nat.add_assoc _ _ _))⟩)))
  repeat (go_quiet (first | ((with_reducible refine gate_dst (N := 1) rfl ?_); refine bx_ 1 (#[.int .i64 a0_0, .slice A0_1 l0_1.length c0_1]) 34 rfl rfl ?hr ?_; (case hr => go_simp <;> rfl); intro gb361 hg w33 hbox hb; have n0_ := bs_ hb; have BK361 := A_ (hbox); have GW361 := gw_ (w := w) hg; replace HB := n0_; clear n0_; clear hb hbox hg; obtain ⟨hcz34_0, hcz34_1, hfz34_0, hfz34_1⟩ := bc2_ BK361.out) | (go_at_call 68; (with_reducible refine (impl_in.calls (l0_1.length : Int) 1 3 false _ A2.out).mono ?_); rintro e w' ⟨rfl, ⟨nd, rfl⟩⟩; (try first | exact ⟨rfl, _, World.drewN_drewN _ _ _⟩ | exact ⟨rfl, _, Eq.trans (World.drewN_drewN _ _ _) (congrArg (World.drewN _) (Nat.add_assoc _ _ _))⟩))); try go_wp2_with (first | ((with_reducible refine gate_dst (N := 1) rfl ?_); refine bx_ 1 (#[.int .i64 a0_0, .slice A0_1 l0_1.length c0_1]) 34 rfl rfl ?hr ?_; (case hr => go_simp <;> rfl); intro gb361 hg w33 hbox hb; have n0_ := bs_ hb; have BK361 := A_ (hbox); have GW361 := gw_ (w := w) hg; replace HB := n0_; clear n0_; clear hb hbox hg; obtain ⟨hcz34_0, hcz34_1, hfz34_0, hfz34_1⟩ := bc2_ BK361.out) | (go_at_call 68; (with_reducible refine (impl_in.calls (l0_1.length : Int) 1 3 false _ A2.out).mono ?_); rintro e w' ⟨rfl, ⟨nd, rfl⟩⟩; (try first | exact ⟨rfl, _, World.drewN_drewN _ _ _⟩ | exact ⟨rfl, _, Eq.trans (World.drewN_drewN _ _ _) (congrArg (World.drewN _) (Nat.add_assoc _ _ _))⟩))))
  go_ret
  exact ⟨eq_a, below_a⟩
def bytes_Clone.f (l0 : List Int) : Option (List Int) := if l0.length < 140737488355328 then some l0 else none
theorem bytes_Clone.calls (A0 : Option Addr) (c0 : Nat) (l0 : List Int) (r : List Int) (w : World) (hr0 : Kd.C (Kd.int .u8) w A0 l0.length l0) (hc0 : l0.length ≤ c0) (h : bytes_Clone.f l0 = some r) :
    Calls Try.prog 105 #[.slice A0 l0.length c0] w fun e w' => ∃ v0_ : Value, e = .returned (v0_) ∧ Kd.R (Kd.int .u8) 5 w' w.heap.size (fun _ => True) v0_ r ∧ Below w.heap.size w w' := by
  have qnil : ∀ (w : World) (a : Option Addr) (n c n' c' : Nat), (binOp .eql 25 (.slice a n c) (.slice none n' c')).run Try.prog w = .ok (.bool a.isNone) w := fun w a n c n' c' => Lib.run_eql_slice_nil w _ _ a n c n' c' Try.underlying25
  unfold bytes_Clone.f at h
  by_cases c1 : l0.length < 140737488355328
  rotate_left
  · rw [if_neg c1] at h; exact absurd h (by simp)
  rw [if_pos c1] at h
  obtain rfl := Option.some.inj h
  clear h
  cases A0 with
  | none =>
    have hl : l0 = [] := by
      cases l0 with
      | nil => rfl
      | cons x t =>
        obtain ⟨ad, h1, _⟩ := hr0.2.2 (by simp)
        cases h1
    subst hl
    have HC := A_ hc0
    clear c1 hr0 hc0
    by_cases hz : c0 = 0
    · subst hz
      go_enter Try.func105, Try.ntmps105
      go_wp2
      go_ret
      exact ⟨_, rfl, Kd.R_nil _ _ _ _ _, Below.refl _ _⟩
    · go_enter Try.func105, Try.ntmps105
      go_wp2
      go_ret
      exact ⟨_, rfl, Kd.R_nil _ _ _ _ _, Below.refl _ _⟩
  | some ad =>
    have HR0 := A_ hr0
    have HL := A_ c1
    clear hr0 hc0 c1
    go_enter Try.func105, Try.ntmps105
    go_wp2_with (first
      | ((with_reducible refine gate_dst (N := 5) rfl ?_); refine Kd.R_lit (Kd.int .u8) _ 5 ?hg (N := 5) ?hd (xs := ([] : List Int)) (inner := []) (ok := fun _ => True) (okp := fun _ => True) ?hr ?hp (fun _ hk => hk) trivial (Below.refl _ _) (Nat.le_refl _) (by simp) ?_; (case hd => rfl); (case hg => rfl); (case hr => go_simp <;> rfl); (case hp => exact (Reps.none _ _)); intro v5 w5 ho hb hg_ hnew_; clear hg_ hnew_; have HO := A_ ho; have HB := A_ hb; clear ho hb)
      | ((with_reducible refine gate_builtin (b := .append) (xs := #[.tmp 5, .tmp 6]) rfl ?_); at_builtin; refine Kd.R_append_rows (Kd.int .u8) (w0 := w) w.heap.size rfl (.tmp 5) (.tmp 6) 25 5 (.int .u8 0) 1 rfl Try.underlying25 info5 rfl (by decide) (by omega) v5 ([] : List Int) l0 _ _ _ (fun _ => True) (fun _ => False) rfl rfl ?aO ?aR (fun _ _ h => h) (fun _ h => h.elim) ?aF ?aB ?aS ?aL ?_; (case aR => exact Kd.C_below HR0.out HB.out); (case aB => exact HB.out); (case aF => exact (fun _ _ => trivial)); (case aO => exact HO.out); (case aS => exact HB.out.size); (case aL => have := HL.out; simp only [List.length_nil]; omega); intro v7 w7 ho hb hg hat; clear HO HB hg hat; have HO := A_ ho; have HB := A_ hb; clear ho hb))
    go_ret
    exact ⟨_, rfl, HO.out, HB.out⟩
def impl_ownKey.f (a0_0 : Int) (l0_1 : List Int) : Option (Int × List Int) := (bytes_Clone.f l0_1).bind fun t371 => (some (a0_0, t371))
theorem impl_ownKey.calls (a0_0 : Int) (A0_1 : Option Addr) (c0_1 : Nat) (l0_1 : List Int) (r1 : Int) (r2 : List Int) (w : World) (hr0_1 : Kd.C (Kd.int .u8) w A0_1 l0_1.length l0_1) (hc0_1 : l0_1.length ≤ c0_1) (h : impl_ownKey.f a0_0 l0_1 = some (r1, r2)) :
  Calls Try.prog 83 #[.agg #[.int .i64 a0_0, .slice A0_1 l0_1.length c0_1]] w fun e w' => ∃ v1_ : Value, e = .returned (.agg #[.int .i64 r1, v1_]) ∧ Kd.R (Kd.int .u8) 5 w' w.heap.size (fun _ => True) v1_ r2 ∧ Below w.heap.size w w' := by
 have hu59 := Try.underlying59
 have HR0_1 := A_ hr0_1
 have HC0_1 := A_ hc0_1
 clear hr0_1 hc0_1
 have HB := A_ (Below.refl w.heap.size w)
 have H : ((bytes_Clone.f l0_1).bind fun t371 => (some (a0_0, t371))) = some (r1, r2) := h
 clear h
 obtain ⟨t371, A20, H⟩ := bi_ H
 replace H : (some (a0_0, t371)) = some (r1, r2) := H
 have A2 := A_ A20
 clear A20
 simp only [Option.some.injEq, Prod.mk.injEq] at H
 obtain ⟨rfl, rfl⟩ := H
 go_enter Try.func83, Try.ntmps83
 try go_wp2_with (first | ((with_reducible refine gate_dst (N := 1) rfl ?_); refine bx_ 1 (#[.int .i64 a0_0, .slice A0_1 l0_1.length c0_1]) 59 rfl rfl ?hr ?_; (case hr => go_simp <;> rfl); intro gb369 hg w3 hbox hb; have n0_ := bs_ hb; have BK369 := A_ (hbox); have GW369 := gw_ (w := w) hg; replace HB := n0_; clear n0_; clear hb hbox hg) | ((with_reducible refine gate_dst (N := 2) rfl ?_); refine bx_ 2 (#[.int .i64 0, .slice none 0 0]) 59 rfl rfl ?hr ?_; (case hr => go_simp <;> rfl); intro gb370 hg w4 hbox hb; have n0_ := bw_ gb369 hb; have n1_ := bs_ hb; have BK370 := A_ (hbox); have GW370 := gw_ (w := w) hg; have NB369_370 := bn_ gb369 hg; have NB370_369 := bm2_ gb369 hg; replace BK369 := n0_; replace HB := n1_; clear n0_ n1_; clear hb hbox hg))
 replace BK369 := A_ (blk_drew BK369.out)
 replace BK370 := A_ (blk_drew BK370.out)
 replace HB := A_ (below_drew1 HB.out)
 refine start_ (n := 7) (S := fun w' => w'.cell? ⟨gb369, 0, none⟩ = some (.int .i64 a0_0) ∧ w'.cell? ⟨gb369, 1, none⟩ = some (.slice A0_1 l0_1.length c0_1)) (ds := []) #[Z',Z',Z',Z',Z',Z',Z'] (by kernel_rfl) rfl rfl ⟨(blk_cell BK369.out 0).trans rfl, (blk_cell BK369.out 1).trans rfl⟩ (fun hHeld => ?_)
 generalize w4.drew = w5 at BK369 BK370 HB hHeld ⊢
 refine pure_ (i := 0) (N := some 3) (v := ?_) (a' := ?_) #[Y',Z',Z',Z',Z',Z',Z'] rfl rfl (by kernel_rfl) (fun _ _ _ h => h) (Or.inl ⟨by rfl, ?_⟩) ?_ ?_
 rotate_left
 ·
  intro w'
  go_simp
  with_reducible rfl
 rotate_left
 ·
  simp only [P4_]; rfl
 refine pure_ (i := 2) (N := some 5) (v := ?_) (a' := ?_) #[Y',Z',Y',Z',Z',Z',Z'] rfl rfl (by kernel_rfl) (fun _ _ _ h => h) (Or.inl ⟨by rfl, ?_⟩) ?_ ?_
 rotate_left
 ·
  intro w'
  go_simp
  with_reducible rfl
 rotate_left
 ·
  simp only [P4_]; rfl
 refine take_ (i := 1) (N := some 4) (v := ?_) (a' := ?_) #[Y',Y',Y',Z',Z',Z',Z'] rfl rfl (by kernel_rfl) (fun _ _ _ h => h) (Or.inl ⟨by rfl, ?_⟩) hHeld ?_ ?_
 rotate_left
 ·
  rintro w' ⟨s0, s1⟩
  go_simp
  with_reducible rfl
 rotate_left
 ·
  simp only [P4_]; rfl
 refine take_ (i := 3) (N := some 6) (v := ?_) (a' := ?_) #[Y',Y',Y',Y',Z',Z',Z'] rfl rfl (by kernel_rfl) (fun _ _ _ h => h) (Or.inl ⟨by rfl, ?_⟩) hHeld ?_ ?_
 rotate_left
 ·
  rintro w' ⟨s0, s1⟩
  go_simp
  with_reducible rfl
 rotate_left
 ·
  simp only [P4_]; rfl
 refine one_ (i := 4) (N := some 7) #[Y',Y',Y',Y',Y',Z',Z'] rfl rfl (by kernel_rfl) (by decide) (fun K hK => ?_)
 refine goes_ Try.func105 (by kernel_rfl) rfl #[.slice A0_1 l0_1.length c0_1] (by rfl) rfl rfl args_a ?_
 with_reducible refine (bytes_Clone.calls _ _ l0_1 t371 _ ?side1 ?side2 A2.out).mono ?_
 (case side1 => exact ca_ (Kd.C_below HR0_1.out HB.out))
 (case side2 => exact HC0_1.out)
 rintro e w6 ⟨v372, rfl, ho0, hb⟩
 refine ⟨_, rfl, ?_⟩
 have HO373 := A_ (Kd.R_lower ho0 (below_size below_a))
 replace BK369 := bw_ gb369 hb
 replace BK370 := bw_ gb370 hb
 replace HB := bs_ hb
 (try clear hb)
 (try clear hb2)
 (try clear hk)
 (try clear hi)
 (try clear ho0)
 obtain ⟨Ao7, co7, eo7⟩ := Kd.R_slice HO373.out
 (first | subst eo7 | (injection eo7 with f1_ f2_ f3_; have f4_ := f1_.symm; have f5_ := f3_.symm; clear f1_ f2_ f3_; subst f4_; subst f5_))
 refine hK.out _ _ ⟨(blk_cell BK369.out 0).trans rfl, (blk_cell BK369.out 1).trans rfl⟩ (fun hHeld => ?_)
 clear hK K
 refine norm_ (a' := ?_) ?_ ?_
 rotate_left
 ·
  show Act.put _ (some 7) _ = _; simp only [P4_]; rfl
 refine pure_ (i := 5) (N := some 8) (v := ?_) (a' := ?_) #[Y',Y',Y',Y',Y',Y',Z'] rfl rfl (by kernel_rfl) (fun _ _ _ h => h) (Or.inl ⟨by rfl, ?_⟩) ?_ ?_
 rotate_left
 ·
  intro w'
  go_simp
  with_reducible rfl
 rotate_left
 ·
  simp only [P4_]; rfl
 refine one_ (i := 6) (N := none) #[Y',Y',Y',Y',Y',Y',Y'] rfl rfl (by kernel_rfl) (by decide) (fun K hK => ?_)
 have hs8 : w6.cell? ⟨gb370, 0, none⟩ = some (.int .i64 0) := (blk_cell BK370.out 0).trans rfl
 have hfs8 := blk_frozen BK370.out 0
 have hns8_0 := NB369_370.out
 have hms8_0 := NB370_369.out
 have hs9 : w6.cell? ⟨gb370, 1, none⟩ = some (.slice none 0 0) := (blk_cell BK370.out 1).trans rfl
 have hfs9 := blk_frozen BK370.out 1
 have hns9_0 := NB369_370.out
 have hms9_0 := NB370_369.out
 refine skip_ (w1 := ?_) (by rfl) rfl ?_ ?_
 rotate_left
 ·
  go_simp
  rfl
 refine hK.out _ _ ⟨((cell_far (p := ⟨gb370, _, none⟩) NB369_370.out _).trans (((cell_far (p := ⟨gb370, _, none⟩) NB369_370.out _).trans (hHeld.1)))), ((cell_far (p := ⟨gb370, _, none⟩) NB369_370.out _).trans (((cell_far (p := ⟨gb370, _, none⟩) NB369_370.out _).trans (hHeld.2))))⟩ (fun hHeld => ?_)
 clear hK K
 refine done_ (by kernel_rfl) ?_
 try go_wp2
 refine bodyPost_ret (results_cell_row rfl _ _ gb370 59 #[.int .i64 a0_0, .slice Ao7 t371.length co7] (0, 0) _ rfl blk_a Try.underlying59 rfl (by kernel_rfl)) rfl ?_
 exact ⟨_, eq_a, by (with_reducible repeat (first | apply Kd.R_alloc | apply Kd.R_drewN | apply Kd.R_drew)); exact Kd.R_mono (Kd.R_far (p := ⟨gb370, 1, none⟩) (Kd.R_far (p := ⟨gb370, 0, none⟩) (Kd.R_types HO373.out BK370.out (by decide)) (fun _ hk => hk.2) (.int .i64 a0_0)) (fun _ hk => hk.2) (.slice Ao7 t371.length co7)) (fun _ hk => trivial), below_a⟩
def impl_FindKey.f (k : Nat) (a0_0 : Int) (l0_1 : List (S59)) (a1 : Int) : Option (Int × Int × List Int) := (impl_RingFault.f k a0_0 l0_1).bind fun t376 => (if t376 = 0 then ((impl_Ring_place.f a0_0 l0_1 a1).bind fun t377 => (if t377 < 0 then (some (4, 0, ([] : List Int))) else (if 0 ≤ t377 then (if t377 < (l0_1.length : Int) then ((impl_ownKey.f ((rd_T59 l0_1 t377).f0) ((rd_T59 l0_1 t377).f1)).bind fun bt379 => (some (0, bt379.1, bt379.2))) else (none)) else (none)))) else (some (t376, 0, ([] : List Int))))
theorem impl_FindKey.calls (k : Nat) (a0_0 : Int) (A0_1 : Option Addr) (c0_1 : Nat) (l0_1 : List (S59)) (a1 : Int) (r1 : Int) (r2 : Int) (r3 : List Int) (w : World) (hr0_1 : Kd.C k59 w A0_1 l0_1.length l0_1) (hc0_1 : l0_1.length ≤ c0_1) (h : impl_FindKey.f k a0_0 l0_1 a1 = some (r1, r2, r3)) :
  Calls Try.prog 41 #[.agg #[.int .i64 a0_0, .slice A0_1 l0_1.length c0_1], .int .i64 a1] w fun e w' => ∃ v2_ : Value, e = .returned (.agg #[.int .i64 r1, .int .i64 r2, v2_]) ∧ Kd.R (Kd.int .u8) 5 w' w.heap.size (fun _ => True) v2_ r3 ∧ Below w.heap.size w w' := by
 have hu34 := Try.underlying34
 have hu61 := Try.underlying61
 have hu59 := Try.underlying59
 have HR0_1 := A_ hr0_1
 have HC0_1 := A_ hc0_1
 clear hr0_1 hc0_1
 have HB := A_ (Below.refl w.heap.size w)
 have H : ((impl_RingFault.f k a0_0 l0_1).bind fun t376 => (if t376 = 0 then ((impl_Ring_place.f a0_0 l0_1 a1).bind fun t377 => (if t377 < 0 then (some (4, 0, ([] : List Int))) else (if 0 ≤ t377 then (if t377 < (l0_1.length : Int) then ((impl_ownKey.f ((rd_T59 l0_1 t377).f0) ((rd_T59 l0_1 t377).f1)).bind fun bt379 => (some (0, bt379.1, bt379.2))) else (none)) else (none)))) else (some (t376, 0, ([] : List Int))))) = some (r1, r2, r3) := h
 clear h
 obtain ⟨t376, A30, H⟩ := bi_ H
 (try dsimp only at H)
 have A3 := A_ A30
 clear A30
 by_cases c4 : t376 = 0
 ·
  rw [if_pos c4] at H; have c4b0 : (t376 == 0) = true := beq_iff_eq.mpr c4; have c4b1 : (t376 != 0) = false := bne_eq_false_iff_eq.mpr c4; clear c4; obtain ⟨t377, A50, H⟩ := bi_ H; (try dsimp only at H); have A5 := A_ A50; clear A50
  by_cases c6 : t377 < 0
  ·
   rw [if_pos c6] at H; have c6b0 : decide (t377 < 0) = true := decide_eq_true c6; clear c6; simp only [Option.some.injEq, Prod.mk.injEq] at H; obtain ⟨rfl, rfl, rfl⟩ := H
   go_enter Try.func41, Try.ntmps41
   go_wp2_with (first | ((with_reducible refine gate_dst (N := 2) rfl ?_); refine bx_ 2 (#[.int .i64 a0_0, .slice A0_1 l0_1.length c0_1]) 34 rfl rfl ?hr ?_; (case hr => go_simp <;> rfl); intro gb374 hg w7 hbox hb; have n0_ := bs_ hb; have BK374 := A_ (hbox); have GW374 := gw_ (w := w) hg; replace HB := n0_; clear n0_; clear hb hbox hg) | ((with_reducible refine gate_dst (N := 4) rfl ?_); refine bx_ 4 (#[.int .i64 0, .int .i64 0, .slice none 0 0]) 61 rfl rfl ?hr ?_; (case hr => go_simp <;> rfl); intro gb375 hg w8 hbox hb; have n0_ := bw_ gb374 hb; have n1_ := bs_ hb; have BK375 := A_ (hbox); have GW375 := gw_ (w := w) hg; have NB374_375 := bn_ gb374 hg; have NB375_374 := bm2_ gb374 hg; replace BK374 := n0_; replace HB := n1_; clear n0_ n1_; clear hb hbox hg; have hnb9 := NB374_375.out; have hnc9 := NB375_374.out; obtain ⟨hcz10_0, hcz10_1, hfz10_0, hfz10_1⟩ := bc2_ BK374.out) | ((with_reducible refine gate_callee (f := 40) rfl ?_); refine goesL_ (some 8) rfl rfl Try.func40 (by kernel_rfl) rfl #[.agg #[.int .i64 a0_0, .slice A0_1 l0_1.length c0_1]] rfl args_a ?_; (with_reducible refine (impl_RingFault.calls k a0_0 _ _ l0_1 t376 _ ?side1 ?side2 A3.out).mono ?_); (case side1 => exact ca_ (Kd.C_below HR0_1.out HB.out)); (case side2 => exact HC0_1.out); rintro e w11 ⟨rfl, hb⟩; refine ⟨_, rfl, ?_⟩; replace BK374 := bw_ gb374 hb; replace BK375 := bw_ gb375 hb; replace HB := bs_ hb; (try clear hb); obtain ⟨hcz12_0, hcz12_1, hfz12_0, hfz12_1⟩ := bc2_ BK374.out) | ((with_reducible refine gate_callee (f := 82) rfl ?_); refine goesL_ (some 15) rfl rfl Try.func82 (by kernel_rfl) rfl #[.agg #[.int .i64 a0_0, .slice A0_1 l0_1.length c0_1], .int .i64 a1] rfl args_a ?_; (with_reducible refine (impl_Ring_place.calls a0_0 _ _ l0_1 a1 t377 _ ?side1 ?side2 A5.out).mono ?_); (case side1 => exact ca_ (Kd.C_below HR0_1.out HB.out)); (case side2 => exact HC0_1.out); rintro e w13 ⟨rfl, hb⟩; refine ⟨_, rfl, ?_⟩; replace BK374 := bw_ gb374 hb; replace BK375 := bw_ gb375 hb; replace HB := bs_ hb; (try clear hb); obtain ⟨hcz14_0, hcz14_1, hcz14_2, hfz14_0, hfz14_1, hfz14_2⟩ := bc3_ BK375.out))
   refine bodyPost_ret (results_cell_row rfl _ _ gb375 61 #[.int .i64 4, .int .i64 0, .slice none 0 0] (0, 0) _ rfl blk_a Try.underlying61 rfl (by kernel_rfl)) rfl ?_; exact ⟨_, eq_a, by first | exact Kd.R_nil _ _ _ _ _ | exact Kd.N_nil _ _ _ _ _ | exact Kd.V_nil _ _ _ _ _ | exact Kd.Q_nil _ _ _ _ _ | exact Kd.S_nil _ _ _ _ _, below_a⟩
  ·
   rw [if_neg c6] at H; have c6b0 : decide (t377 < 0) = false := decide_eq_false c6; clear c6
   by_cases c15 : 0 ≤ t377
   rotate_left
   · rw [if_neg c15] at H; exact absurd H (by simp)
   rw [if_pos c15] at H; have c15b0 : decide (0 ≤ t377) = true := decide_eq_true c15; clear c15
   by_cases c16 : t377 < (l0_1.length : Int)
   rotate_left
   · rw [if_neg c16] at H; exact absurd H (by simp)
   rw [if_pos c16] at H; have c16b0 : decide (t377 < (l0_1.length : Int)) = true := decide_eq_true c16; clear c16; obtain ⟨⟨t379, t380⟩, A170, H⟩ := bi_ H; replace H : (some (0, t379, t380)) = some (r1, r2, r3) := H; have A17 := A_ A170; clear A170; simp only [Option.some.injEq, Prod.mk.injEq] at H; obtain ⟨rfl, rfl, rfl⟩ := H
   go_enter Try.func41, Try.ntmps41
   go_wp2_with (first | ((with_reducible refine gate_dst (N := 2) rfl ?_); refine bx_ 2 (#[.int .i64 a0_0, .slice A0_1 l0_1.length c0_1]) 34 rfl rfl ?hr ?_; (case hr => go_simp <;> rfl); intro gb374 hg w18 hbox hb; have n0_ := bs_ hb; have BK374 := A_ (hbox); have GW374 := gw_ (w := w) hg; replace HB := n0_; clear n0_; clear hb hbox hg) | ((with_reducible refine gate_dst (N := 4) rfl ?_); refine bx_ 4 (#[.int .i64 0, .int .i64 0, .slice none 0 0]) 61 rfl rfl ?hr ?_; (case hr => go_simp <;> rfl); intro gb375 hg w19 hbox hb; have n0_ := bw_ gb374 hb; have n1_ := bs_ hb; have BK375 := A_ (hbox); have GW375 := gw_ (w := w) hg; have NB374_375 := bn_ gb374 hg; have NB375_374 := bm2_ gb374 hg; replace BK374 := n0_; replace HB := n1_; clear n0_ n1_; clear hb hbox hg; have hnb20 := NB374_375.out; have hnc20 := NB375_374.out; obtain ⟨hcz21_0, hcz21_1, hfz21_0, hfz21_1⟩ := bc2_ BK374.out) | ((with_reducible refine gate_callee (f := 40) rfl ?_); refine goesL_ (some 8) rfl rfl Try.func40 (by kernel_rfl) rfl #[.agg #[.int .i64 a0_0, .slice A0_1 l0_1.length c0_1]] rfl args_a ?_; (with_reducible refine (impl_RingFault.calls k a0_0 _ _ l0_1 t376 _ ?side1 ?side2 A3.out).mono ?_); (case side1 => exact ca_ (Kd.C_below HR0_1.out HB.out)); (case side2 => exact HC0_1.out); rintro e w22 ⟨rfl, hb⟩; refine ⟨_, rfl, ?_⟩; replace BK374 := bw_ gb374 hb; replace BK375 := bw_ gb375 hb; replace HB := bs_ hb; (try clear hb); obtain ⟨hcz23_0, hcz23_1, hfz23_0, hfz23_1⟩ := bc2_ BK374.out) | ((with_reducible refine gate_callee (f := 82) rfl ?_); refine goesL_ (some 15) rfl rfl Try.func82 (by kernel_rfl) rfl #[.agg #[.int .i64 a0_0, .slice A0_1 l0_1.length c0_1], .int .i64 a1] rfl args_a ?_; (with_reducible refine (impl_Ring_place.calls a0_0 _ _ l0_1 a1 t377 _ ?side1 ?side2 A5.out).mono ?_); (case side1 => exact ca_ (Kd.C_below HR0_1.out HB.out)); (case side2 => exact HC0_1.out); rintro e w24 ⟨rfl, hb⟩; refine ⟨_, rfl, ?_⟩; replace BK374 := bw_ gb374 hb; replace BK375 := bw_ gb375 hb; replace HB := bs_ hb; (try clear hb); obtain ⟨hcz25_0, hcz25_1, hfz25_0, hfz25_1⟩ := bc2_ BK374.out; have p378 : 0 ≤ (t377 : Int) := od_; have q378 : t377 < (l0_1.length : Int) := od_; obtain ⟨ad378, A378_1, c378_1, e378, hx378_0, hx378_1, hl378_1, hi378_1⟩ := at_T59 HR0_1.out t377 p378 q378; cases e378; replace hx378_0 := hc_ HB hx378_0; replace hx378_1 := hc_ HB hx378_1; have HR378_1 := A_ hi378_1; have HC378_1 := A_ hl378_1; clear hi378_1 hl378_1; replace p378 := eq_true p378; replace q378 := eq_true q378) | ((with_reducible refine gate_callee (f := 83) rfl ?_); refine goesL_ (some 24) rfl rfl Try.func83 (by kernel_rfl) rfl #[.agg #[.int .i64 ((rd_T59 l0_1 t377).f0), .slice A378_1 ((rd_T59 l0_1 t377).f1).length c378_1]] rfl args_a ?_; (with_reducible refine (impl_ownKey.calls ((rd_T59 l0_1 t377).f0) _ _ ((rd_T59 l0_1 t377).f1) t379 t380 _ ?side1 ?side2 A17.out).mono ?_); (case side1 => exact ca_ (Kd.C_below HR378_1.out HB.out)); (case side2 => exact HC378_1.out); rintro e w26 ⟨v381, rfl, ho0, hb⟩; refine ⟨_, rfl, ?_⟩; have HO382 := A_ (Kd.R_lower ho0 (below_size below_a)); replace BK374 := bw_ gb374 hb; replace BK375 := bw_ gb375 hb; replace HB := bs_ hb; (try clear hb ho0); obtain ⟨Ao27, co27, eo27⟩ := Kd.R_slice HO382.out; subst eo27; obtain ⟨hcz28_0, hcz28_1, hcz28_2, hfz28_0, hfz28_1, hfz28_2⟩ := bc3_ BK375.out))
   refine bodyPost_ret (results_cell_row rfl _ _ gb375 61 #[.int .i64 0, .int .i64 t379, .slice Ao27 t380.length co27] (0, 0) _ rfl blk_a Try.underlying61 rfl (by kernel_rfl)) rfl ?_; exact ⟨_, eq_a, by (with_reducible repeat (first | apply Kd.R_alloc | apply Kd.R_drewN | apply Kd.R_drew)); exact Kd.R_mono (Kd.R_far (p := ⟨gb375, 2, none⟩) (Kd.R_far (p := ⟨gb375, 1, none⟩) (Kd.R_far (p := ⟨gb375, 0, none⟩) (Kd.R_types HO382.out BK375.out (by decide)) (fun _ hk => hk.2) (.int .i64 0)) (fun _ hk => hk.2) (.int .i64 t379)) (fun _ hk => hk.2) (.slice Ao27 t380.length co27)) (fun _ hk => trivial), below_a⟩
 ·
  rw [if_neg c4] at H; have c4b0 : (t376 == 0) = false := beq_eq_false_iff_ne.mpr c4; have c4b1 : (t376 != 0) = true := bne_iff_ne.mpr c4; simp only [Option.some.injEq, Prod.mk.injEq] at H; obtain ⟨rfl, rfl, rfl⟩ := H
  go_enter Try.func41, Try.ntmps41
  go_wp2_with (first | ((with_reducible refine gate_dst (N := 2) rfl ?_); refine bx_ 2 (#[.int .i64 a0_0, .slice A0_1 l0_1.length c0_1]) 34 rfl rfl ?hr ?_; (case hr => go_simp <;> rfl); intro gb374 hg w29 hbox hb; have n0_ := bs_ hb; have BK374 := A_ (hbox); have GW374 := gw_ (w := w) hg; replace HB := n0_; clear n0_; clear hb hbox hg) | ((with_reducible refine gate_dst (N := 4) rfl ?_); refine bx_ 4 (#[.int .i64 0, .int .i64 0, .slice none 0 0]) 61 rfl rfl ?hr ?_; (case hr => go_simp <;> rfl); intro gb375 hg w30 hbox hb; have n0_ := bw_ gb374 hb; have n1_ := bs_ hb; have BK375 := A_ (hbox); have GW375 := gw_ (w := w) hg; have NB374_375 := bn_ gb374 hg; have NB375_374 := bm2_ gb374 hg; replace BK374 := n0_; replace HB := n1_; clear n0_ n1_; clear hb hbox hg; have hnb31 := NB374_375.out; have hnc31 := NB375_374.out; obtain ⟨hcz32_0, hcz32_1, hfz32_0, hfz32_1⟩ := bc2_ BK374.out) | ((with_reducible refine gate_callee (f := 40) rfl ?_); refine goesL_ (some 8) rfl rfl Try.func40 (by kernel_rfl) rfl #[.agg #[.int .i64 a0_0, .slice A0_1 l0_1.length c0_1]] rfl args_a ?_; (with_reducible refine (impl_RingFault.calls k a0_0 _ _ l0_1 t376 _ ?side1 ?side2 A3.out).mono ?_); (case side1 => exact ca_ (Kd.C_below HR0_1.out HB.out)); (case side2 => exact HC0_1.out); rintro e w33 ⟨rfl, hb⟩; refine ⟨_, rfl, ?_⟩; replace BK374 := bw_ gb374 hb; replace BK375 := bw_ gb375 hb; replace HB := bs_ hb; (try clear hb); obtain ⟨hcz34_0, hcz34_1, hcz34_2, hfz34_0, hfz34_1, hfz34_2⟩ := bc3_ BK375.out))
  refine bodyPost_ret (results_cell_row rfl _ _ gb375 61 #[.int .i64 t376, .int .i64 0, .slice none 0 0] (0, 0) _ rfl blk_a Try.underlying61 rfl (by kernel_rfl)) rfl ?_; exact ⟨_, eq_a, by first | exact Kd.R_nil _ _ _ _ _ | exact Kd.N_nil _ _ _ _ _ | exact Kd.V_nil _ _ _ _ _ | exact Kd.Q_nil _ _ _ _ _ | exact Kd.S_nil _ _ _ _ _, below_a⟩
def impl_noBytes.f (a0 : Int) : Option (Int × List Int) := some (a0, ([] : List Int))
theorem impl_noBytes.calls (a0 : Int) (r1 : Int) (r2 : List Int) (w : World) (h : impl_noBytes.f a0 = some (r1, r2)) :
  Calls Try.prog 54 #[.int .i64 a0] w fun e w' => ∃ v1_ : Value, e = .returned (.agg #[.int .i64 r1, v1_]) ∧ Kd.R (Kd.int .u8) 5 w' w.heap.size (fun _ => True) v1_ r2 ∧ Below w.heap.size w w' := by
 have hu48 := Try.underlying48
 have HB := A_ (Below.refl w.heap.size w)
 have H : (some (a0, ([] : List Int))) = some (r1, r2) := h
 clear h
 simp only [Option.some.injEq, Prod.mk.injEq] at H
 obtain ⟨rfl, rfl⟩ := H
 go_enter Try.func54, Try.ntmps54
 go_wp2_with (first | ((with_reducible refine gate_dst (N := 2) rfl ?_); refine bx_ 2 (#[.int .i64 0, .slice none 0 0]) 48 rfl rfl ?hr ?_; (case hr => go_simp <;> rfl); intro gb383 hg w2 hbox hb; have n0_ := bs_ hb; have BK383 := A_ (hbox); have GW383 := gw_ (w := w) hg; replace HB := n0_; clear n0_; clear hb hbox hg; obtain ⟨hcz3_0, hcz3_1, hfz3_0, hfz3_1⟩ := bc2_ BK383.out))
 refine bodyPost_ret (results_cell_row rfl _ _ gb383 48 #[.int .i64 a0, .slice none 0 0] (0, 0) _ rfl blk_a Try.underlying48 rfl (by kernel_rfl)) rfl ?_
 exact ⟨_, eq_a, by first | exact Kd.R_nil _ _ _ _ _ | exact Kd.N_nil _ _ _ _ _ | exact Kd.V_nil _ _ _ _ _ | exact Kd.Q_nil _ _ _ _ _ | exact Kd.S_nil _ _ _ _ _, below_a⟩
def bytes_Equal.f (l0 : List Int) (l1 : List Int) : Option (Bool) := some ((strOfNums l0).toList == (strOfNums l1).toList)
theorem bytes_Equal.calls (A0 : Option Addr) (c0 : Nat) (l0 : List Int) (A1 : Option Addr) (c1 : Nat) (l1 : List Int) (r : Bool) (w : World) (hr0 : Kd.C (Kd.int .u8) w A0 l0.length l0) (hc0 : l0.length ≤ c0) (hr1 : Kd.C (Kd.int .u8) w A1 l1.length l1) (hc1 : l1.length ≤ c1) (h : bytes_Equal.f l0 l1 = some r) :
  Calls Try.prog 69 #[.slice A0 l0.length c0, .slice A1 l1.length c1] w fun e w' => e = .returned (.bool r) ∧ Drawn0 w w' := by
 have HR0 := A_ hr0
 have HC0 := A_ hc0
 clear hr0 hc0
 have HR1 := A_ hr1
 have HC1 := A_ hc1
 clear hr1 hc1
 have H : (some ((strOfNums l0).toList == (strOfNums l1).toList)) = some r := h
 clear h
 obtain rfl := Option.some.inj H
 have hcv3 := Kd.C_string (P := Try.prog) (A := A0) (c := c0) Try.underlying25 Try.underlying5 Try.underlying9 HR0.out
 have hcv4 := Kd.C_string (P := Try.prog) (A := A1) (c := c1) Try.underlying25 Try.underlying5 Try.underlying9 HR1.out
 go_enter Try.func69, Try.ntmps69
 go_wp2
 go_ret
 exact ⟨eq_b, by repeat (first | exact Drawn0.refl _ | apply Drawn0.step)⟩
def slices_Grow_byte_byte.f (l0 : List Int) (a1 : Int) : Option (List Int) := if l0.length = 0 then (if 0 ≤ a1 then (if a1 < 140737488355328 then some [] else none) else none) else none
theorem slices_Grow_byte_byte.calls (A0 : Option Addr) (c0 : Nat) (l0 : List Int) (a1 : Int) (r : List Int) (w : World) (hr0 : Kd.C (Kd.int .u8) w A0 l0.length l0) (hc0 : l0.length ≤ c0) (hA0 : A0 = none) (hC0 : c0 = 0) (h : slices_Grow_byte_byte.f l0 a1 = some r) :
    Calls Try.prog 91 #[.slice A0 l0.length c0, .int .i64 a1] w fun e w' => ∃ v0_ : Value, e = .returned (v0_) ∧ Kd.R (Kd.int .u8) 5 w' w.heap.size (fun _ => True) v0_ r ∧ Below w.heap.size w w' := by
  subst hA0 hC0
  obtain rfl : l0 = [] := List.length_eq_zero_iff.1 (by omega)
  clear hr0 hc0
  unfold slices_Grow_byte_byte.f at h
  rw [if_pos (show ([] : List Int).length = 0 from rfl)] at h
  by_cases c1 : 0 ≤ a1
  rotate_left
  · rw [if_neg c1] at h; exact absurd h (by simp)
  rw [if_pos c1] at h
  by_cases c2 : a1 < 140737488355328
  rotate_left
  · rw [if_neg c2] at h; exact absurd h (by simp)
  rw [if_pos c2] at h
  obtain rfl := Option.some.inj h
  clear h
  obtain ⟨n, rfl⟩ : ∃ n : Nat, a1 = (n : Int) := ⟨a1.toNat, by omega⟩
  obtain ⟨i0, hi0, hz0, hsz, hby⟩ := info_parts info5
  have h1 : ¬ ((n : Int) < 0) := by omega
  by_cases hn : n = 0
  · subst hn
    go_enter Try.func91, Try.ntmps91
    go_wp2
    go_ret
    exact ⟨_, rfl, Kd.R_nil _ _ _ _ _, Below.refl _ _⟩
  · have h4 : (n : Int) > 0 := by omega
    have hold : (Builtin.firstCells i0.size 0 (.slice none 0 0)).run Try.prog w.drew = .ok ([] : List Value).toArray w.drew := run_firstCells_none w.drew i0.size 0 0 0
    have hrz : ∀ ty, (Builtin.append_ #[25, 3] ty #[.slice none 0 0, .int .i64 (n : Int)]).run Try.prog w = _ := fun ty =>
      Lib.run_append_grow_zeros w 25 3 ty 5 i0 (.int .u8 0) .i64 .i64 Try.underlying25 Try.underlying3 hi0 hz0 none 0 0 [] hold n (by omega) (by rw [hsz]; omega) (by omega) (by omega) (by rw [hby]; omega) (by rw [hby]; exact growslice_fits (by omega) (by omega))
    have hGn : 0 + n ≤ grownCap w (0 + n) 0 5 := grownCap_ge w _ _ _
    have hGm := grownCap_le_maxLen w (0 + n) 0 5 (by unfold maxLen; omega)
    obtain ⟨G, hG⟩ : ∃ G, G = grownCap w (0 + n) 0 5 := ⟨_, rfl⟩
    rw [← hG] at hrz hGn hGm
    have HG := A_ hGm
    have C2 := A_ c2
    clear hGm hold hG hi0 hz0 hsz hby c2
    rw [Nat.zero_add] at hrz hGn
    have hw : wrap64 (n : Int) = (n : Int) := by have := C2.out; unfold wrap64; omega
    rw [← hw] at hrz
    have h5 : wrap64 (n : Int) > 0 := by rw [hw]; exact h4
    clear hw
    go_enter Try.func91, Try.ntmps91
    go_wp2_with (at_builtin; refine Lib.wpList_append_run _ rfl _ _ _ _ rfl _ _ rfl rfl _ _ (hrz _) ?_)
    go_ret
    refine ⟨_, rfl, ⟨fun _ _ => trivial, [], ⟨by simp, .inr ⟨w.heap.size, G, _, rfl, Nat.le_refl _, heap_alloc_new _ _, Nat.zero_le _, HG.out, ?_, by simp⟩⟩, Reps.none _ _⟩, ?_⟩
    · show _ = G * 1
      simp [Builtin.zeroCells, Value.cells]; omega
    · exact below_alloc (below_drew1 (Below.refl _ _)) _
mutual
def slices_Concat_byte_byte.l0 : Nat → List (List Int) → Int → List (List Int) → Int → Int → Option (List Int)
 | 0, _, _, _, _, _ => none
 | k + 1, x0, x3, x9, x10, x11 => if x11 < x10 then (if 0 ≤ x11 then (if x11 < (x9.length : Int) then (if (wrap64 (x3 + ((rd_L2 x9 x11).length : Int))) < 0 then (none) else (slices_Concat_byte_byte.l0 k x0 (wrap64 (x3 + ((rd_L2 x9 x11).length : Int))) x9 x10 (wrap64 (x11 + 1)))) else (none)) else (none)) else ((slices_Grow_byte_byte.f ([] : List Int) x3).bind fun t385 => (slices_Concat_byte_byte.l1 k t385 x0 (x0.length : Int) 0))
def slices_Concat_byte_byte.l1 : Nat → List Int → List (List Int) → Int → Int → Option (List Int)
 | 0, _, _, _, _ => none
 | k + 1, x6, x25, x26, x27 => if x27 < x26 then (if 0 ≤ x27 then (if x27 < (x25.length : Int) then (if x6.length + (rd_L2 x25 x27).length < 140737488355328 then (slices_Concat_byte_byte.l1 k (x6 ++ (rd_L2 x25 x27)) x25 x26 (wrap64 (x27 + 1))) else (none)) else (none)) else (none)) else (some x6)
end
def slices_Concat_byte_byte.f (k : Nat) (l0 : List (List Int)) : Option (List Int) := slices_Concat_byte_byte.l0 k l0 0 l0 (l0.length : Int) 0
theorem slices_Concat_byte_byte.calls (k : Nat) (A0 : Option Addr) (c0 : Nat) (l0 : List (List Int)) (r : List Int) (w : World) (hr0 : Kd.C (Kd.slice 5 (Kd.int .u8)) w A0 l0.length l0) (hc0 : l0.length ≤ c0) (h : slices_Concat_byte_byte.f k l0 = some r) :
  Calls Try.prog 56 #[.slice A0 l0.length c0] w fun e w' => ∃ v0_ : Value, e = .returned (v0_) ∧ Kd.R (Kd.int .u8) 5 w' w.heap.size (fun _ => True) v0_ r ∧ Below w.heap.size w w' := by
 have HR0 := A_ hr0
 have HC0 := A_ hc0
 clear hr0 hc0
 have HB := A_ (Below.refl w.heap.size w)
 have H : (slices_Concat_byte_byte.l0 k l0 0 l0 (l0.length : Int) 0) = some r := h
 clear h
 have H' := A_ H
 clear H
 go_enter Try.func56, Try.ntmps56
 go_wp2
 go_loopg [3, 11] k (fun kq v3 v11 w' => ∃ (x3_1 : Int) (x11_1 : Int), v3 = .int .i64 x3_1 ∧ v11 = .int .i64 x11_1 ∧ Aside0 (slices_Concat_byte_byte.l0 kq l0 x3_1 l0 (l0.length : Int) x11_1 = some r) ∧ Aside0 (kq ≤ k) ∧ Aside0 (Below w.heap.size w w'))
 case atStart => exact ⟨(0), (0), eq_b, eq_b, H', ⟨Nat.le_refl _⟩, ⟨below_a⟩⟩
 case round =>
  clear H'; obtain ⟨x3_1, x11_1, rfl, rfl, HA, HK1, HB⟩ := hrel
  cases gk with
  | zero => exact absurd HA.out (by simp [slices_Concat_byte_byte.l0])
  | succ k1 =>
   have H := HA.out; clear HA; simp only [slices_Concat_byte_byte.l0] at H
   by_cases c2 : x11_1 < (l0.length : Int)
   ·
    rw [if_pos c2] at H; have c2b0 : decide (x11_1 < (l0.length : Int)) = true := decide_eq_true c2; clear c2
    by_cases c3 : 0 ≤ x11_1
    rotate_left
    · rw [if_neg c3] at H; exact absurd H (by simp)
    rw [if_pos c3] at H; have c3b0 : decide (0 ≤ x11_1) = true := decide_eq_true c3; clear c3
    by_cases c4 : x11_1 < (l0.length : Int)
    rotate_left
    · rw [if_neg c4] at H; exact absurd H (by simp)
    rw [if_pos c4] at H; have c4b0 : decide (x11_1 < (l0.length : Int)) = true := decide_eq_true c4; clear c4
    by_cases c5 : (wrap64 (x3_1 + ((rd_L2 l0 x11_1).length : Int))) < 0
    ·
     rw [if_pos c5] at H; exact absurd H (by simp)
    ·
     rw [if_neg c5] at H; have c5b0 : decide ((wrap64 (x3_1 + ((rd_L2 l0 x11_1).length : Int))) < 0) = false := decide_eq_false c5; (try (have c5b1 : decide ((IntKind.i64.wrap (x3_1 + ((rd_L2 l0 x11_1).length : Int))) < 0) = false := by simp only [i64_w]; exact decide_eq_false c5)); clear c5; have H' := A_ H; clear H; have p384 : 0 ≤ (x11_1 : Int) := od_; have q384 : x11_1 < (l0.length : Int) := od_; obtain ⟨ad384, A384_0, c384_0, e384, hx384_0, hl384_0, hi384_0⟩ := at_L2 HR0.out x11_1 p384 q384
     cases e384
     replace hx384_0 := hc_ HB hx384_0; have HR384_0 := A_ hi384_0; have HC384_0 := A_ hl384_0; clear hi384_0 hl384_0; replace p384 := eq_true p384; replace q384 := eq_true q384
     go_wp2
     go_roundg k1
     case measure => have := HK1.out; omega
     case rel => exact ⟨(wrap64 (x3_1 + ((rd_L2 l0 x11_1).length : Int))), (wrap64 (x11_1 + 1)), eq_b, eq_b, H', ⟨by have := HK1.out; omega⟩, ⟨below_a⟩⟩
   ·
    rw [if_neg c2] at H; have c2b0 : decide (x11_1 < (l0.length : Int)) = false := decide_eq_false c2; clear c2; obtain ⟨t385, A60, H⟩ := bi_ H; replace H : (slices_Concat_byte_byte.l1 k1 t385 l0 (l0.length : Int) 0) = some r := H; have A6 := A_ A60; clear A60; have H' := A_ H; clear H
    go_wp2_with (first | ((with_reducible refine gate_callee (f := 91) rfl ?_); refine goesL_ (some 24) rfl rfl Try.func91 (by kernel_rfl) rfl #[.slice none 0 0, .int .i64 x3_1] rfl args_a ?_; (refine (slices_Grow_byte_byte.calls _ _ ([] : List Int) x3_1 t385 _ ?side1 ?side2 ?side3 ?side4 A6.out).mono ?_); (case side1 => exact Kd.C_nil _ _); (case side2 => exact Nat.le_refl _); (case side3 => exact rfl); (case side4 => exact rfl); rintro e w7 ⟨v386, rfl, ho0, hb⟩; refine ⟨_, rfl, ?_⟩; have HO387 := A_ (Kd.R_lower ho0 (below_size below_a)); replace HB := bs_ hb; (try clear hb ho0)))
    go_loopg [6, 27] k1 (fun kq v6 v27 w' => ∃ (x6_2 : List Int) (x27_2 : Int), v27 = .int .i64 x27_2 ∧ Aside0 (slices_Concat_byte_byte.l1 kq x6_2 l0 (l0.length : Int) x27_2 = some r) ∧ Aside0 (kq ≤ k1) ∧ Aside0 (Kd.R (Kd.int .u8) 5 w' w.heap.size (fun _ => True) v6 x6_2) ∧ Aside0 (Below w.heap.size w w'))
    case atStart => exact ⟨(t385), (0), eq_b, H', ⟨Nat.le_refl _⟩, ⟨R_a HO387.out⟩, ⟨below_a⟩⟩
    case round =>
     clear H'
     try clear c2 c2b0
     try clear p2
     try clear c3 c3b0
     try clear p3
     try clear q3
     try clear hx3
     try clear c4 c4b0
     try clear c5 c5b0 c5b1
     try clear p6
     try clear hx384_0
     try clear p384
     try clear q384
     obtain ⟨x6_2, x27_2, rfl, HA, HK2, HO_6, HB⟩ := hrel
     cases gk with
     | zero => exact absurd HA.out (by simp [slices_Concat_byte_byte.l1])
     | succ k2 =>
      have H := HA.out; clear HA; simp only [slices_Concat_byte_byte.l1] at H
      by_cases c8 : x27_2 < (l0.length : Int)
      ·
       rw [if_pos c8] at H; have c8b0 : decide (x27_2 < (l0.length : Int)) = true := decide_eq_true c8; clear c8
       by_cases c9 : 0 ≤ x27_2
       rotate_left
       · rw [if_neg c9] at H; exact absurd H (by simp)
       rw [if_pos c9] at H; have c9b0 : decide (0 ≤ x27_2) = true := decide_eq_true c9; clear c9
       by_cases c10 : x27_2 < (l0.length : Int)
       rotate_left
       · rw [if_neg c10] at H; exact absurd H (by simp)
       rw [if_pos c10] at H; have c10b0 : decide (x27_2 < (l0.length : Int)) = true := decide_eq_true c10; clear c10
       by_cases c11 : x6_2.length + (rd_L2 l0 x27_2).length < 140737488355328
       rotate_left
       · rw [if_neg c11] at H; exact absurd H (by simp)
       rw [if_pos c11] at H; have LMc11 := A_ c11; clear c11; obtain ⟨y389, hy389⟩ : ∃ y_ : List Int, y_ = (x6_2 ++ (rd_L2 l0 x27_2)) := ⟨_, rfl⟩; replace H : (slices_Concat_byte_byte.l1 k2 y389 l0 (l0.length : Int) (wrap64 (x27_2 + 1))) = some r := by first | (rw [hy389]; with_reducible exact H) | (have H2_ := os_ H; rw [hy389]; with_reducible exact H2_) | (have H2_ := os_ H; with_reducible exact H2_) | with_reducible exact H | (rw [hy389]; exact H) | exact H
       have Ny389 := A_ hy389; clear hy389; have H' := A_ H; clear H; have p388 : 0 ≤ (x27_2 : Int) := od_; have q388 : x27_2 < (l0.length : Int) := od_; obtain ⟨ad388, A388_0, c388_0, e388, hx388_0, hl388_0, hi388_0⟩ := at_L2 HR0.out x27_2 p388 q388
       cases e388
       replace hx388_0 := hc_ HB hx388_0; have HR388_0 := A_ hi388_0; have HC388_0 := A_ hl388_0; clear hi388_0 hl388_0; replace p388 := eq_true p388; replace q388 := eq_true q388
       go_wp2_with (first | ((with_reducible refine gate_builtin (b := .append) (xs := #[.tmp 31, .tmp 32]) rfl ?_); at_builtin; refine Kd.R_append_rows (Kd.int .u8) (w0 := w) w.heap.size rfl (.tmp 31) (.tmp 32) 25 5 (.int .u8 0) 1 rfl Try.underlying25 info5 rfl (by decide) (by omega) u6 x6_2 (rd_L2 l0 x27_2) _ _ _ (fun _ => True) (fun _ => False) rfl rfl ?aO ?aR (fun _ _ h => h) (fun _ h => h.elim) ?aF ?aB ?aS ?aL ?_; (case aR => exact ca_ (Kd.C_below HR388_0.out HB.out)); (case aB => exact below_a); (case aF => exact (fun _ _ => trivial)); (case aO => exact (R_a HO_6.out)); (case aS => exact (below_size below_a)); (case aL => have := LMc11.out; omega); intro v390 w12 ho hb hg hat; rw [← Ny389.out] at ho; replace HB := A_ (hb); have HO391 := A_ (ho); clear HO_6; clear ho hb hg hat))
       go_roundg k2
       case measure => have := HK1.out; have := HK2.out; omega
       case rel => exact ⟨(y389), (wrap64 (x27_2 + 1)), eq_b, H', ⟨by have := HK1.out; have := HK2.out; omega⟩, ⟨R_a HO391.out⟩, ⟨below_a⟩⟩
      ·
       rw [if_neg c8] at H; have c8b0 : decide (x27_2 < (l0.length : Int)) = false := decide_eq_false c8; clear c8; obtain rfl := Option.some.inj H
       go_wp2
       go_ret
       exact ⟨_, eq_a, R_a HO_6.out, below_a⟩
def impl_word.l0 : Nat → Int → List Int → Int → Option (List Int)
 | 0, _, _, _ => none
 | k + 1, x0, x5, x6 => if x6 ≥ 0 then (if 0 ≤ x6 then (if x6 < (x5.length : Int) then (impl_word.l0 k (wrap64 (Int.tdiv x0 256)) (x5.set (x6 : Int).toNat ((Int.tmod x0 256) % 256)) (wrap64 (x6 - 1))) else (none)) else (none)) else (some x5)
def impl_word.f (k : Nat) (a0 : Int) (a1 : Int) : Option (List Int) := if 0 ≤ a1 then (if (a1 : Int).toNat ≤ 281474976710656 then (impl_word.l0 k a0 (List.replicate (a1 : Int).toNat 0) (wrap64 (a1 - 1))) else (none)) else (none)
theorem impl_word.calls (k : Nat) (a0 : Int) (a1 : Int) (r : List Int) (w : World) (h : impl_word.f k a0 a1 = some r) :
  Calls Try.prog 70 #[.int .i64 a0, .int .i64 a1] w fun e w' => ∃ v0_ : Value, e = .returned (v0_) ∧ Kd.R (Kd.int .u8) 5 w' w.heap.size (fun _ => True) v0_ r ∧ Below w.heap.size w w' := by
 have HB := A_ (Below.refl w.heap.size w)
 have H : (if 0 ≤ a1 then (if (a1 : Int).toNat ≤ 281474976710656 then (impl_word.l0 k a0 (List.replicate (a1 : Int).toNat 0) (wrap64 (a1 - 1))) else (none)) else (none)) = some r := h
 clear h
 by_cases c3 : 0 ≤ a1
 rotate_left
 · rw [if_neg c3] at H; exact absurd H (by simp)
 rw [if_pos c3] at H; have c3b0 := eq_true c3; have c3b1 : decide (0 ≤ a1) = true := decide_eq_true c3; clear c3
 by_cases c4 : (a1 : Int).toNat ≤ 281474976710656
 rotate_left
 · rw [if_neg c4] at H; exact absurd H (by simp)
 rw [if_pos c4] at H; have c4b0 := eq_true c4; have c4b1 : decide ((a1 : Int).toNat ≤ 281474976710656) = true := decide_eq_true c4; clear c4; obtain ⟨y392, hy392⟩ : ∃ y_ : List Int, y_ = (List.replicate (a1 : Int).toNat 0) := ⟨_, rfl⟩; replace H : (impl_word.l0 k a0 y392 (wrap64 (a1 - 1))) = some r := by first | (rw [hy392]; with_reducible exact H) | (have H2_ := os_ H; rw [hy392]; with_reducible exact H2_) | (have H2_ := os_ H; with_reducible exact H2_) | with_reducible exact H | (rw [hy392]; exact H) | exact H
 have Ny392 := A_ hy392; clear hy392; have H' := A_ H; clear H
 go_enter Try.func70, Try.ntmps70
 go_wp2_with (first | ((with_reducible refine gate_dst (N := 8) rfl ?_); refine Kd.R_make (Kd.int .u8) _ 5 rfl (N := 8) rfl 25 _ _ rfl a1 rfl rfl Try.underlying25 (.int .u8 0) 1 info5 rfl (by decide) (by omega) 0 (ok := fun _ => True) (okp := fun _ => True) rfl (fun _ hk => hk) trivial od_ (Nat.le_trans (Nat.mul_le_mul_right _ (od_ : a1.toNat ≤ 281474976710656)) (by omega)) (Below.refl _ _) (Nat.le_refl _) ?_; intro v393 w5 ho6 hb hg_ hnew_; clear hg_ hnew_; (first | rw [← Ny392.out] at ho6 | (simp only [Int.reduceToNat] at ho6; rw [← Ny392.out] at ho6)); have HO394 := A_ (Kd.R_lower ho6 (below_size below_a)); replace HB := bs_ hb; clear hb ho6))
 go_loopg [0, 6] k (fun kq v0 v6 w' => ∃ (x0_1 : Int) (x5_1 : List Int) (x6_1 : Int), v0 = .int .i64 x0_1 ∧ v6 = .int .i64 x6_1 ∧ Aside0 (impl_word.l0 kq x0_1 x5_1 x6_1 = some r) ∧ Aside0 (kq ≤ k) ∧ Aside0 (Kd.R (Kd.int .u8) 5 w' w.heap.size (fun _ => True) v393 x5_1) ∧ Aside0 (Below w.heap.size w w'))
 case atStart => exact ⟨(a0), (y392), (wrap64 (a1 - 1)), eq_b, eq_b, H', ⟨Nat.le_refl _⟩, ⟨R_a HO394.out⟩, ⟨below_a⟩⟩
 case round =>
  clear H'
  try clear p2
  try clear c3 c3b0 c3b1
  try clear c4 c4b0 c4b1
  try clear p6
  obtain ⟨x0_1, x5_1, x6_1, rfl, rfl, HA, HK1, HO_5, HB⟩ := hrel
  cases gk with
  | zero => exact absurd HA.out (by simp [impl_word.l0])
  | succ k1 =>
   have H := HA.out; clear HA; simp only [impl_word.l0] at H
   by_cases c7 : x6_1 ≥ 0
   ·
    rw [if_pos c7] at H; have c7b0 : decide (0 ≤ x6_1) = true := decide_eq_true c7; clear c7
    by_cases c8 : 0 ≤ x6_1
    rotate_left
    · rw [if_neg c8] at H; exact absurd H (by simp)
    rw [if_pos c8] at H; have c8b0 : decide (0 ≤ x6_1) = true := decide_eq_true c8; clear c8
    by_cases c9 : x6_1 < (x5_1.length : Int)
    rotate_left
    · rw [if_neg c9] at H; exact absurd H (by simp)
    rw [if_pos c9] at H; have c9b0 : decide (x6_1 < (x5_1.length : Int)) = true := decide_eq_true c9; clear c9; obtain ⟨y395, hy395⟩ : ∃ y_ : List Int, y_ = (x5_1.set (x6_1 : Int).toNat ((Int.tmod x0_1 256) % 256)) := ⟨_, rfl⟩; replace H : (impl_word.l0 k1 (wrap64 (Int.tdiv x0_1 256)) y395 (wrap64 (x6_1 - 1))) = some r := by first | (rw [hy395]; with_reducible exact H) | (have H2_ := os_ H; rw [hy395]; with_reducible exact H2_) | (have H2_ := os_ H; with_reducible exact H2_) | with_reducible exact H | (rw [hy395]; exact H) | exact H
    have Ny395 := A_ hy395; clear hy395; have H' := A_ H; clear H; have p10 : 0 ≤ (x6_1 : Int) := od_; have q10 : (x6_1 : Int) < ((x5_1.length : Int) : Int) := od_; obtain ⟨go10, co10, eo10, gb10, gl10, cl10, HG10⟩ := Kd.R_form HO_5.out (by omega); (first | cases eo10 | (injection eo10 with ea_ en_ ec_; (first | subst ea_ | (injection ea_ with ea_; subst ea_)); subst ec_; clear en_)); have GB10 := A_ gb10; have GG10 := A_ HG10; clear gb10 gl10 HG10; obtain ⟨hx10_0, hf10_0⟩ := Kd.R_celln 0 HO_5.out (x6_1 : Int) p10 q10; replace p10 := eq_true p10; replace q10 := eq_true q10; have HP11 := Kd.R_putg HO_5.out (x6_1 : Int) ((Int.tmod x0_1 256) % 256)
    go_wp2_with (first | ((with_reducible refine gate_store (t := 5) (p := 20) rfl ?_); refine store_event (t := 5) (p := 20) (v := ?vo_w12) (w1 := (wr.setCell ⟨go10, (x6_1 : Int).toNat, none⟩ (.int .u8 ((Int.tmod x0_1 256) % 256)))) ?hg ?ho ?hn ?hr ?_; (case ho => rfl); (case hg => rfl); (case hn => rfl); (case hr => go_simp <;> rfl); intro w12 hw; have hg : wr.grownBy w12 (some go10) := (by rw [hw]; exact HP11.2); have hp_ : Kd.R (Kd.int .u8) 5 w12 w.heap.size (fun _ => True) (.slice (some ⟨go10, 0, none⟩) x5_1.length co10) y395 := (by rw [hw, Ny395.out]; exact HP11.1); clear HP11; replace HO_5 := A_ (hp_); replace HB := A_ ((by rw [hw]; exact below_set (HB.out) GB10.out : Below w.heap.size w w12)); clear hg hw hp_))
    go_roundg k1
    case measure => have := HK1.out; omega
    case rel => exact ⟨(wrap64 (Int.tdiv x0_1 256)), (y395), (wrap64 (x6_1 - 1)), eq_b, eq_b, H', ⟨by have := HK1.out; omega⟩, ⟨R_a HO_5.out⟩, ⟨below_a⟩⟩
   ·
    rw [if_neg c7] at H; have c7b0 : decide (0 ≤ x6_1) = false := decide_eq_false c7; clear c7; obtain rfl := Option.some.inj H
    go_wp2
    go_ret
    exact ⟨_, eq_a, R_a HO_5.out, below_a⟩
def impl_element_plus.f (a0_0 : Int) (a0_1 : Int) (a1_0 : Int) (a1_1 : Int) : Option (Int × Int) := some (Go.bits .xor .u64 a0_0 a1_0, Go.bits .xor .u64 a0_1 a1_1)
theorem impl_element_plus.calls (a0_0 : Int) (a0_1 : Int) (a1_0 : Int) (a1_1 : Int) (r1 : Int) (r2 : Int) (w : World) (h : impl_element_plus.f a0_0 a0_1 a1_0 a1_1 = some (r1, r2)) :
  Calls Try.prog 115 #[.agg #[.int .u64 a0_0, .int .u64 a0_1], .agg #[.int .u64 a1_0, .int .u64 a1_1]] w fun e w' => e = .returned (.agg #[.int .u64 r1, .int .u64 r2]) ∧ Below w.heap.size w w' := by
 have hu139 := Try.underlying139
 have HB := A_ (Below.refl w.heap.size w)
 have H : (some (Go.bits .xor .u64 a0_0 a1_0, Go.bits .xor .u64 a0_1 a1_1)) = some (r1, r2) := h
 clear h
 simp only [Option.some.injEq, Prod.mk.injEq] at H
 obtain ⟨rfl, rfl⟩ := H
 go_enter Try.func115, Try.ntmps115
 go_wp2_with (first | ((with_reducible refine gate_dst (N := 2) rfl ?_); refine bx_ 2 (#[.int .u64 a0_0, .int .u64 a0_1]) 139 rfl rfl ?hr ?_; (case hr => go_simp <;> rfl); intro gb396 hg w3 hbox hb; have n0_ := bs_ hb; have BK396 := A_ (hbox); have GW396 := gw_ (w := w) hg; replace HB := n0_; clear n0_; clear hb hbox hg) | ((with_reducible refine gate_dst (N := 3) rfl ?_); refine bx_ 3 (#[.int .u64 a1_0, .int .u64 a1_1]) 139 rfl rfl ?hr ?_; (case hr => go_simp <;> rfl); intro gb397 hg w4 hbox hb; have n0_ := bw_ gb396 hb; have n1_ := bs_ hb; have BK397 := A_ (hbox); have GW397 := gw_ (w := w) hg; have NB396_397 := bn_ gb396 hg; have NB397_396 := bm2_ gb396 hg; replace BK396 := n0_; replace HB := n1_; clear n0_ n1_; clear hb hbox hg) | ((with_reducible refine gate_dst (N := 4) rfl ?_); refine bx_ 4 (#[.int .u64 0, .int .u64 0]) 139 rfl rfl ?hr ?_; (case hr => go_simp <;> rfl); intro gb398 hg w5 hbox hb; have n0_ := bw_ gb396 hb; have n1_ := bw_ gb397 hb; have n2_ := bs_ hb; have BK398 := A_ (hbox); have GW398 := gw_ (w := w) hg; have NB396_398 := bn_ gb396 hg; have NB398_396 := bm2_ gb396 hg; have NB397_398 := bn_ gb397 hg; have NB398_397 := bm2_ gb397 hg; replace BK396 := n0_; replace BK397 := n1_; replace HB := n2_; clear n0_ n1_ n2_; clear hb hbox hg; have hnb6 := NB396_397.out; have hnc6 := NB397_396.out; have hnb7 := NB396_398.out; have hnc7 := NB398_396.out; obtain ⟨hcz8_0, hcz8_1, hfz8_0, hfz8_1⟩ := bc2_ BK396.out; have hnb9 := NB397_398.out; have hnc9 := NB398_397.out; obtain ⟨hcz10_0, hcz10_1, hfz10_0, hfz10_1⟩ := bc2_ BK397.out; obtain ⟨hcz11_0, hcz11_1, hfz11_0, hfz11_1⟩ := bc2_ BK398.out))
 refine bodyPost_ret (results_cell_row rfl _ _ gb398 139 #[.int .u64 (Go.bits .xor .u64 a0_0 a1_0), .int .u64 (Go.bits .xor .u64 a0_1 a1_1)] (0, 0) _ rfl blk_a Try.underlying139 rfl (by kernel_rfl)) rfl ?_
 exact ⟨eq_a, below_a⟩
def impl_element_shifted.f (a0_0 : Int) (a0_1 : Int) : Option (Int × Int) := if (Int.tmod a0_1 2) = 1 then (some (Go.bits .xor .u64 (a0_0 / 2) 16212958658533785600, Go.bits .or .u64 (a0_1 / 2) (IntKind.u64.wrap (a0_0 * 9223372036854775808)))) else (some (a0_0 / 2, Go.bits .or .u64 (a0_1 / 2) (IntKind.u64.wrap (a0_0 * 9223372036854775808))))
theorem impl_element_shifted.calls (a0_0 : Int) (a0_1 : Int) (r1 : Int) (r2 : Int) (w : World) (h : impl_element_shifted.f a0_0 a0_1 = some (r1, r2)) :
  Calls Try.prog 124 #[.agg #[.int .u64 a0_0, .int .u64 a0_1]] w fun e w' => e = .returned (.agg #[.int .u64 r1, .int .u64 r2]) ∧ Below w.heap.size w w' := by
 have hu139 := Try.underlying139
 have HB := A_ (Below.refl w.heap.size w)
 have H : (if (Int.tmod a0_1 2) = 1 then (some (Go.bits .xor .u64 (a0_0 / 2) 16212958658533785600, Go.bits .or .u64 (a0_1 / 2) (IntKind.u64.wrap (a0_0 * 9223372036854775808)))) else (some (a0_0 / 2, Go.bits .or .u64 (a0_1 / 2) (IntKind.u64.wrap (a0_0 * 9223372036854775808))))) = some (r1, r2) := h
 clear h
 by_cases c2 : (Int.tmod a0_1 2) = 1
 ·
  rw [if_pos c2] at H; have c2b0 : ((Int.tmod a0_1 2) == 1) = true := beq_iff_eq.mpr c2; have c2b1 : ((Int.tmod a0_1 2) != 1) = false := bne_eq_false_iff_eq.mpr c2; clear c2; simp only [Option.some.injEq, Prod.mk.injEq] at H; obtain ⟨rfl, rfl⟩ := H
  go_enter Try.func124, Try.ntmps124
  go_wp2_with (first | ((with_reducible refine gate_dst (N := 1) rfl ?_); refine bx_ 1 (#[.int .u64 a0_0, .int .u64 a0_1]) 139 rfl rfl ?hr ?_; (case hr => go_simp <;> rfl); intro gb399 hg w3 hbox hb; have n0_ := bs_ hb; have BK399 := A_ (hbox); have GW399 := gw_ (w := w) hg; replace HB := n0_; clear n0_; clear hb hbox hg) | ((with_reducible refine gate_dst (N := 2) rfl ?_); refine bx_ 2 (#[.int .u64 0, .int .u64 0]) 139 rfl rfl ?hr ?_; (case hr => go_simp <;> rfl); intro gb400 hg w4 hbox hb; have n0_ := bw_ gb399 hb; have n1_ := bs_ hb; have BK400 := A_ (hbox); have GW400 := gw_ (w := w) hg; have NB399_400 := bn_ gb399 hg; have NB400_399 := bm2_ gb399 hg; replace BK399 := n0_; replace HB := n1_; clear n0_ n1_; clear hb hbox hg; have hnb5 := NB399_400.out; have hnc5 := NB400_399.out; obtain ⟨hcz6_0, hcz6_1, hfz6_0, hfz6_1⟩ := bc2_ BK399.out) | ((with_reducible refine gate_dst (N := 3) rfl ?_); refine bx_ 3 (#[.int .u64 0, .int .u64 0]) 139 rfl rfl ?hr ?_; (case hr => go_simp <;> rfl); intro gb401 hg w7 hbox hb; have n0_ := bw_ gb399 hb; have n1_ := bw_ gb400 hb; have n2_ := bs_ hb; have BK401 := A_ (hbox); have GW401 := gw_ (w := w) hg; have NB399_401 := bn_ gb399 hg; have NB401_399 := bm2_ gb399 hg; have NB400_401 := bn_ gb400 hg; have NB401_400 := bm2_ gb400 hg; replace BK399 := n0_; replace BK400 := n1_; replace HB := n2_; clear n0_ n1_ n2_; clear hb hbox hg; have hnb8 := NB401_399.out; have hnc8 := NB399_401.out; have hnb9 := NB401_400.out; have hnc9 := NB400_401.out; obtain ⟨hcz10_0, hcz10_1, hfz10_0, hfz10_1⟩ := bc2_ BK401.out; obtain ⟨hcz11_0, hcz11_1, hfz11_0, hfz11_1⟩ := bc2_ BK399.out; obtain ⟨hcz12_0, hcz12_1, hfz12_0, hfz12_1⟩ := bc2_ BK400.out))
  refine bodyPost_ret (results_cell_row rfl _ _ gb400 139 #[.int .u64 (Go.bits .xor .u64 (a0_0 / 2) 16212958658533785600), .int .u64 (Go.bits .or .u64 (a0_1 / 2) (IntKind.u64.wrap (a0_0 * 9223372036854775808)))] (0, 0) _ rfl (by (with_reducible repeat (first | refine blk_drewN ?_ _ | refine blk_drew ?_ | refine blk_alloc ?_ _)); refine blk_put (cs := #[.int .u64 (Go.bits .xor .u64 (a0_0 / 2) 16212958658533785600), .int .u64 0]) ?_ 1 _ rfl; refine blk_put (cs := #[.int .u64 0, .int .u64 0]) ?_ 0 _ rfl; (with_reducible repeat (first | refine blk_drewN ?_ _ | refine blk_drew ?_ | refine blk_alloc ?_ _)); refine blk_far ?_ NB400_401.out _; (with_reducible repeat (first | refine blk_drewN ?_ _ | refine blk_drew ?_ | refine blk_alloc ?_ _)); refine blk_far ?_ NB400_401.out _; (with_reducible repeat (first | refine blk_drewN ?_ _ | refine blk_drew ?_ | refine blk_alloc ?_ _)); refine blk_far ?_ NB400_401.out _; exact bl_ BK400.out) Try.underlying139 rfl (by kernel_rfl)) rfl ?_; exact ⟨eq_a, below_a⟩
 ·
  rw [if_neg c2] at H; have c2b0 : ((Int.tmod a0_1 2) == 1) = false := beq_eq_false_iff_ne.mpr c2; have c2b1 : ((Int.tmod a0_1 2) != 1) = true := bne_iff_ne.mpr c2; simp only [Option.some.injEq, Prod.mk.injEq] at H; obtain ⟨rfl, rfl⟩ := H
  go_enter Try.func124, Try.ntmps124
  go_wp2_with (first | ((with_reducible refine gate_dst (N := 1) rfl ?_); refine bx_ 1 (#[.int .u64 a0_0, .int .u64 a0_1]) 139 rfl rfl ?hr ?_; (case hr => go_simp <;> rfl); intro gb399 hg w13 hbox hb; have n0_ := bs_ hb; have BK399 := A_ (hbox); have GW399 := gw_ (w := w) hg; replace HB := n0_; clear n0_; clear hb hbox hg) | ((with_reducible refine gate_dst (N := 2) rfl ?_); refine bx_ 2 (#[.int .u64 0, .int .u64 0]) 139 rfl rfl ?hr ?_; (case hr => go_simp <;> rfl); intro gb400 hg w14 hbox hb; have n0_ := bw_ gb399 hb; have n1_ := bs_ hb; have BK400 := A_ (hbox); have GW400 := gw_ (w := w) hg; have NB399_400 := bn_ gb399 hg; have NB400_399 := bm2_ gb399 hg; replace BK399 := n0_; replace HB := n1_; clear n0_ n1_; clear hb hbox hg; have hnb15 := NB399_400.out; have hnc15 := NB400_399.out; obtain ⟨hcz16_0, hcz16_1, hfz16_0, hfz16_1⟩ := bc2_ BK399.out) | ((with_reducible refine gate_dst (N := 3) rfl ?_); refine bx_ 3 (#[.int .u64 0, .int .u64 0]) 139 rfl rfl ?hr ?_; (case hr => go_simp <;> rfl); intro gb401 hg w17 hbox hb; have n0_ := bw_ gb399 hb; have n1_ := bw_ gb400 hb; have n2_ := bs_ hb; have BK401 := A_ (hbox); have GW401 := gw_ (w := w) hg; have NB399_401 := bn_ gb399 hg; have NB401_399 := bm2_ gb399 hg; have NB400_401 := bn_ gb400 hg; have NB401_400 := bm2_ gb400 hg; replace BK399 := n0_; replace BK400 := n1_; replace HB := n2_; clear n0_ n1_ n2_; clear hb hbox hg; have hnb18 := NB401_399.out; have hnc18 := NB399_401.out; have hnb19 := NB401_400.out; have hnc19 := NB400_401.out; obtain ⟨hcz20_0, hcz20_1, hfz20_0, hfz20_1⟩ := bc2_ BK401.out; obtain ⟨hcz21_0, hcz21_1, hfz21_0, hfz21_1⟩ := bc2_ BK399.out; obtain ⟨hcz22_0, hcz22_1, hfz22_0, hfz22_1⟩ := bc2_ BK400.out))
  refine bodyPost_ret (results_cell_row rfl _ _ gb400 139 #[.int .u64 (a0_0 / 2), .int .u64 (Go.bits .or .u64 (a0_1 / 2) (IntKind.u64.wrap (a0_0 * 9223372036854775808)))] (0, 0) _ rfl (by (with_reducible repeat (first | refine blk_drewN ?_ _ | refine blk_drew ?_ | refine blk_alloc ?_ _)); refine blk_put (cs := #[.int .u64 (a0_0 / 2), .int .u64 0]) ?_ 1 _ rfl; refine blk_put (cs := #[.int .u64 0, .int .u64 0]) ?_ 0 _ rfl; (with_reducible repeat (first | refine blk_drewN ?_ _ | refine blk_drew ?_ | refine blk_alloc ?_ _)); refine blk_far ?_ NB400_401.out _; (with_reducible repeat (first | refine blk_drewN ?_ _ | refine blk_drew ?_ | refine blk_alloc ?_ _)); refine blk_far ?_ NB400_401.out _; exact bl_ BK400.out) Try.underlying139 rfl (by kernel_rfl)) rfl ?_; exact ⟨eq_a, below_a⟩
end Go.Proofs.Ytiioiohdifkbgaa.MFnExactOpenLetter
