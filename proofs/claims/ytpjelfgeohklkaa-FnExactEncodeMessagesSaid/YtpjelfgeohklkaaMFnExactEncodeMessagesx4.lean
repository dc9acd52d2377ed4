-- Laid by a program of this session (the kit's print, turned where it falls short; the texts of functions that it does not take are proved by hand).
import Derived.Test.YtpjelfgeohklkaaMFnExactEncodeMessagesx0
import Derived.Test.YtpjelfgeohklkaaMFnExactEncodeMessagesx1
namespace Go.Proofs.Ytpjelfgeohklkaa.MFnExactEncodeMessages
open Go.RowKit Go.Proofs.YtpjelfgeohklkaaW.PrintWords Go.Proofs.YtpjelfgeohklkaaW.PrintLast Go.Proofs.YtpjelfgeohklkaaW.PrintMore
attribute [local go_sem] max2_int min2_int max_two min_two max_three min_three max_four min_four   -- for this text's walks alone
set_option linter.unusedVariables false
set_option linter.unusedSimpArgs false

attribute [local go_sem high] eqA37
attribute [local go_sem] isSome_setCell
/-! ### spec_l7Needs: function 63 -/
def spec_l7Needs.f (a0_0 : Int) (a0_1 : Int) (a0_2 : Int) (a0_3 : Int) (a0_4 : Int) (a0_5 : Int) (a0_6 : Int) (a0_7 : Int) (a0_8 : Int) (l0_9 : List Int) (a1 : Bool) (a2 : Bool) (a3 : Bool) (a4 : Bool) : Option (Bool) := if a1 = true then (if a2 = true then (if a3 = true then (if a4 = true then (some true) else (if a0_7 = 0 then (if a0_8 = 0 then (some ((l0_9.length : Int) == 0)) else (some false)) else (some false))) else (if (a0_3 == 0 && (a0_4 == 0 && (a0_5 == 0 && (a0_6 == 0)))) = true then (if a4 = true then (some true) else (if a0_7 = 0 then (if a0_8 = 0 then (some ((l0_9.length : Int) == 0)) else (some false)) else (some false))) else (some false))) else (if a0_2 = 0 then (if a3 = true then (if a4 = true then (some true) else (if a0_7 = 0 then (if a0_8 = 0 then (some ((l0_9.length : Int) == 0)) else (some false)) else (some false))) else (if (a0_3 == 0 && (a0_4 == 0 && (a0_5 == 0 && (a0_6 == 0)))) = true then (if a4 = true then (some true) else (if a0_7 = 0 then (if a0_8 = 0 then (some ((l0_9.length : Int) == 0)) else (some false)) else (some false))) else (some false))) else (some false))) else (if a0_1 = 0 then (if a2 = true then (if a3 = true then (if a4 = true then (some true) else (if a0_7 = 0 then (if a0_8 = 0 then (some ((l0_9.length : Int) == 0)) else (some false)) else (some false))) else (if (a0_3 == 0 && (a0_4 == 0 && (a0_5 == 0 && (a0_6 == 0)))) = true then (if a4 = true then (some true) else (if a0_7 = 0 then (if a0_8 = 0 then (some ((l0_9.length : Int) == 0)) else (some false)) else (some false))) else (some false))) else (if a0_2 = 0 then (if a3 = true then (if a4 = true then (some true) else (if a0_7 = 0 then (if a0_8 = 0 then (some ((l0_9.length : Int) == 0)) else (some false)) else (some false))) else (if (a0_3 == 0 && (a0_4 == 0 && (a0_5 == 0 && (a0_6 == 0)))) = true then (if a4 = true then (some true) else (if a0_7 = 0 then (if a0_8 = 0 then (some ((l0_9.length : Int) == 0)) else (some false)) else (some false))) else (some false))) else (some false))) else (some false))
set_option maxHeartbeats 8000000 in
set_option maxRecDepth 100000 in
theorem spec_l7Needs.calls (p : Addr) (a0_0 : Int) (a0_1 : Int) (a0_2 : Int) (a0_3 : Int) (a0_4 : Int) (a0_5 : Int) (a0_6 : Int) (a0_7 : Int) (a0_8 : Int) (A0_9 : Option Addr) (c0_9 : Nat) (l0_9 : List Int) (a1 : Bool) (a2 : Bool) (a3 : Bool) (a4 : Bool) (r : Bool) (w : World) (hr0_9 : Kd.C (Kd.int .u8) w A0_9 l0_9.length l0_9) (hc0_9 : l0_9.length ≤ c0_9) (hxp_0 : w.cell? p = some (.int .i64 a0_0)) (hxp_1 : w.cell? ⟨p.block, p.off + 1, none⟩ = some (.int .i64 a0_1)) (hxp_2 : w.cell? ⟨p.block, p.off + 2, none⟩ = some (.int .i64 a0_2)) (hxp_3 : w.cell? ⟨p.block, p.off + 3, none⟩ = some (.int .i64 a0_3)) (hxp_4 : w.cell? ⟨p.block, p.off + 4, none⟩ = some (.int .i64 a0_4)) (hxp_5 : w.cell? ⟨p.block, p.off + 5, none⟩ = some (.int .i64 a0_5)) (hxp_6 : w.cell? ⟨p.block, p.off + 6, none⟩ = some (.int .i64 a0_6)) (hxp_7 : w.cell? ⟨p.block, p.off + 7, none⟩ = some (.int .i64 a0_7)) (hxp_8 : w.cell? ⟨p.block, p.off + 8, none⟩ = some (.int .i64 a0_8)) (hxp_9 : w.cell? ⟨p.block, p.off + 9, none⟩ = some (.slice A0_9 l0_9.length c0_9)) (h : spec_l7Needs.f a0_0 a0_1 a0_2 a0_3 a0_4 a0_5 a0_6 a0_7 a0_8 l0_9 a1 a2 a3 a4 = some r) :
  Calls Try.prog 63 #[.pointer (some p), .bool a1, .bool a2, .bool a3, .bool a4] w fun e w' => e = .returned (.bool r) ∧ Below w.heap.size w w' := by
 have hu37 := Try.underlying37
 have HXP_0 := Aside0.mk hxp_0
 have HXP_1 := Aside0.mk hxp_1
 have HXP_2 := Aside0.mk hxp_2
 have HXP_3 := Aside0.mk hxp_3
 have HXP_4 := Aside0.mk hxp_4
 have HXP_5 := Aside0.mk hxp_5
 have HXP_6 := Aside0.mk hxp_6
 have HXP_7 := Aside0.mk hxp_7
 have HXP_8 := Aside0.mk hxp_8
 have HXP_9 := Aside0.mk hxp_9
 have HLP := Aside0.mk (show p.block < w.heap.size from World.block_lt_of_cell? w _ hxp_0)
 clear hxp_0 hxp_1 hxp_2 hxp_3 hxp_4 hxp_5 hxp_6 hxp_7 hxp_8 hxp_9
 have HR0_9 := Aside0.mk hr0_9
 have HC0_9 := Aside0.mk hc0_9
 clear hr0_9 hc0_9
 have HB := Aside0.mk (Below.refl w.heap.size w)
 have H : (if a1 = true then (if a2 = true then (if a3 = true then (if a4 = true then (some true) else (if a0_7 = 0 then (if a0_8 = 0 then (some ((l0_9.length : Int) == 0)) else (some false)) else (some false))) else (if (a0_3 == 0 && (a0_4 == 0 && (a0_5 == 0 && (a0_6 == 0)))) = true then (if a4 = true then (some true) else (if a0_7 = 0 then (if a0_8 = 0 then (some ((l0_9.length : Int) == 0)) else (some false)) else (some false))) else (some false))) else (if a0_2 = 0 then (if a3 = true then (if a4 = true then (some true) else (if a0_7 = 0 then (if a0_8 = 0 then (some ((l0_9.length : Int) == 0)) else (some false)) else (some false))) else (if (a0_3 == 0 && (a0_4 == 0 && (a0_5 == 0 && (a0_6 == 0)))) = true then (if a4 = true then (some true) else (if a0_7 = 0 then (if a0_8 = 0 then (some ((l0_9.length : Int) == 0)) else (some false)) else (some false))) else (some false))) else (some false))) else (if a0_1 = 0 then (if a2 = true then (if a3 = true then (if a4 = true then (some true) else (if a0_7 = 0 then (if a0_8 = 0 then (some ((l0_9.length : Int) == 0)) else (some false)) else (some false))) else (if (a0_3 == 0 && (a0_4 == 0 && (a0_5 == 0 && (a0_6 == 0)))) = true then (if a4 = true then (some true) else (if a0_7 = 0 then (if a0_8 = 0 then (some ((l0_9.length : Int) == 0)) else (some false)) else (some false))) else (some false))) else (if a0_2 = 0 then (if a3 = true then (if a4 = true then (some true) else (if a0_7 = 0 then (if a0_8 = 0 then (some ((l0_9.length : Int) == 0)) else (some false)) else (some false))) else (if (a0_3 == 0 && (a0_4 == 0 && (a0_5 == 0 && (a0_6 == 0)))) = true then (if a4 = true then (some true) else (if a0_7 = 0 then (if a0_8 = 0 then (some ((l0_9.length : Int) == 0)) else (some false)) else (some false))) else (some false))) else (some false))) else (some false))) = some r := h
 clear h
 by_cases c6 : a1 = true
 ·
  subst c6; have H1 : (if a2 = true then (if a3 = true then (if a4 = true then (some true) else (if a0_7 = 0 then (if a0_8 = 0 then (some ((l0_9.length : Int) == 0)) else (some false)) else (some false))) else (if (a0_3 == 0 && (a0_4 == 0 && (a0_5 == 0 && (a0_6 == 0)))) = true then (if a4 = true then (some true) else (if a0_7 = 0 then (if a0_8 = 0 then (some ((l0_9.length : Int) == 0)) else (some false)) else (some false))) else (some false))) else (if a0_2 = 0 then (if a3 = true then (if a4 = true then (some true) else (if a0_7 = 0 then (if a0_8 = 0 then (some ((l0_9.length : Int) == 0)) else (some false)) else (some false))) else (if (a0_3 == 0 && (a0_4 == 0 && (a0_5 == 0 && (a0_6 == 0)))) = true then (if a4 = true then (some true) else (if a0_7 = 0 then (if a0_8 = 0 then (some ((l0_9.length : Int) == 0)) else (some false)) else (some false))) else (some false))) else (some false))) = some r := by rw [if_pos rfl] at H; exact H
  clear H; have H := H1; clear H1
  by_cases c7 : a2 = true
  ·
   subst c7; have H1 : (if a3 = true then (if a4 = true then (some true) else (if a0_7 = 0 then (if a0_8 = 0 then (some ((l0_9.length : Int) == 0)) else (some false)) else (some false))) else (if (a0_3 == 0 && (a0_4 == 0 && (a0_5 == 0 && (a0_6 == 0)))) = true then (if a4 = true then (some true) else (if a0_7 = 0 then (if a0_8 = 0 then (some ((l0_9.length : Int) == 0)) else (some false)) else (some false))) else (some false))) = some r := by rw [if_pos rfl] at H; exact H
   clear H; have H := H1; clear H1
   by_cases c8 : a3 = true
   ·
    subst c8; have H1 : (if a4 = true then (some true) else (if a0_7 = 0 then (if a0_8 = 0 then (some ((l0_9.length : Int) == 0)) else (some false)) else (some false))) = some r := by rw [if_pos rfl] at H; exact H
    clear H; have H := H1; clear H1
    by_cases c9 : a4 = true
    ·
     subst c9; have H1 : (some true) = some r := by rw [if_pos rfl] at H; exact H
     clear H; have H := H1; clear H1; obtain rfl := Option.some.inj H
     go_enter Try.func63, Try.ntmps63
     go_wp2
     go_ret
     exact ⟨eq_a, below_a⟩
    ·
     replace c9 := Bool.eq_false_iff.mpr c9; subst c9; have H1 : (if a0_7 = 0 then (if a0_8 = 0 then (some ((l0_9.length : Int) == 0)) else (some false)) else (some false)) = some r := by rw [if_neg (show ¬ (false = true) by decide)] at H; exact H
     clear H; have H := H1; clear H1
     by_cases c10 : a0_7 = 0
     ·
      rw [if_pos c10] at H; have c10b0 : (a0_7 == 0) = true := beq_iff_eq.mpr c10; have c10b1 : (a0_7 != 0) = false := bne_eq_false_iff_eq.mpr c10; clear c10
      by_cases c11 : a0_8 = 0
      ·
       rw [if_pos c11] at H; have c11b0 : (a0_8 == 0) = true := beq_iff_eq.mpr c11; have c11b1 : (a0_8 != 0) = false := bne_eq_false_iff_eq.mpr c11; clear c11; obtain rfl := Option.some.inj H; have hcz12_0 : w.cell? p = some (.int .i64 a0_0) := (HB.out.cell (p := p) HLP.out).trans HXP_0.out; have hcz12_1 : w.cell? ⟨p.block, p.off + 1, none⟩ = some (.int .i64 a0_1) := (HB.out.cell (p := ⟨p.block, p.off + 1, none⟩) HLP.out).trans HXP_1.out; have hcz12_2 : w.cell? ⟨p.block, p.off + 2, none⟩ = some (.int .i64 a0_2) := (HB.out.cell (p := ⟨p.block, p.off + 2, none⟩) HLP.out).trans HXP_2.out; have hcz12_3 : w.cell? ⟨p.block, p.off + 3, none⟩ = some (.int .i64 a0_3) := (HB.out.cell (p := ⟨p.block, p.off + 3, none⟩) HLP.out).trans HXP_3.out; have hcz12_4 : w.cell? ⟨p.block, p.off + 4, none⟩ = some (.int .i64 a0_4) := (HB.out.cell (p := ⟨p.block, p.off + 4, none⟩) HLP.out).trans HXP_4.out; have hcz12_5 : w.cell? ⟨p.block, p.off + 5, none⟩ = some (.int .i64 a0_5) := (HB.out.cell (p := ⟨p.block, p.off + 5, none⟩) HLP.out).trans HXP_5.out; have hcz12_6 : w.cell? ⟨p.block, p.off + 6, none⟩ = some (.int .i64 a0_6) := (HB.out.cell (p := ⟨p.block, p.off + 6, none⟩) HLP.out).trans HXP_6.out; have hcz12_7 : w.cell? ⟨p.block, p.off + 7, none⟩ = some (.int .i64 a0_7) := (HB.out.cell (p := ⟨p.block, p.off + 7, none⟩) HLP.out).trans HXP_7.out; have hcz12_8 : w.cell? ⟨p.block, p.off + 8, none⟩ = some (.int .i64 a0_8) := (HB.out.cell (p := ⟨p.block, p.off + 8, none⟩) HLP.out).trans HXP_8.out; have hcz12_9 : w.cell? ⟨p.block, p.off + 9, none⟩ = some (.slice A0_9 l0_9.length c0_9) := (HB.out.cell (p := ⟨p.block, p.off + 9, none⟩) HLP.out).trans HXP_9.out
       go_enter Try.func63, Try.ntmps63
       go_wp2
       go_ret
       exact ⟨eq_a, below_a⟩
      ·
       rw [if_neg c11] at H; have c11b0 : (a0_8 == 0) = false := beq_eq_false_iff_ne.mpr c11; have c11b1 : (a0_8 != 0) = true := bne_iff_ne.mpr c11; obtain rfl := Option.some.inj H; have hcz13_0 : w.cell? p = some (.int .i64 a0_0) := (HB.out.cell (p := p) HLP.out).trans HXP_0.out; have hcz13_1 : w.cell? ⟨p.block, p.off + 1, none⟩ = some (.int .i64 a0_1) := (HB.out.cell (p := ⟨p.block, p.off + 1, none⟩) HLP.out).trans HXP_1.out; have hcz13_2 : w.cell? ⟨p.block, p.off + 2, none⟩ = some (.int .i64 a0_2) := (HB.out.cell (p := ⟨p.block, p.off + 2, none⟩) HLP.out).trans HXP_2.out; have hcz13_3 : w.cell? ⟨p.block, p.off + 3, none⟩ = some (.int .i64 a0_3) := (HB.out.cell (p := ⟨p.block, p.off + 3, none⟩) HLP.out).trans HXP_3.out; have hcz13_4 : w.cell? ⟨p.block, p.off + 4, none⟩ = some (.int .i64 a0_4) := (HB.out.cell (p := ⟨p.block, p.off + 4, none⟩) HLP.out).trans HXP_4.out; have hcz13_5 : w.cell? ⟨p.block, p.off + 5, none⟩ = some (.int .i64 a0_5) := (HB.out.cell (p := ⟨p.block, p.off + 5, none⟩) HLP.out).trans HXP_5.out; have hcz13_6 : w.cell? ⟨p.block, p.off + 6, none⟩ = some (.int .i64 a0_6) := (HB.out.cell (p := ⟨p.block, p.off + 6, none⟩) HLP.out).trans HXP_6.out; have hcz13_7 : w.cell? ⟨p.block, p.off + 7, none⟩ = some (.int .i64 a0_7) := (HB.out.cell (p := ⟨p.block, p.off + 7, none⟩) HLP.out).trans HXP_7.out; have hcz13_8 : w.cell? ⟨p.block, p.off + 8, none⟩ = some (.int .i64 a0_8) := (HB.out.cell (p := ⟨p.block, p.off + 8, none⟩) HLP.out).trans HXP_8.out; have hcz13_9 : w.cell? ⟨p.block, p.off + 9, none⟩ = some (.slice A0_9 l0_9.length c0_9) := (HB.out.cell (p := ⟨p.block, p.off + 9, none⟩) HLP.out).trans HXP_9.out
       go_enter Try.func63, Try.ntmps63
       go_wp2
       go_ret
       exact ⟨eq_a, below_a⟩
     ·
      rw [if_neg c10] at H; have c10b0 : (a0_7 == 0) = false := beq_eq_false_iff_ne.mpr c10; have c10b1 : (a0_7 != 0) = true := bne_iff_ne.mpr c10; obtain rfl := Option.some.inj H; have hcz14_0 : w.cell? p = some (.int .i64 a0_0) := (HB.out.cell (p := p) HLP.out).trans HXP_0.out; have hcz14_1 : w.cell? ⟨p.block, p.off + 1, none⟩ = some (.int .i64 a0_1) := (HB.out.cell (p := ⟨p.block, p.off + 1, none⟩) HLP.out).trans HXP_1.out; have hcz14_2 : w.cell? ⟨p.block, p.off + 2, none⟩ = some (.int .i64 a0_2) := (HB.out.cell (p := ⟨p.block, p.off + 2, none⟩) HLP.out).trans HXP_2.out; have hcz14_3 : w.cell? ⟨p.block, p.off + 3, none⟩ = some (.int .i64 a0_3) := (HB.out.cell (p := ⟨p.block, p.off + 3, none⟩) HLP.out).trans HXP_3.out; have hcz14_4 : w.cell? ⟨p.block, p.off + 4, none⟩ = some (.int .i64 a0_4) := (HB.out.cell (p := ⟨p.block, p.off + 4, none⟩) HLP.out).trans HXP_4.out; have hcz14_5 : w.cell? ⟨p.block, p.off + 5, none⟩ = some (.int .i64 a0_5) := (HB.out.cell (p := ⟨p.block, p.off + 5, none⟩) HLP.out).trans HXP_5.out; have hcz14_6 : w.cell? ⟨p.block, p.off + 6, none⟩ = some (.int .i64 a0_6) := (HB.out.cell (p := ⟨p.block, p.off + 6, none⟩) HLP.out).trans HXP_6.out; have hcz14_7 : w.cell? ⟨p.block, p.off + 7, none⟩ = some (.int .i64 a0_7) := (HB.out.cell (p := ⟨p.block, p.off + 7, none⟩) HLP.out).trans HXP_7.out; have hcz14_8 : w.cell? ⟨p.block, p.off + 8, none⟩ = some (.int .i64 a0_8) := (HB.out.cell (p := ⟨p.block, p.off + 8, none⟩) HLP.out).trans HXP_8.out; have hcz14_9 : w.cell? ⟨p.block, p.off + 9, none⟩ = some (.slice A0_9 l0_9.length c0_9) := (HB.out.cell (p := ⟨p.block, p.off + 9, none⟩) HLP.out).trans HXP_9.out
      go_enter Try.func63, Try.ntmps63
      go_wp2
      go_ret
      exact ⟨eq_a, below_a⟩
   ·
    replace c8 := Bool.eq_false_iff.mpr c8; subst c8; have H1 : (if (a0_3 == 0 && (a0_4 == 0 && (a0_5 == 0 && (a0_6 == 0)))) = true then (if a4 = true then (some true) else (if a0_7 = 0 then (if a0_8 = 0 then (some ((l0_9.length : Int) == 0)) else (some false)) else (some false))) else (some false)) = some r := by rw [if_neg (show ¬ (false = true) by decide)] at H; exact H
    clear H; have H := H1; clear H1
    by_cases c15 : (a0_3 == 0 && (a0_4 == 0 && (a0_5 == 0 && (a0_6 == 0)))) = true
    ·
     rw [if_pos c15] at H; have c15b0 : (a0_3 == 0 && (a0_4 == 0 && (a0_5 == 0 && (a0_6 == 0)))) = true := c15; (try (have c15d := c15b0; simp only [Bool.and_eq_true] at c15d; obtain ⟨c15d0, c15d1, c15d2, c15d3⟩ := c15d)); (try (have c15b1 : decide (a0_3 = 0 && (a0_4 == 0 && (a0_5 == 0 && (a0_6 == 0)))) = true := by simpa using c15)); (try (have c15b2 : (a0_3 == 0 && (a0_4 == 0 && (a0_5 == 0 && (a0_6 == 0)))) = true := by simpa using c15)); clear c15
     by_cases c16 : a4 = true
     ·
      subst c16; have H1 : (some true) = some r := by rw [if_pos rfl] at H; exact H
      clear H; have H := H1; clear H1; obtain rfl := Option.some.inj H; have hcz17_0 : w.cell? p = some (.int .i64 a0_0) := (HB.out.cell (p := p) HLP.out).trans HXP_0.out; have hcz17_1 : w.cell? ⟨p.block, p.off + 1, none⟩ = some (.int .i64 a0_1) := (HB.out.cell (p := ⟨p.block, p.off + 1, none⟩) HLP.out).trans HXP_1.out; have hcz17_2 : w.cell? ⟨p.block, p.off + 2, none⟩ = some (.int .i64 a0_2) := (HB.out.cell (p := ⟨p.block, p.off + 2, none⟩) HLP.out).trans HXP_2.out; have hcz17_3 : w.cell? ⟨p.block, p.off + 3, none⟩ = some (.int .i64 a0_3) := (HB.out.cell (p := ⟨p.block, p.off + 3, none⟩) HLP.out).trans HXP_3.out; have hcz17_4 : w.cell? ⟨p.block, p.off + 4, none⟩ = some (.int .i64 a0_4) := (HB.out.cell (p := ⟨p.block, p.off + 4, none⟩) HLP.out).trans HXP_4.out; have hcz17_5 : w.cell? ⟨p.block, p.off + 5, none⟩ = some (.int .i64 a0_5) := (HB.out.cell (p := ⟨p.block, p.off + 5, none⟩) HLP.out).trans HXP_5.out; have hcz17_6 : w.cell? ⟨p.block, p.off + 6, none⟩ = some (.int .i64 a0_6) := (HB.out.cell (p := ⟨p.block, p.off + 6, none⟩) HLP.out).trans HXP_6.out; have hcz17_7 : w.cell? ⟨p.block, p.off + 7, none⟩ = some (.int .i64 a0_7) := (HB.out.cell (p := ⟨p.block, p.off + 7, none⟩) HLP.out).trans HXP_7.out; have hcz17_8 : w.cell? ⟨p.block, p.off + 8, none⟩ = some (.int .i64 a0_8) := (HB.out.cell (p := ⟨p.block, p.off + 8, none⟩) HLP.out).trans HXP_8.out; have hcz17_9 : w.cell? ⟨p.block, p.off + 9, none⟩ = some (.slice A0_9 l0_9.length c0_9) := (HB.out.cell (p := ⟨p.block, p.off + 9, none⟩) HLP.out).trans HXP_9.out
      go_enter Try.func63, Try.ntmps63
      go_wp2
      go_ret
      exact ⟨eq_a, below_a⟩
     ·
      replace c16 := Bool.eq_false_iff.mpr c16; subst c16; have H1 : (if a0_7 = 0 then (if a0_8 = 0 then (some ((l0_9.length : Int) == 0)) else (some false)) else (some false)) = some r := by rw [if_neg (show ¬ (false = true) by decide)] at H; exact H
      clear H; have H := H1; clear H1
      by_cases c18 : a0_7 = 0
      ·
       rw [if_pos c18] at H; have c18b0 : (a0_7 == 0) = true := beq_iff_eq.mpr c18; have c18b1 : (a0_7 != 0) = false := bne_eq_false_iff_eq.mpr c18; clear c18
       by_cases c19 : a0_8 = 0
       ·
        rw [if_pos c19] at H; have c19b0 : (a0_8 == 0) = true := beq_iff_eq.mpr c19; have c19b1 : (a0_8 != 0) = false := bne_eq_false_iff_eq.mpr c19; clear c19; obtain rfl := Option.some.inj H; have hcz20_0 : w.cell? p = some (.int .i64 a0_0) := (HB.out.cell (p := p) HLP.out).trans HXP_0.out; have hcz20_1 : w.cell? ⟨p.block, p.off + 1, none⟩ = some (.int .i64 a0_1) := (HB.out.cell (p := ⟨p.block, p.off + 1, none⟩) HLP.out).trans HXP_1.out; have hcz20_2 : w.cell? ⟨p.block, p.off + 2, none⟩ = some (.int .i64 a0_2) := (HB.out.cell (p := ⟨p.block, p.off + 2, none⟩) HLP.out).trans HXP_2.out; have hcz20_3 : w.cell? ⟨p.block, p.off + 3, none⟩ = some (.int .i64 a0_3) := (HB.out.cell (p := ⟨p.block, p.off + 3, none⟩) HLP.out).trans HXP_3.out; have hcz20_4 : w.cell? ⟨p.block, p.off + 4, none⟩ = some (.int .i64 a0_4) := (HB.out.cell (p := ⟨p.block, p.off + 4, none⟩) HLP.out).trans HXP_4.out; have hcz20_5 : w.cell? ⟨p.block, p.off + 5, none⟩ = some (.int .i64 a0_5) := (HB.out.cell (p := ⟨p.block, p.off + 5, none⟩) HLP.out).trans HXP_5.out; have hcz20_6 : w.cell? ⟨p.block, p.off + 6, none⟩ = some (.int .i64 a0_6) := (HB.out.cell (p := ⟨p.block, p.off + 6, none⟩) HLP.out).trans HXP_6.out; have hcz20_7 : w.cell? ⟨p.block, p.off + 7, none⟩ = some (.int .i64 a0_7) := (HB.out.cell (p := ⟨p.block, p.off + 7, none⟩) HLP.out).trans HXP_7.out; have hcz20_8 : w.cell? ⟨p.block, p.off + 8, none⟩ = some (.int .i64 a0_8) := (HB.out.cell (p := ⟨p.block, p.off + 8, none⟩) HLP.out).trans HXP_8.out; have hcz20_9 : w.cell? ⟨p.block, p.off + 9, none⟩ = some (.slice A0_9 l0_9.length c0_9) := (HB.out.cell (p := ⟨p.block, p.off + 9, none⟩) HLP.out).trans HXP_9.out
        go_enter Try.func63, Try.ntmps63
        go_wp2
        go_ret
        exact ⟨eq_a, below_a⟩
       ·
        rw [if_neg c19] at H; have c19b0 : (a0_8 == 0) = false := beq_eq_false_iff_ne.mpr c19; have c19b1 : (a0_8 != 0) = true := bne_iff_ne.mpr c19; obtain rfl := Option.some.inj H; have hcz21_0 : w.cell? p = some (.int .i64 a0_0) := (HB.out.cell (p := p) HLP.out).trans HXP_0.out; have hcz21_1 : w.cell? ⟨p.block, p.off + 1, none⟩ = some (.int .i64 a0_1) := (HB.out.cell (p := ⟨p.block, p.off + 1, none⟩) HLP.out).trans HXP_1.out; have hcz21_2 : w.cell? ⟨p.block, p.off + 2, none⟩ = some (.int .i64 a0_2) := (HB.out.cell (p := ⟨p.block, p.off + 2, none⟩) HLP.out).trans HXP_2.out; have hcz21_3 : w.cell? ⟨p.block, p.off + 3, none⟩ = some (.int .i64 a0_3) := (HB.out.cell (p := ⟨p.block, p.off + 3, none⟩) HLP.out).trans HXP_3.out; have hcz21_4 : w.cell? ⟨p.block, p.off + 4, none⟩ = some (.int .i64 a0_4) := (HB.out.cell (p := ⟨p.block, p.off + 4, none⟩) HLP.out).trans HXP_4.out; have hcz21_5 : w.cell? ⟨p.block, p.off + 5, none⟩ = some (.int .i64 a0_5) := (HB.out.cell (p := ⟨p.block, p.off + 5, none⟩) HLP.out).trans HXP_5.out; have hcz21_6 : w.cell? ⟨p.block, p.off + 6, none⟩ = some (.int .i64 a0_6) := (HB.out.cell (p := ⟨p.block, p.off + 6, none⟩) HLP.out).trans HXP_6.out; have hcz21_7 : w.cell? ⟨p.block, p.off + 7, none⟩ = some (.int .i64 a0_7) := (HB.out.cell (p := ⟨p.block, p.off + 7, none⟩) HLP.out).trans HXP_7.out; have hcz21_8 : w.cell? ⟨p.block, p.off + 8, none⟩ = some (.int .i64 a0_8) := (HB.out.cell (p := ⟨p.block, p.off + 8, none⟩) HLP.out).trans HXP_8.out; have hcz21_9 : w.cell? ⟨p.block, p.off + 9, none⟩ = some (.slice A0_9 l0_9.length c0_9) := (HB.out.cell (p := ⟨p.block, p.off + 9, none⟩) HLP.out).trans HXP_9.out
        go_enter Try.func63, Try.ntmps63
        go_wp2
        go_ret
        exact ⟨eq_a, below_a⟩
      ·
       rw [if_neg c18] at H; have c18b0 : (a0_7 == 0) = false := beq_eq_false_iff_ne.mpr c18; have c18b1 : (a0_7 != 0) = true := bne_iff_ne.mpr c18; obtain rfl := Option.some.inj H; have hcz22_0 : w.cell? p = some (.int .i64 a0_0) := (HB.out.cell (p := p) HLP.out).trans HXP_0.out; have hcz22_1 : w.cell? ⟨p.block, p.off + 1, none⟩ = some (.int .i64 a0_1) := (HB.out.cell (p := ⟨p.block, p.off + 1, none⟩) HLP.out).trans HXP_1.out; have hcz22_2 : w.cell? ⟨p.block, p.off + 2, none⟩ = some (.int .i64 a0_2) := (HB.out.cell (p := ⟨p.block, p.off + 2, none⟩) HLP.out).trans HXP_2.out; have hcz22_3 : w.cell? ⟨p.block, p.off + 3, none⟩ = some (.int .i64 a0_3) := (HB.out.cell (p := ⟨p.block, p.off + 3, none⟩) HLP.out).trans HXP_3.out; have hcz22_4 : w.cell? ⟨p.block, p.off + 4, none⟩ = some (.int .i64 a0_4) := (HB.out.cell (p := ⟨p.block, p.off + 4, none⟩) HLP.out).trans HXP_4.out; have hcz22_5 : w.cell? ⟨p.block, p.off + 5, none⟩ = some (.int .i64 a0_5) := (HB.out.cell (p := ⟨p.block, p.off + 5, none⟩) HLP.out).trans HXP_5.out; have hcz22_6 : w.cell? ⟨p.block, p.off + 6, none⟩ = some (.int .i64 a0_6) := (HB.out.cell (p := ⟨p.block, p.off + 6, none⟩) HLP.out).trans HXP_6.out; have hcz22_7 : w.cell? ⟨p.block, p.off + 7, none⟩ = some (.int .i64 a0_7) := (HB.out.cell (p := ⟨p.block, p.off + 7, none⟩) HLP.out).trans HXP_7.out; have hcz22_8 : w.cell? ⟨p.block, p.off + 8, none⟩ = some (.int .i64 a0_8) := (HB.out.cell (p := ⟨p.block, p.off + 8, none⟩) HLP.out).trans HXP_8.out; have hcz22_9 : w.cell? ⟨p.block, p.off + 9, none⟩ = some (.slice A0_9 l0_9.length c0_9) := (HB.out.cell (p := ⟨p.block, p.off + 9, none⟩) HLP.out).trans HXP_9.out
       go_enter Try.func63, Try.ntmps63
       go_wp2
       go_ret
       exact ⟨eq_a, below_a⟩
    ·
     rw [if_neg c15] at H; have c15b0 : (a0_3 == 0 && (a0_4 == 0 && (a0_5 == 0 && (a0_6 == 0)))) = false := by simpa using c15
     (try (have c15b1 : decide (a0_3 = 0 && (a0_4 == 0 && (a0_5 == 0 && (a0_6 == 0)))) = false := by simpa using c15)); (try (have c15b2 : (a0_3 == 0 && (a0_4 == 0 && (a0_5 == 0 && (a0_6 == 0)))) = false := by simpa using c15)); (try (have c15b3 : ¬ (a0_3 = 0 && (a0_4 == 0 && (a0_5 == 0 && (a0_6 == 0)))) := by simpa using c15)); clear c15; obtain rfl := Option.some.inj H; have hcz23_0 : w.cell? p = some (.int .i64 a0_0) := (HB.out.cell (p := p) HLP.out).trans HXP_0.out; have hcz23_1 : w.cell? ⟨p.block, p.off + 1, none⟩ = some (.int .i64 a0_1) := (HB.out.cell (p := ⟨p.block, p.off + 1, none⟩) HLP.out).trans HXP_1.out; have hcz23_2 : w.cell? ⟨p.block, p.off + 2, none⟩ = some (.int .i64 a0_2) := (HB.out.cell (p := ⟨p.block, p.off + 2, none⟩) HLP.out).trans HXP_2.out; have hcz23_3 : w.cell? ⟨p.block, p.off + 3, none⟩ = some (.int .i64 a0_3) := (HB.out.cell (p := ⟨p.block, p.off + 3, none⟩) HLP.out).trans HXP_3.out; have hcz23_4 : w.cell? ⟨p.block, p.off + 4, none⟩ = some (.int .i64 a0_4) := (HB.out.cell (p := ⟨p.block, p.off + 4, none⟩) HLP.out).trans HXP_4.out; have hcz23_5 : w.cell? ⟨p.block, p.off + 5, none⟩ = some (.int .i64 a0_5) := (HB.out.cell (p := ⟨p.block, p.off + 5, none⟩) HLP.out).trans HXP_5.out; have hcz23_6 : w.cell? ⟨p.block, p.off + 6, none⟩ = some (.int .i64 a0_6) := (HB.out.cell (p := ⟨p.block, p.off + 6, none⟩) HLP.out).trans HXP_6.out; have hcz23_7 : w.cell? ⟨p.block, p.off + 7, none⟩ = some (.int .i64 a0_7) := (HB.out.cell (p := ⟨p.block, p.off + 7, none⟩) HLP.out).trans HXP_7.out; have hcz23_8 : w.cell? ⟨p.block, p.off + 8, none⟩ = some (.int .i64 a0_8) := (HB.out.cell (p := ⟨p.block, p.off + 8, none⟩) HLP.out).trans HXP_8.out; have hcz23_9 : w.cell? ⟨p.block, p.off + 9, none⟩ = some (.slice A0_9 l0_9.length c0_9) := (HB.out.cell (p := ⟨p.block, p.off + 9, none⟩) HLP.out).trans HXP_9.out
     go_enter Try.func63, Try.ntmps63
     go_wp2
     go_ret
     exact ⟨eq_a, below_a⟩
  ·
   replace c7 := Bool.eq_false_iff.mpr c7; subst c7; have H1 : (if a0_2 = 0 then (if a3 = true then (if a4 = true then (some true) else (if a0_7 = 0 then (if a0_8 = 0 then (some ((l0_9.length : Int) == 0)) else (some false)) else (some false))) else (if (a0_3 == 0 && (a0_4 == 0 && (a0_5 == 0 && (a0_6 == 0)))) = true then (if a4 = true then (some true) else (if a0_7 = 0 then (if a0_8 = 0 then (some ((l0_9.length : Int) == 0)) else (some false)) else (some false))) else (some false))) else (some false)) = some r := by rw [if_neg (show ¬ (false = true) by decide)] at H; exact H
   clear H; have H := H1; clear H1
   by_cases c24 : a0_2 = 0
   ·
    rw [if_pos c24] at H; have c24b0 : (a0_2 == 0) = true := beq_iff_eq.mpr c24; have c24b1 : (a0_2 != 0) = false := bne_eq_false_iff_eq.mpr c24; clear c24
    by_cases c25 : a3 = true
    ·
     subst c25; have H1 : (if a4 = true then (some true) else (if a0_7 = 0 then (if a0_8 = 0 then (some ((l0_9.length : Int) == 0)) else (some false)) else (some false))) = some r := by rw [if_pos rfl] at H; exact H
     clear H; have H := H1; clear H1
     by_cases c26 : a4 = true
     ·
      subst c26; have H1 : (some true) = some r := by rw [if_pos rfl] at H; exact H
      clear H; have H := H1; clear H1; obtain rfl := Option.some.inj H; have hcz27_0 : w.cell? p = some (.int .i64 a0_0) := (HB.out.cell (p := p) HLP.out).trans HXP_0.out; have hcz27_1 : w.cell? ⟨p.block, p.off + 1, none⟩ = some (.int .i64 a0_1) := (HB.out.cell (p := ⟨p.block, p.off + 1, none⟩) HLP.out).trans HXP_1.out; have hcz27_2 : w.cell? ⟨p.block, p.off + 2, none⟩ = some (.int .i64 a0_2) := (HB.out.cell (p := ⟨p.block, p.off + 2, none⟩) HLP.out).trans HXP_2.out; have hcz27_3 : w.cell? ⟨p.block, p.off + 3, none⟩ = some (.int .i64 a0_3) := (HB.out.cell (p := ⟨p.block, p.off + 3, none⟩) HLP.out).trans HXP_3.out; have hcz27_4 : w.cell? ⟨p.block, p.off + 4, none⟩ = some (.int .i64 a0_4) := (HB.out.cell (p := ⟨p.block, p.off + 4, none⟩) HLP.out).trans HXP_4.out; have hcz27_5 : w.cell? ⟨p.block, p.off + 5, none⟩ = some (.int .i64 a0_5) := (HB.out.cell (p := ⟨p.block, p.off + 5, none⟩) HLP.out).trans HXP_5.out; have hcz27_6 : w.cell? ⟨p.block, p.off + 6, none⟩ = some (.int .i64 a0_6) := (HB.out.cell (p := ⟨p.block, p.off + 6, none⟩) HLP.out).trans HXP_6.out; have hcz27_7 : w.cell? ⟨p.block, p.off + 7, none⟩ = some (.int .i64 a0_7) := (HB.out.cell (p := ⟨p.block, p.off + 7, none⟩) HLP.out).trans HXP_7.out; have hcz27_8 : w.cell? ⟨p.block, p.off + 8, none⟩ = some (.int .i64 a0_8) := (HB.out.cell (p := ⟨p.block, p.off + 8, none⟩) HLP.out).trans HXP_8.out; have hcz27_9 : w.cell? ⟨p.block, p.off + 9, none⟩ = some (.slice A0_9 l0_9.length c0_9) := (HB.out.cell (p := ⟨p.block, p.off + 9, none⟩) HLP.out).trans HXP_9.out
      go_enter Try.func63, Try.ntmps63
      go_wp2
      go_ret
      exact ⟨eq_a, below_a⟩
     ·
      replace c26 := Bool.eq_false_iff.mpr c26; subst c26; have H1 : (if a0_7 = 0 then (if a0_8 = 0 then (some ((l0_9.length : Int) == 0)) else (some false)) else (some false)) = some r := by rw [if_neg (show ¬ (false = true) by decide)] at H; exact H
      clear H; have H := H1; clear H1
      by_cases c28 : a0_7 = 0
      ·
       rw [if_pos c28] at H; have c28b0 : (a0_7 == 0) = true := beq_iff_eq.mpr c28; have c28b1 : (a0_7 != 0) = false := bne_eq_false_iff_eq.mpr c28; clear c28
       by_cases c29 : a0_8 = 0
       ·
        rw [if_pos c29] at H; have c29b0 : (a0_8 == 0) = true := beq_iff_eq.mpr c29; have c29b1 : (a0_8 != 0) = false := bne_eq_false_iff_eq.mpr c29; clear c29; obtain rfl := Option.some.inj H; have hcz30_0 : w.cell? p = some (.int .i64 a0_0) := (HB.out.cell (p := p) HLP.out).trans HXP_0.out; have hcz30_1 : w.cell? ⟨p.block, p.off + 1, none⟩ = some (.int .i64 a0_1) := (HB.out.cell (p := ⟨p.block, p.off + 1, none⟩) HLP.out).trans HXP_1.out; have hcz30_2 : w.cell? ⟨p.block, p.off + 2, none⟩ = some (.int .i64 a0_2) := (HB.out.cell (p := ⟨p.block, p.off + 2, none⟩) HLP.out).trans HXP_2.out; have hcz30_3 : w.cell? ⟨p.block, p.off + 3, none⟩ = some (.int .i64 a0_3) := (HB.out.cell (p := ⟨p.block, p.off + 3, none⟩) HLP.out).trans HXP_3.out; have hcz30_4 : w.cell? ⟨p.block, p.off + 4, none⟩ = some (.int .i64 a0_4) := (HB.out.cell (p := ⟨p.block, p.off + 4, none⟩) HLP.out).trans HXP_4.out; have hcz30_5 : w.cell? ⟨p.block, p.off + 5, none⟩ = some (.int .i64 a0_5) := (HB.out.cell (p := ⟨p.block, p.off + 5, none⟩) HLP.out).trans HXP_5.out; have hcz30_6 : w.cell? ⟨p.block, p.off + 6, none⟩ = some (.int .i64 a0_6) := (HB.out.cell (p := ⟨p.block, p.off + 6, none⟩) HLP.out).trans HXP_6.out; have hcz30_7 : w.cell? ⟨p.block, p.off + 7, none⟩ = some (.int .i64 a0_7) := (HB.out.cell (p := ⟨p.block, p.off + 7, none⟩) HLP.out).trans HXP_7.out; have hcz30_8 : w.cell? ⟨p.block, p.off + 8, none⟩ = some (.int .i64 a0_8) := (HB.out.cell (p := ⟨p.block, p.off + 8, none⟩) HLP.out).trans HXP_8.out; have hcz30_9 : w.cell? ⟨p.block, p.off + 9, none⟩ = some (.slice A0_9 l0_9.length c0_9) := (HB.out.cell (p := ⟨p.block, p.off + 9, none⟩) HLP.out).trans HXP_9.out
        go_enter Try.func63, Try.ntmps63
        go_wp2
        go_ret
        exact ⟨eq_a, below_a⟩
       ·
        rw [if_neg c29] at H; have c29b0 : (a0_8 == 0) = false := beq_eq_false_iff_ne.mpr c29; have c29b1 : (a0_8 != 0) = true := bne_iff_ne.mpr c29; obtain rfl := Option.some.inj H; have hcz31_0 : w.cell? p = some (.int .i64 a0_0) := (HB.out.cell (p := p) HLP.out).trans HXP_0.out; have hcz31_1 : w.cell? ⟨p.block, p.off + 1, none⟩ = some (.int .i64 a0_1) := (HB.out.cell (p := ⟨p.block, p.off + 1, none⟩) HLP.out).trans HXP_1.out; have hcz31_2 : w.cell? ⟨p.block, p.off + 2, none⟩ = some (.int .i64 a0_2) := (HB.out.cell (p := ⟨p.block, p.off + 2, none⟩) HLP.out).trans HXP_2.out; have hcz31_3 : w.cell? ⟨p.block, p.off + 3, none⟩ = some (.int .i64 a0_3) := (HB.out.cell (p := ⟨p.block, p.off + 3, none⟩) HLP.out).trans HXP_3.out; have hcz31_4 : w.cell? ⟨p.block, p.off + 4, none⟩ = some (.int .i64 a0_4) := (HB.out.cell (p := ⟨p.block, p.off + 4, none⟩) HLP.out).trans HXP_4.out; have hcz31_5 : w.cell? ⟨p.block, p.off + 5, none⟩ = some (.int .i64 a0_5) := (HB.out.cell (p := ⟨p.block, p.off + 5, none⟩) HLP.out).trans HXP_5.out; have hcz31_6 : w.cell? ⟨p.block, p.off + 6, none⟩ = some (.int .i64 a0_6) := (HB.out.cell (p := ⟨p.block, p.off + 6, none⟩) HLP.out).trans HXP_6.out; have hcz31_7 : w.cell? ⟨p.block, p.off + 7, none⟩ = some (.int .i64 a0_7) := (HB.out.cell (p := ⟨p.block, p.off + 7, none⟩) HLP.out).trans HXP_7.out; have hcz31_8 : w.cell? ⟨p.block, p.off + 8, none⟩ = some (.int .i64 a0_8) := (HB.out.cell (p := ⟨p.block, p.off + 8, none⟩) HLP.out).trans HXP_8.out; have hcz31_9 : w.cell? ⟨p.block, p.off + 9, none⟩ = some (.slice A0_9 l0_9.length c0_9) := (HB.out.cell (p := ⟨p.block, p.off + 9, none⟩) HLP.out).trans HXP_9.out
        go_enter Try.func63, Try.ntmps63
        go_wp2
        go_ret
        exact ⟨eq_a, below_a⟩
      ·
       rw [if_neg c28] at H; have c28b0 : (a0_7 == 0) = false := beq_eq_false_iff_ne.mpr c28; have c28b1 : (a0_7 != 0) = true := bne_iff_ne.mpr c28; obtain rfl := Option.some.inj H; have hcz32_0 : w.cell? p = some (.int .i64 a0_0) := (HB.out.cell (p := p) HLP.out).trans HXP_0.out; have hcz32_1 : w.cell? ⟨p.block, p.off + 1, none⟩ = some (.int .i64 a0_1) := (HB.out.cell (p := ⟨p.block, p.off + 1, none⟩) HLP.out).trans HXP_1.out; have hcz32_2 : w.cell? ⟨p.block, p.off + 2, none⟩ = some (.int .i64 a0_2) := (HB.out.cell (p := ⟨p.block, p.off + 2, none⟩) HLP.out).trans HXP_2.out; have hcz32_3 : w.cell? ⟨p.block, p.off + 3, none⟩ = some (.int .i64 a0_3) := (HB.out.cell (p := ⟨p.block, p.off + 3, none⟩) HLP.out).trans HXP_3.out; have hcz32_4 : w.cell? ⟨p.block, p.off + 4, none⟩ = some (.int .i64 a0_4) := (HB.out.cell (p := ⟨p.block, p.off + 4, none⟩) HLP.out).trans HXP_4.out; have hcz32_5 : w.cell? ⟨p.block, p.off + 5, none⟩ = some (.int .i64 a0_5) := (HB.out.cell (p := ⟨p.block, p.off + 5, none⟩) HLP.out).trans HXP_5.out; have hcz32_6 : w.cell? ⟨p.block, p.off + 6, none⟩ = some (.int .i64 a0_6) := (HB.out.cell (p := ⟨p.block, p.off + 6, none⟩) HLP.out).trans HXP_6.out; have hcz32_7 : w.cell? ⟨p.block, p.off + 7, none⟩ = some (.int .i64 a0_7) := (HB.out.cell (p := ⟨p.block, p.off + 7, none⟩) HLP.out).trans HXP_7.out; have hcz32_8 : w.cell? ⟨p.block, p.off + 8, none⟩ = some (.int .i64 a0_8) := (HB.out.cell (p := ⟨p.block, p.off + 8, none⟩) HLP.out).trans HXP_8.out; have hcz32_9 : w.cell? ⟨p.block, p.off + 9, none⟩ = some (.slice A0_9 l0_9.length c0_9) := (HB.out.cell (p := ⟨p.block, p.off + 9, none⟩) HLP.out).trans HXP_9.out
       go_enter Try.func63, Try.ntmps63
       go_wp2
       go_ret
       exact ⟨eq_a, below_a⟩
    ·
     replace c25 := Bool.eq_false_iff.mpr c25; subst c25; have H1 : (if (a0_3 == 0 && (a0_4 == 0 && (a0_5 == 0 && (a0_6 == 0)))) = true then (if a4 = true then (some true) else (if a0_7 = 0 then (if a0_8 = 0 then (some ((l0_9.length : Int) == 0)) else (some false)) else (some false))) else (some false)) = some r := by rw [if_neg (show ¬ (false = true) by decide)] at H; exact H
     clear H; have H := H1; clear H1
     by_cases c33 : (a0_3 == 0 && (a0_4 == 0 && (a0_5 == 0 && (a0_6 == 0)))) = true
     ·
      rw [if_pos c33] at H; have c33b0 : (a0_3 == 0 && (a0_4 == 0 && (a0_5 == 0 && (a0_6 == 0)))) = true := c33; (try (have c33d := c33b0; simp only [Bool.and_eq_true] at c33d; obtain ⟨c33d0, c33d1, c33d2, c33d3⟩ := c33d)); (try (have c33b1 : decide (a0_3 = 0 && (a0_4 == 0 && (a0_5 == 0 && (a0_6 == 0)))) = true := by simpa using c33)); (try (have c33b2 : (a0_3 == 0 && (a0_4 == 0 && (a0_5 == 0 && (a0_6 == 0)))) = true := by simpa using c33)); clear c33
      by_cases c34 : a4 = true
      ·
       subst c34; have H1 : (some true) = some r := by rw [if_pos rfl] at H; exact H
       clear H; have H := H1; clear H1; obtain rfl := Option.some.inj H; have hcz35_0 : w.cell? p = some (.int .i64 a0_0) := (HB.out.cell (p := p) HLP.out).trans HXP_0.out; have hcz35_1 : w.cell? ⟨p.block, p.off + 1, none⟩ = some (.int .i64 a0_1) := (HB.out.cell (p := ⟨p.block, p.off + 1, none⟩) HLP.out).trans HXP_1.out; have hcz35_2 : w.cell? ⟨p.block, p.off + 2, none⟩ = some (.int .i64 a0_2) := (HB.out.cell (p := ⟨p.block, p.off + 2, none⟩) HLP.out).trans HXP_2.out; have hcz35_3 : w.cell? ⟨p.block, p.off + 3, none⟩ = some (.int .i64 a0_3) := (HB.out.cell (p := ⟨p.block, p.off + 3, none⟩) HLP.out).trans HXP_3.out; have hcz35_4 : w.cell? ⟨p.block, p.off + 4, none⟩ = some (.int .i64 a0_4) := (HB.out.cell (p := ⟨p.block, p.off + 4, none⟩) HLP.out).trans HXP_4.out; have hcz35_5 : w.cell? ⟨p.block, p.off + 5, none⟩ = some (.int .i64 a0_5) := (HB.out.cell (p := ⟨p.block, p.off + 5, none⟩) HLP.out).trans HXP_5.out; have hcz35_6 : w.cell? ⟨p.block, p.off + 6, none⟩ = some (.int .i64 a0_6) := (HB.out.cell (p := ⟨p.block, p.off + 6, none⟩) HLP.out).trans HXP_6.out; have hcz35_7 : w.cell? ⟨p.block, p.off + 7, none⟩ = some (.int .i64 a0_7) := (HB.out.cell (p := ⟨p.block, p.off + 7, none⟩) HLP.out).trans HXP_7.out; have hcz35_8 : w.cell? ⟨p.block, p.off + 8, none⟩ = some (.int .i64 a0_8) := (HB.out.cell (p := ⟨p.block, p.off + 8, none⟩) HLP.out).trans HXP_8.out; have hcz35_9 : w.cell? ⟨p.block, p.off + 9, none⟩ = some (.slice A0_9 l0_9.length c0_9) := (HB.out.cell (p := ⟨p.block, p.off + 9, none⟩) HLP.out).trans HXP_9.out
       go_enter Try.func63, Try.ntmps63
       go_wp2
       go_ret
       exact ⟨eq_a, below_a⟩
      ·
       replace c34 := Bool.eq_false_iff.mpr c34; subst c34; have H1 : (if a0_7 = 0 then (if a0_8 = 0 then (some ((l0_9.length : Int) == 0)) else (some false)) else (some false)) = some r := by rw [if_neg (show ¬ (false = true) by decide)] at H; exact H
       clear H; have H := H1; clear H1
       by_cases c36 : a0_7 = 0
       ·
        rw [if_pos c36] at H; have c36b0 : (a0_7 == 0) = true := beq_iff_eq.mpr c36; have c36b1 : (a0_7 != 0) = false := bne_eq_false_iff_eq.mpr c36; clear c36
        by_cases c37 : a0_8 = 0
        ·
         rw [if_pos c37] at H; have c37b0 : (a0_8 == 0) = true := beq_iff_eq.mpr c37; have c37b1 : (a0_8 != 0) = false := bne_eq_false_iff_eq.mpr c37; clear c37; obtain rfl := Option.some.inj H; have hcz38_0 : w.cell? p = some (.int .i64 a0_0) := (HB.out.cell (p := p) HLP.out).trans HXP_0.out; have hcz38_1 : w.cell? ⟨p.block, p.off + 1, none⟩ = some (.int .i64 a0_1) := (HB.out.cell (p := ⟨p.block, p.off + 1, none⟩) HLP.out).trans HXP_1.out; have hcz38_2 : w.cell? ⟨p.block, p.off + 2, none⟩ = some (.int .i64 a0_2) := (HB.out.cell (p := ⟨p.block, p.off + 2, none⟩) HLP.out).trans HXP_2.out; have hcz38_3 : w.cell? ⟨p.block, p.off + 3, none⟩ = some (.int .i64 a0_3) := (HB.out.cell (p := ⟨p.block, p.off + 3, none⟩) HLP.out).trans HXP_3.out; have hcz38_4 : w.cell? ⟨p.block, p.off + 4, none⟩ = some (.int .i64 a0_4) := (HB.out.cell (p := ⟨p.block, p.off + 4, none⟩) HLP.out).trans HXP_4.out; have hcz38_5 : w.cell? ⟨p.block, p.off + 5, none⟩ = some (.int .i64 a0_5) := (HB.out.cell (p := ⟨p.block, p.off + 5, none⟩) HLP.out).trans HXP_5.out; have hcz38_6 : w.cell? ⟨p.block, p.off + 6, none⟩ = some (.int .i64 a0_6) := (HB.out.cell (p := ⟨p.block, p.off + 6, none⟩) HLP.out).trans HXP_6.out; have hcz38_7 : w.cell? ⟨p.block, p.off + 7, none⟩ = some (.int .i64 a0_7) := (HB.out.cell (p := ⟨p.block, p.off + 7, none⟩) HLP.out).trans HXP_7.out; have hcz38_8 : w.cell? ⟨p.block, p.off + 8, none⟩ = some (.int .i64 a0_8) := (HB.out.cell (p := ⟨p.block, p.off + 8, none⟩) HLP.out).trans HXP_8.out; have hcz38_9 : w.cell? ⟨p.block, p.off + 9, none⟩ = some (.slice A0_9 l0_9.length c0_9) := (HB.out.cell (p := ⟨p.block, p.off + 9, none⟩) HLP.out).trans HXP_9.out
         go_enter Try.func63, Try.ntmps63
         go_wp2
         go_ret
         exact ⟨eq_a, below_a⟩
        ·
         rw [if_neg c37] at H; have c37b0 : (a0_8 == 0) = false := beq_eq_false_iff_ne.mpr c37; have c37b1 : (a0_8 != 0) = true := bne_iff_ne.mpr c37; obtain rfl := Option.some.inj H; have hcz39_0 : w.cell? p = some (.int .i64 a0_0) := (HB.out.cell (p := p) HLP.out).trans HXP_0.out; have hcz39_1 : w.cell? ⟨p.block, p.off + 1, none⟩ = some (.int .i64 a0_1) := (HB.out.cell (p := ⟨p.block, p.off + 1, none⟩) HLP.out).trans HXP_1.out; have hcz39_2 : w.cell? ⟨p.block, p.off + 2, none⟩ = some (.int .i64 a0_2) := (HB.out.cell (p := ⟨p.block, p.off + 2, none⟩) HLP.out).trans HXP_2.out; have hcz39_3 : w.cell? ⟨p.block, p.off + 3, none⟩ = some (.int .i64 a0_3) := (HB.out.cell (p := ⟨p.block, p.off + 3, none⟩) HLP.out).trans HXP_3.out; have hcz39_4 : w.cell? ⟨p.block, p.off + 4, none⟩ = some (.int .i64 a0_4) := (HB.out.cell (p := ⟨p.block, p.off + 4, none⟩) HLP.out).trans HXP_4.out; have hcz39_5 : w.cell? ⟨p.block, p.off + 5, none⟩ = some (.int .i64 a0_5) := (HB.out.cell (p := ⟨p.block, p.off + 5, none⟩) HLP.out).trans HXP_5.out; have hcz39_6 : w.cell? ⟨p.block, p.off + 6, none⟩ = some (.int .i64 a0_6) := (HB.out.cell (p := ⟨p.block, p.off + 6, none⟩) HLP.out).trans HXP_6.out; have hcz39_7 : w.cell? ⟨p.block, p.off + 7, none⟩ = some (.int .i64 a0_7) := (HB.out.cell (p := ⟨p.block, p.off + 7, none⟩) HLP.out).trans HXP_7.out; have hcz39_8 : w.cell? ⟨p.block, p.off + 8, none⟩ = some (.int .i64 a0_8) := (HB.out.cell (p := ⟨p.block, p.off + 8, none⟩) HLP.out).trans HXP_8.out; have hcz39_9 : w.cell? ⟨p.block, p.off + 9, none⟩ = some (.slice A0_9 l0_9.length c0_9) := (HB.out.cell (p := ⟨p.block, p.off + 9, none⟩) HLP.out).trans HXP_9.out
         go_enter Try.func63, Try.ntmps63
         go_wp2
         go_ret
         exact ⟨eq_a, below_a⟩
       ·
        rw [if_neg c36] at H; have c36b0 : (a0_7 == 0) = false := beq_eq_false_iff_ne.mpr c36; have c36b1 : (a0_7 != 0) = true := bne_iff_ne.mpr c36; obtain rfl := Option.some.inj H; have hcz40_0 : w.cell? p = some (.int .i64 a0_0) := (HB.out.cell (p := p) HLP.out).trans HXP_0.out; have hcz40_1 : w.cell? ⟨p.block, p.off + 1, none⟩ = some (.int .i64 a0_1) := (HB.out.cell (p := ⟨p.block, p.off + 1, none⟩) HLP.out).trans HXP_1.out; have hcz40_2 : w.cell? ⟨p.block, p.off + 2, none⟩ = some (.int .i64 a0_2) := (HB.out.cell (p := ⟨p.block, p.off + 2, none⟩) HLP.out).trans HXP_2.out; have hcz40_3 : w.cell? ⟨p.block, p.off + 3, none⟩ = some (.int .i64 a0_3) := (HB.out.cell (p := ⟨p.block, p.off + 3, none⟩) HLP.out).trans HXP_3.out; have hcz40_4 : w.cell? ⟨p.block, p.off + 4, none⟩ = some (.int .i64 a0_4) := (HB.out.cell (p := ⟨p.block, p.off + 4, none⟩) HLP.out).trans HXP_4.out; have hcz40_5 : w.cell? ⟨p.block, p.off + 5, none⟩ = some (.int .i64 a0_5) := (HB.out.cell (p := ⟨p.block, p.off + 5, none⟩) HLP.out).trans HXP_5.out; have hcz40_6 : w.cell? ⟨p.block, p.off + 6, none⟩ = some (.int .i64 a0_6) := (HB.out.cell (p := ⟨p.block, p.off + 6, none⟩) HLP.out).trans HXP_6.out; have hcz40_7 : w.cell? ⟨p.block, p.off + 7, none⟩ = some (.int .i64 a0_7) := (HB.out.cell (p := ⟨p.block, p.off + 7, none⟩) HLP.out).trans HXP_7.out; have hcz40_8 : w.cell? ⟨p.block, p.off + 8, none⟩ = some (.int .i64 a0_8) := (HB.out.cell (p := ⟨p.block, p.off + 8, none⟩) HLP.out).trans HXP_8.out; have hcz40_9 : w.cell? ⟨p.block, p.off + 9, none⟩ = some (.slice A0_9 l0_9.length c0_9) := (HB.out.cell (p := ⟨p.block, p.off + 9, none⟩) HLP.out).trans HXP_9.out
        go_enter Try.func63, Try.ntmps63
        go_wp2
        go_ret
        exact ⟨eq_a, below_a⟩
     ·
      rw [if_neg c33] at H; have c33b0 : (a0_3 == 0 && (a0_4 == 0 && (a0_5 == 0 && (a0_6 == 0)))) = false := by simpa using c33
      (try (have c33b1 : decide (a0_3 = 0 && (a0_4 == 0 && (a0_5 == 0 && (a0_6 == 0)))) = false := by simpa using c33)); (try (have c33b2 : (a0_3 == 0 && (a0_4 == 0 && (a0_5 == 0 && (a0_6 == 0)))) = false := by simpa using c33)); (try (have c33b3 : ¬ (a0_3 = 0 && (a0_4 == 0 && (a0_5 == 0 && (a0_6 == 0)))) := by simpa using c33)); clear c33; obtain rfl := Option.some.inj H; have hcz41_0 : w.cell? p = some (.int .i64 a0_0) := (HB.out.cell (p := p) HLP.out).trans HXP_0.out; have hcz41_1 : w.cell? ⟨p.block, p.off + 1, none⟩ = some (.int .i64 a0_1) := (HB.out.cell (p := ⟨p.block, p.off + 1, none⟩) HLP.out).trans HXP_1.out; have hcz41_2 : w.cell? ⟨p.block, p.off + 2, none⟩ = some (.int .i64 a0_2) := (HB.out.cell (p := ⟨p.block, p.off + 2, none⟩) HLP.out).trans HXP_2.out; have hcz41_3 : w.cell? ⟨p.block, p.off + 3, none⟩ = some (.int .i64 a0_3) := (HB.out.cell (p := ⟨p.block, p.off + 3, none⟩) HLP.out).trans HXP_3.out; have hcz41_4 : w.cell? ⟨p.block, p.off + 4, none⟩ = some (.int .i64 a0_4) := (HB.out.cell (p := ⟨p.block, p.off + 4, none⟩) HLP.out).trans HXP_4.out; have hcz41_5 : w.cell? ⟨p.block, p.off + 5, none⟩ = some (.int .i64 a0_5) := (HB.out.cell (p := ⟨p.block, p.off + 5, none⟩) HLP.out).trans HXP_5.out; have hcz41_6 : w.cell? ⟨p.block, p.off + 6, none⟩ = some (.int .i64 a0_6) := (HB.out.cell (p := ⟨p.block, p.off + 6, none⟩) HLP.out).trans HXP_6.out; have hcz41_7 : w.cell? ⟨p.block, p.off + 7, none⟩ = some (.int .i64 a0_7) := (HB.out.cell (p := ⟨p.block, p.off + 7, none⟩) HLP.out).trans HXP_7.out; have hcz41_8 : w.cell? ⟨p.block, p.off + 8, none⟩ = some (.int .i64 a0_8) := (HB.out.cell (p := ⟨p.block, p.off + 8, none⟩) HLP.out).trans HXP_8.out; have hcz41_9 : w.cell? ⟨p.block, p.off + 9, none⟩ = some (.slice A0_9 l0_9.length c0_9) := (HB.out.cell (p := ⟨p.block, p.off + 9, none⟩) HLP.out).trans HXP_9.out
      go_enter Try.func63, Try.ntmps63
      go_wp2
      go_ret
      exact ⟨eq_a, below_a⟩
   ·
    rw [if_neg c24] at H; have c24b0 : (a0_2 == 0) = false := beq_eq_false_iff_ne.mpr c24; have c24b1 : (a0_2 != 0) = true := bne_iff_ne.mpr c24; obtain rfl := Option.some.inj H; have hcz42_0 : w.cell? p = some (.int .i64 a0_0) := (HB.out.cell (p := p) HLP.out).trans HXP_0.out; have hcz42_1 : w.cell? ⟨p.block, p.off + 1, none⟩ = some (.int .i64 a0_1) := (HB.out.cell (p := ⟨p.block, p.off + 1, none⟩) HLP.out).trans HXP_1.out; have hcz42_2 : w.cell? ⟨p.block, p.off + 2, none⟩ = some (.int .i64 a0_2) := (HB.out.cell (p := ⟨p.block, p.off + 2, none⟩) HLP.out).trans HXP_2.out; have hcz42_3 : w.cell? ⟨p.block, p.off + 3, none⟩ = some (.int .i64 a0_3) := (HB.out.cell (p := ⟨p.block, p.off + 3, none⟩) HLP.out).trans HXP_3.out; have hcz42_4 : w.cell? ⟨p.block, p.off + 4, none⟩ = some (.int .i64 a0_4) := (HB.out.cell (p := ⟨p.block, p.off + 4, none⟩) HLP.out).trans HXP_4.out; have hcz42_5 : w.cell? ⟨p.block, p.off + 5, none⟩ = some (.int .i64 a0_5) := (HB.out.cell (p := ⟨p.block, p.off + 5, none⟩) HLP.out).trans HXP_5.out; have hcz42_6 : w.cell? ⟨p.block, p.off + 6, none⟩ = some (.int .i64 a0_6) := (HB.out.cell (p := ⟨p.block, p.off + 6, none⟩) HLP.out).trans HXP_6.out; have hcz42_7 : w.cell? ⟨p.block, p.off + 7, none⟩ = some (.int .i64 a0_7) := (HB.out.cell (p := ⟨p.block, p.off + 7, none⟩) HLP.out).trans HXP_7.out; have hcz42_8 : w.cell? ⟨p.block, p.off + 8, none⟩ = some (.int .i64 a0_8) := (HB.out.cell (p := ⟨p.block, p.off + 8, none⟩) HLP.out).trans HXP_8.out; have hcz42_9 : w.cell? ⟨p.block, p.off + 9, none⟩ = some (.slice A0_9 l0_9.length c0_9) := (HB.out.cell (p := ⟨p.block, p.off + 9, none⟩) HLP.out).trans HXP_9.out
    go_enter Try.func63, Try.ntmps63
    go_wp2
    go_ret
    exact ⟨eq_a, below_a⟩
 ·
  replace c6 := Bool.eq_false_iff.mpr c6; subst c6; have H1 : (if a0_1 = 0 then (if a2 = true then (if a3 = true then (if a4 = true then (some true) else (if a0_7 = 0 then (if a0_8 = 0 then (some ((l0_9.length : Int) == 0)) else (some false)) else (some false))) else (if (a0_3 == 0 && (a0_4 == 0 && (a0_5 == 0 && (a0_6 == 0)))) = true then (if a4 = true then (some true) else (if a0_7 = 0 then (if a0_8 = 0 then (some ((l0_9.length : Int) == 0)) else (some false)) else (some false))) else (some false))) else (if a0_2 = 0 then (if a3 = true then (if a4 = true then (some true) else (if a0_7 = 0 then (if a0_8 = 0 then (some ((l0_9.length : Int) == 0)) else (some false)) else (some false))) else (if (a0_3 == 0 && (a0_4 == 0 && (a0_5 == 0 && (a0_6 == 0)))) = true then (if a4 = true then (some true) else (if a0_7 = 0 then (if a0_8 = 0 then (some ((l0_9.length : Int) == 0)) else (some false)) else (some false))) else (some false))) else (some false))) else (some false)) = some r := by rw [if_neg (show ¬ (false = true) by decide)] at H; exact H
  clear H; have H := H1; clear H1
  by_cases c43 : a0_1 = 0
  ·
   rw [if_pos c43] at H; have c43b0 : (a0_1 == 0) = true := beq_iff_eq.mpr c43; have c43b1 : (a0_1 != 0) = false := bne_eq_false_iff_eq.mpr c43; clear c43
   by_cases c44 : a2 = true
   ·
    subst c44; have H1 : (if a3 = true then (if a4 = true then (some true) else (if a0_7 = 0 then (if a0_8 = 0 then (some ((l0_9.length : Int) == 0)) else (some false)) else (some false))) else (if (a0_3 == 0 && (a0_4 == 0 && (a0_5 == 0 && (a0_6 == 0)))) = true then (if a4 = true then (some true) else (if a0_7 = 0 then (if a0_8 = 0 then (some ((l0_9.length : Int) == 0)) else (some false)) else (some false))) else (some false))) = some r := by rw [if_pos rfl] at H; exact H
    clear H; have H := H1; clear H1
    by_cases c45 : a3 = true
    ·
     subst c45; have H1 : (if a4 = true then (some true) else (if a0_7 = 0 then (if a0_8 = 0 then (some ((l0_9.length : Int) == 0)) else (some false)) else (some false))) = some r := by rw [if_pos rfl] at H; exact H
     clear H; have H := H1; clear H1
     by_cases c46 : a4 = true
     ·
      subst c46; have H1 : (some true) = some r := by rw [if_pos rfl] at H; exact H
      clear H; have H := H1; clear H1; obtain rfl := Option.some.inj H; have hcz47_0 : w.cell? p = some (.int .i64 a0_0) := (HB.out.cell (p := p) HLP.out).trans HXP_0.out; have hcz47_1 : w.cell? ⟨p.block, p.off + 1, none⟩ = some (.int .i64 a0_1) := (HB.out.cell (p := ⟨p.block, p.off + 1, none⟩) HLP.out).trans HXP_1.out; have hcz47_2 : w.cell? ⟨p.block, p.off + 2, none⟩ = some (.int .i64 a0_2) := (HB.out.cell (p := ⟨p.block, p.off + 2, none⟩) HLP.out).trans HXP_2.out; have hcz47_3 : w.cell? ⟨p.block, p.off + 3, none⟩ = some (.int .i64 a0_3) := (HB.out.cell (p := ⟨p.block, p.off + 3, none⟩) HLP.out).trans HXP_3.out; have hcz47_4 : w.cell? ⟨p.block, p.off + 4, none⟩ = some (.int .i64 a0_4) := (HB.out.cell (p := ⟨p.block, p.off + 4, none⟩) HLP.out).trans HXP_4.out; have hcz47_5 : w.cell? ⟨p.block, p.off + 5, none⟩ = some (.int .i64 a0_5) := (HB.out.cell (p := ⟨p.block, p.off + 5, none⟩) HLP.out).trans HXP_5.out; have hcz47_6 : w.cell? ⟨p.block, p.off + 6, none⟩ = some (.int .i64 a0_6) := (HB.out.cell (p := ⟨p.block, p.off + 6, none⟩) HLP.out).trans HXP_6.out; have hcz47_7 : w.cell? ⟨p.block, p.off + 7, none⟩ = some (.int .i64 a0_7) := (HB.out.cell (p := ⟨p.block, p.off + 7, none⟩) HLP.out).trans HXP_7.out; have hcz47_8 : w.cell? ⟨p.block, p.off + 8, none⟩ = some (.int .i64 a0_8) := (HB.out.cell (p := ⟨p.block, p.off + 8, none⟩) HLP.out).trans HXP_8.out; have hcz47_9 : w.cell? ⟨p.block, p.off + 9, none⟩ = some (.slice A0_9 l0_9.length c0_9) := (HB.out.cell (p := ⟨p.block, p.off + 9, none⟩) HLP.out).trans HXP_9.out
      go_enter Try.func63, Try.ntmps63
      go_wp2
      go_ret
      exact ⟨eq_a, below_a⟩
     ·
      replace c46 := Bool.eq_false_iff.mpr c46; subst c46; have H1 : (if a0_7 = 0 then (if a0_8 = 0 then (some ((l0_9.length : Int) == 0)) else (some false)) else (some false)) = some r := by rw [if_neg (show ¬ (false = true) by decide)] at H; exact H
      clear H; have H := H1; clear H1
      by_cases c48 : a0_7 = 0
      ·
       rw [if_pos c48] at H; have c48b0 : (a0_7 == 0) = true := beq_iff_eq.mpr c48; have c48b1 : (a0_7 != 0) = false := bne_eq_false_iff_eq.mpr c48; clear c48
       by_cases c49 : a0_8 = 0
       ·
        rw [if_pos c49] at H; have c49b0 : (a0_8 == 0) = true := beq_iff_eq.mpr c49; have c49b1 : (a0_8 != 0) = false := bne_eq_false_iff_eq.mpr c49; clear c49; obtain rfl := Option.some.inj H; have hcz50_0 : w.cell? p = some (.int .i64 a0_0) := (HB.out.cell (p := p) HLP.out).trans HXP_0.out; have hcz50_1 : w.cell? ⟨p.block, p.off + 1, none⟩ = some (.int .i64 a0_1) := (HB.out.cell (p := ⟨p.block, p.off + 1, none⟩) HLP.out).trans HXP_1.out; have hcz50_2 : w.cell? ⟨p.block, p.off + 2, none⟩ = some (.int .i64 a0_2) := (HB.out.cell (p := ⟨p.block, p.off + 2, none⟩) HLP.out).trans HXP_2.out; have hcz50_3 : w.cell? ⟨p.block, p.off + 3, none⟩ = some (.int .i64 a0_3) := (HB.out.cell (p := ⟨p.block, p.off + 3, none⟩) HLP.out).trans HXP_3.out; have hcz50_4 : w.cell? ⟨p.block, p.off + 4, none⟩ = some (.int .i64 a0_4) := (HB.out.cell (p := ⟨p.block, p.off + 4, none⟩) HLP.out).trans HXP_4.out; have hcz50_5 : w.cell? ⟨p.block, p.off + 5, none⟩ = some (.int .i64 a0_5) := (HB.out.cell (p := ⟨p.block, p.off + 5, none⟩) HLP.out).trans HXP_5.out; have hcz50_6 : w.cell? ⟨p.block, p.off + 6, none⟩ = some (.int .i64 a0_6) := (HB.out.cell (p := ⟨p.block, p.off + 6, none⟩) HLP.out).trans HXP_6.out; have hcz50_7 : w.cell? ⟨p.block, p.off + 7, none⟩ = some (.int .i64 a0_7) := (HB.out.cell (p := ⟨p.block, p.off + 7, none⟩) HLP.out).trans HXP_7.out; have hcz50_8 : w.cell? ⟨p.block, p.off + 8, none⟩ = some (.int .i64 a0_8) := (HB.out.cell (p := ⟨p.block, p.off + 8, none⟩) HLP.out).trans HXP_8.out; have hcz50_9 : w.cell? ⟨p.block, p.off + 9, none⟩ = some (.slice A0_9 l0_9.length c0_9) := (HB.out.cell (p := ⟨p.block, p.off + 9, none⟩) HLP.out).trans HXP_9.out
        go_enter Try.func63, Try.ntmps63
        go_wp2
        go_ret
        exact ⟨eq_a, below_a⟩
       ·
        rw [if_neg c49] at H; have c49b0 : (a0_8 == 0) = false := beq_eq_false_iff_ne.mpr c49; have c49b1 : (a0_8 != 0) = true := bne_iff_ne.mpr c49; obtain rfl := Option.some.inj H; have hcz51_0 : w.cell? p = some (.int .i64 a0_0) := (HB.out.cell (p := p) HLP.out).trans HXP_0.out; have hcz51_1 : w.cell? ⟨p.block, p.off + 1, none⟩ = some (.int .i64 a0_1) := (HB.out.cell (p := ⟨p.block, p.off + 1, none⟩) HLP.out).trans HXP_1.out; have hcz51_2 : w.cell? ⟨p.block, p.off + 2, none⟩ = some (.int .i64 a0_2) := (HB.out.cell (p := ⟨p.block, p.off + 2, none⟩) HLP.out).trans HXP_2.out; have hcz51_3 : w.cell? ⟨p.block, p.off + 3, none⟩ = some (.int .i64 a0_3) := (HB.out.cell (p := ⟨p.block, p.off + 3, none⟩) HLP.out).trans HXP_3.out; have hcz51_4 : w.cell? ⟨p.block, p.off + 4, none⟩ = some (.int .i64 a0_4) := (HB.out.cell (p := ⟨p.block, p.off + 4, none⟩) HLP.out).trans HXP_4.out; have hcz51_5 : w.cell? ⟨p.block, p.off + 5, none⟩ = some (.int .i64 a0_5) := (HB.out.cell (p := ⟨p.block, p.off + 5, none⟩) HLP.out).trans HXP_5.out; have hcz51_6 : w.cell? ⟨p.block, p.off + 6, none⟩ = some (.int .i64 a0_6) := (HB.out.cell (p := ⟨p.block, p.off + 6, none⟩) HLP.out).trans HXP_6.out; have hcz51_7 : w.cell? ⟨p.block, p.off + 7, none⟩ = some (.int .i64 a0_7) := (HB.out.cell (p := ⟨p.block, p.off + 7, none⟩) HLP.out).trans HXP_7.out; have hcz51_8 : w.cell? ⟨p.block, p.off + 8, none⟩ = some (.int .i64 a0_8) := (HB.out.cell (p := ⟨p.block, p.off + 8, none⟩) HLP.out).trans HXP_8.out; have hcz51_9 : w.cell? ⟨p.block, p.off + 9, none⟩ = some (.slice A0_9 l0_9.length c0_9) := (HB.out.cell (p := ⟨p.block, p.off + 9, none⟩) HLP.out).trans HXP_9.out
        go_enter Try.func63, Try.ntmps63
        go_wp2
        go_ret
        exact ⟨eq_a, below_a⟩
      ·
       rw [if_neg c48] at H; have c48b0 : (a0_7 == 0) = false := beq_eq_false_iff_ne.mpr c48; have c48b1 : (a0_7 != 0) = true := bne_iff_ne.mpr c48; obtain rfl := Option.some.inj H; have hcz52_0 : w.cell? p = some (.int .i64 a0_0) := (HB.out.cell (p := p) HLP.out).trans HXP_0.out; have hcz52_1 : w.cell? ⟨p.block, p.off + 1, none⟩ = some (.int .i64 a0_1) := (HB.out.cell (p := ⟨p.block, p.off + 1, none⟩) HLP.out).trans HXP_1.out; have hcz52_2 : w.cell? ⟨p.block, p.off + 2, none⟩ = some (.int .i64 a0_2) := (HB.out.cell (p := ⟨p.block, p.off + 2, none⟩) HLP.out).trans HXP_2.out; have hcz52_3 : w.cell? ⟨p.block, p.off + 3, none⟩ = some (.int .i64 a0_3) := (HB.out.cell (p := ⟨p.block, p.off + 3, none⟩) HLP.out).trans HXP_3.out; have hcz52_4 : w.cell? ⟨p.block, p.off + 4, none⟩ = some (.int .i64 a0_4) := (HB.out.cell (p := ⟨p.block, p.off + 4, none⟩) HLP.out).trans HXP_4.out; have hcz52_5 : w.cell? ⟨p.block, p.off + 5, none⟩ = some (.int .i64 a0_5) := (HB.out.cell (p := ⟨p.block, p.off + 5, none⟩) HLP.out).trans HXP_5.out; have hcz52_6 : w.cell? ⟨p.block, p.off + 6, none⟩ = some (.int .i64 a0_6) := (HB.out.cell (p := ⟨p.block, p.off + 6, none⟩) HLP.out).trans HXP_6.out; have hcz52_7 : w.cell? ⟨p.block, p.off + 7, none⟩ = some (.int .i64 a0_7) := (HB.out.cell (p := ⟨p.block, p.off + 7, none⟩) HLP.out).trans HXP_7.out; have hcz52_8 : w.cell? ⟨p.block, p.off + 8, none⟩ = some (.int .i64 a0_8) := (HB.out.cell (p := ⟨p.block, p.off + 8, none⟩) HLP.out).trans HXP_8.out; have hcz52_9 : w.cell? ⟨p.block, p.off + 9, none⟩ = some (.slice A0_9 l0_9.length c0_9) := (HB.out.cell (p := ⟨p.block, p.off + 9, none⟩) HLP.out).trans HXP_9.out
       go_enter Try.func63, Try.ntmps63
       go_wp2
       go_ret
       exact ⟨eq_a, below_a⟩
    ·
     replace c45 := Bool.eq_false_iff.mpr c45; subst c45; have H1 : (if (a0_3 == 0 && (a0_4 == 0 && (a0_5 == 0 && (a0_6 == 0)))) = true then (if a4 = true then (some true) else (if a0_7 = 0 then (if a0_8 = 0 then (some ((l0_9.length : Int) == 0)) else (some false)) else (some false))) else (some false)) = some r := by rw [if_neg (show ¬ (false = true) by decide)] at H; exact H
     clear H; have H := H1; clear H1
     by_cases c53 : (a0_3 == 0 && (a0_4 == 0 && (a0_5 == 0 && (a0_6 == 0)))) = true
     ·
      rw [if_pos c53] at H; have c53b0 : (a0_3 == 0 && (a0_4 == 0 && (a0_5 == 0 && (a0_6 == 0)))) = true := c53; (try (have c53d := c53b0; simp only [Bool.and_eq_true] at c53d; obtain ⟨c53d0, c53d1, c53d2, c53d3⟩ := c53d)); (try (have c53b1 : decide (a0_3 = 0 && (a0_4 == 0 && (a0_5 == 0 && (a0_6 == 0)))) = true := by simpa using c53)); (try (have c53b2 : (a0_3 == 0 && (a0_4 == 0 && (a0_5 == 0 && (a0_6 == 0)))) = true := by simpa using c53)); clear c53
      by_cases c54 : a4 = true
      ·
       subst c54; have H1 : (some true) = some r := by rw [if_pos rfl] at H; exact H
       clear H; have H := H1; clear H1; obtain rfl := Option.some.inj H; have hcz55_0 : w.cell? p = some (.int .i64 a0_0) := (HB.out.cell (p := p) HLP.out).trans HXP_0.out; have hcz55_1 : w.cell? ⟨p.block, p.off + 1, none⟩ = some (.int .i64 a0_1) := (HB.out.cell (p := ⟨p.block, p.off + 1, none⟩) HLP.out).trans HXP_1.out; have hcz55_2 : w.cell? ⟨p.block, p.off + 2, none⟩ = some (.int .i64 a0_2) := (HB.out.cell (p := ⟨p.block, p.off + 2, none⟩) HLP.out).trans HXP_2.out; have hcz55_3 : w.cell? ⟨p.block, p.off + 3, none⟩ = some (.int .i64 a0_3) := (HB.out.cell (p := ⟨p.block, p.off + 3, none⟩) HLP.out).trans HXP_3.out; have hcz55_4 : w.cell? ⟨p.block, p.off + 4, none⟩ = some (.int .i64 a0_4) := (HB.out.cell (p := ⟨p.block, p.off + 4, none⟩) HLP.out).trans HXP_4.out; have hcz55_5 : w.cell? ⟨p.block, p.off + 5, none⟩ = some (.int .i64 a0_5) := (HB.out.cell (p := ⟨p.block, p.off + 5, none⟩) HLP.out).trans HXP_5.out; have hcz55_6 : w.cell? ⟨p.block, p.off + 6, none⟩ = some (.int .i64 a0_6) := (HB.out.cell (p := ⟨p.block, p.off + 6, none⟩) HLP.out).trans HXP_6.out; have hcz55_7 : w.cell? ⟨p.block, p.off + 7, none⟩ = some (.int .i64 a0_7) := (HB.out.cell (p := ⟨p.block, p.off + 7, none⟩) HLP.out).trans HXP_7.out; have hcz55_8 : w.cell? ⟨p.block, p.off + 8, none⟩ = some (.int .i64 a0_8) := (HB.out.cell (p := ⟨p.block, p.off + 8, none⟩) HLP.out).trans HXP_8.out; have hcz55_9 : w.cell? ⟨p.block, p.off + 9, none⟩ = some (.slice A0_9 l0_9.length c0_9) := (HB.out.cell (p := ⟨p.block, p.off + 9, none⟩) HLP.out).trans HXP_9.out
       go_enter Try.func63, Try.ntmps63
       go_wp2
       go_ret
       exact ⟨eq_a, below_a⟩
      ·
       replace c54 := Bool.eq_false_iff.mpr c54; subst c54; have H1 : (if a0_7 = 0 then (if a0_8 = 0 then (some ((l0_9.length : Int) == 0)) else (some false)) else (some false)) = some r := by rw [if_neg (show ¬ (false = true) by decide)] at H; exact H
       clear H; have H := H1; clear H1
       by_cases c56 : a0_7 = 0
       ·
        rw [if_pos c56] at H; have c56b0 : (a0_7 == 0) = true := beq_iff_eq.mpr c56; have c56b1 : (a0_7 != 0) = false := bne_eq_false_iff_eq.mpr c56; clear c56
        by_cases c57 : a0_8 = 0
        ·
         rw [if_pos c57] at H; have c57b0 : (a0_8 == 0) = true := beq_iff_eq.mpr c57; have c57b1 : (a0_8 != 0) = false := bne_eq_false_iff_eq.mpr c57; clear c57; obtain rfl := Option.some.inj H; have hcz58_0 : w.cell? p = some (.int .i64 a0_0) := (HB.out.cell (p := p) HLP.out).trans HXP_0.out; have hcz58_1 : w.cell? ⟨p.block, p.off + 1, none⟩ = some (.int .i64 a0_1) := (HB.out.cell (p := ⟨p.block, p.off + 1, none⟩) HLP.out).trans HXP_1.out; have hcz58_2 : w.cell? ⟨p.block, p.off + 2, none⟩ = some (.int .i64 a0_2) := (HB.out.cell (p := ⟨p.block, p.off + 2, none⟩) HLP.out).trans HXP_2.out; have hcz58_3 : w.cell? ⟨p.block, p.off + 3, none⟩ = some (.int .i64 a0_3) := (HB.out.cell (p := ⟨p.block, p.off + 3, none⟩) HLP.out).trans HXP_3.out; have hcz58_4 : w.cell? ⟨p.block, p.off + 4, none⟩ = some (.int .i64 a0_4) := (HB.out.cell (p := ⟨p.block, p.off + 4, none⟩) HLP.out).trans HXP_4.out; have hcz58_5 : w.cell? ⟨p.block, p.off + 5, none⟩ = some (.int .i64 a0_5) := (HB.out.cell (p := ⟨p.block, p.off + 5, none⟩) HLP.out).trans HXP_5.out; have hcz58_6 : w.cell? ⟨p.block, p.off + 6, none⟩ = some (.int .i64 a0_6) := (HB.out.cell (p := ⟨p.block, p.off + 6, none⟩) HLP.out).trans HXP_6.out; have hcz58_7 : w.cell? ⟨p.block, p.off + 7, none⟩ = some (.int .i64 a0_7) := (HB.out.cell (p := ⟨p.block, p.off + 7, none⟩) HLP.out).trans HXP_7.out; have hcz58_8 : w.cell? ⟨p.block, p.off + 8, none⟩ = some (.int .i64 a0_8) := (HB.out.cell (p := ⟨p.block, p.off + 8, none⟩) HLP.out).trans HXP_8.out; have hcz58_9 : w.cell? ⟨p.block, p.off + 9, none⟩ = some (.slice A0_9 l0_9.length c0_9) := (HB.out.cell (p := ⟨p.block, p.off + 9, none⟩) HLP.out).trans HXP_9.out
         go_enter Try.func63, Try.ntmps63
         go_wp2
         go_ret
         exact ⟨eq_a, below_a⟩
        ·
         rw [if_neg c57] at H; have c57b0 : (a0_8 == 0) = false := beq_eq_false_iff_ne.mpr c57; have c57b1 : (a0_8 != 0) = true := bne_iff_ne.mpr c57; obtain rfl := Option.some.inj H; have hcz59_0 : w.cell? p = some (.int .i64 a0_0) := (HB.out.cell (p := p) HLP.out).trans HXP_0.out; have hcz59_1 : w.cell? ⟨p.block, p.off + 1, none⟩ = some (.int .i64 a0_1) := (HB.out.cell (p := ⟨p.block, p.off + 1, none⟩) HLP.out).trans HXP_1.out; have hcz59_2 : w.cell? ⟨p.block, p.off + 2, none⟩ = some (.int .i64 a0_2) := (HB.out.cell (p := ⟨p.block, p.off + 2, none⟩) HLP.out).trans HXP_2.out; have hcz59_3 : w.cell? ⟨p.block, p.off + 3, none⟩ = some (.int .i64 a0_3) := (HB.out.cell (p := ⟨p.block, p.off + 3, none⟩) HLP.out).trans HXP_3.out; have hcz59_4 : w.cell? ⟨p.block, p.off + 4, none⟩ = some (.int .i64 a0_4) := (HB.out.cell (p := ⟨p.block, p.off + 4, none⟩) HLP.out).trans HXP_4.out; have hcz59_5 : w.cell? ⟨p.block, p.off + 5, none⟩ = some (.int .i64 a0_5) := (HB.out.cell (p := ⟨p.block, p.off + 5, none⟩) HLP.out).trans HXP_5.out; have hcz59_6 : w.cell? ⟨p.block, p.off + 6, none⟩ = some (.int .i64 a0_6) := (HB.out.cell (p := ⟨p.block, p.off + 6, none⟩) HLP.out).trans HXP_6.out; have hcz59_7 : w.cell? ⟨p.block, p.off + 7, none⟩ = some (.int .i64 a0_7) := (HB.out.cell (p := ⟨p.block, p.off + 7, none⟩) HLP.out).trans HXP_7.out; have hcz59_8 : w.cell? ⟨p.block, p.off + 8, none⟩ = some (.int .i64 a0_8) := (HB.out.cell (p := ⟨p.block, p.off + 8, none⟩) HLP.out).trans HXP_8.out; have hcz59_9 : w.cell? ⟨p.block, p.off + 9, none⟩ = some (.slice A0_9 l0_9.length c0_9) := (HB.out.cell (p := ⟨p.block, p.off + 9, none⟩) HLP.out).trans HXP_9.out
         go_enter Try.func63, Try.ntmps63
         go_wp2
         go_ret
         exact ⟨eq_a, below_a⟩
       ·
        rw [if_neg c56] at H; have c56b0 : (a0_7 == 0) = false := beq_eq_false_iff_ne.mpr c56; have c56b1 : (a0_7 != 0) = true := bne_iff_ne.mpr c56; obtain rfl := Option.some.inj H; have hcz60_0 : w.cell? p = some (.int .i64 a0_0) := (HB.out.cell (p := p) HLP.out).trans HXP_0.out; have hcz60_1 : w.cell? ⟨p.block, p.off + 1, none⟩ = some (.int .i64 a0_1) := (HB.out.cell (p := ⟨p.block, p.off + 1, none⟩) HLP.out).trans HXP_1.out; have hcz60_2 : w.cell? ⟨p.block, p.off + 2, none⟩ = some (.int .i64 a0_2) := (HB.out.cell (p := ⟨p.block, p.off + 2, none⟩) HLP.out).trans HXP_2.out; have hcz60_3 : w.cell? ⟨p.block, p.off + 3, none⟩ = some (.int .i64 a0_3) := (HB.out.cell (p := ⟨p.block, p.off + 3, none⟩) HLP.out).trans HXP_3.out; have hcz60_4 : w.cell? ⟨p.block, p.off + 4, none⟩ = some (.int .i64 a0_4) := (HB.out.cell (p := ⟨p.block, p.off + 4, none⟩) HLP.out).trans HXP_4.out; have hcz60_5 : w.cell? ⟨p.block, p.off + 5, none⟩ = some (.int .i64 a0_5) := (HB.out.cell (p := ⟨p.block, p.off + 5, none⟩) HLP.out).trans HXP_5.out; have hcz60_6 : w.cell? ⟨p.block, p.off + 6, none⟩ = some (.int .i64 a0_6) := (HB.out.cell (p := ⟨p.block, p.off + 6, none⟩) HLP.out).trans HXP_6.out; have hcz60_7 : w.cell? ⟨p.block, p.off + 7, none⟩ = some (.int .i64 a0_7) := (HB.out.cell (p := ⟨p.block, p.off + 7, none⟩) HLP.out).trans HXP_7.out; have hcz60_8 : w.cell? ⟨p.block, p.off + 8, none⟩ = some (.int .i64 a0_8) := (HB.out.cell (p := ⟨p.block, p.off + 8, none⟩) HLP.out).trans HXP_8.out; have hcz60_9 : w.cell? ⟨p.block, p.off + 9, none⟩ = some (.slice A0_9 l0_9.length c0_9) := (HB.out.cell (p := ⟨p.block, p.off + 9, none⟩) HLP.out).trans HXP_9.out
        go_enter Try.func63, Try.ntmps63
        go_wp2
        go_ret
        exact ⟨eq_a, below_a⟩
     ·
      rw [if_neg c53] at H; have c53b0 : (a0_3 == 0 && (a0_4 == 0 && (a0_5 == 0 && (a0_6 == 0)))) = false := by simpa using c53
      (try (have c53b1 : decide (a0_3 = 0 && (a0_4 == 0 && (a0_5 == 0 && (a0_6 == 0)))) = false := by simpa using c53)); (try (have c53b2 : (a0_3 == 0 && (a0_4 == 0 && (a0_5 == 0 && (a0_6 == 0)))) = false := by simpa using c53)); (try (have c53b3 : ¬ (a0_3 = 0 && (a0_4 == 0 && (a0_5 == 0 && (a0_6 == 0)))) := by simpa using c53)); clear c53; obtain rfl := Option.some.inj H; have hcz61_0 : w.cell? p = some (.int .i64 a0_0) := (HB.out.cell (p := p) HLP.out).trans HXP_0.out; have hcz61_1 : w.cell? ⟨p.block, p.off + 1, none⟩ = some (.int .i64 a0_1) := (HB.out.cell (p := ⟨p.block, p.off + 1, none⟩) HLP.out).trans HXP_1.out; have hcz61_2 : w.cell? ⟨p.block, p.off + 2, none⟩ = some (.int .i64 a0_2) := (HB.out.cell (p := ⟨p.block, p.off + 2, none⟩) HLP.out).trans HXP_2.out; have hcz61_3 : w.cell? ⟨p.block, p.off + 3, none⟩ = some (.int .i64 a0_3) := (HB.out.cell (p := ⟨p.block, p.off + 3, none⟩) HLP.out).trans HXP_3.out; have hcz61_4 : w.cell? ⟨p.block, p.off + 4, none⟩ = some (.int .i64 a0_4) := (HB.out.cell (p := ⟨p.block, p.off + 4, none⟩) HLP.out).trans HXP_4.out; have hcz61_5 : w.cell? ⟨p.block, p.off + 5, none⟩ = some (.int .i64 a0_5) := (HB.out.cell (p := ⟨p.block, p.off + 5, none⟩) HLP.out).trans HXP_5.out; have hcz61_6 : w.cell? ⟨p.block, p.off + 6, none⟩ = some (.int .i64 a0_6) := (HB.out.cell (p := ⟨p.block, p.off + 6, none⟩) HLP.out).trans HXP_6.out; have hcz61_7 : w.cell? ⟨p.block, p.off + 7, none⟩ = some (.int .i64 a0_7) := (HB.out.cell (p := ⟨p.block, p.off + 7, none⟩) HLP.out).trans HXP_7.out; have hcz61_8 : w.cell? ⟨p.block, p.off + 8, none⟩ = some (.int .i64 a0_8) := (HB.out.cell (p := ⟨p.block, p.off + 8, none⟩) HLP.out).trans HXP_8.out; have hcz61_9 : w.cell? ⟨p.block, p.off + 9, none⟩ = some (.slice A0_9 l0_9.length c0_9) := (HB.out.cell (p := ⟨p.block, p.off + 9, none⟩) HLP.out).trans HXP_9.out
      go_enter Try.func63, Try.ntmps63
      go_wp2
      go_ret
      exact ⟨eq_a, below_a⟩
   ·
    replace c44 := Bool.eq_false_iff.mpr c44; subst c44; have H1 : (if a0_2 = 0 then (if a3 = true then (if a4 = true then (some true) else (if a0_7 = 0 then (if a0_8 = 0 then (some ((l0_9.length : Int) == 0)) else (some false)) else (some false))) else (if (a0_3 == 0 && (a0_4 == 0 && (a0_5 == 0 && (a0_6 == 0)))) = true then (if a4 = true then (some true) else (if a0_7 = 0 then (if a0_8 = 0 then (some ((l0_9.length : Int) == 0)) else (some false)) else (some false))) else (some false))) else (some false)) = some r := by rw [if_neg (show ¬ (false = true) by decide)] at H; exact H
    clear H; have H := H1; clear H1
    by_cases c62 : a0_2 = 0
    ·
     rw [if_pos c62] at H; have c62b0 : (a0_2 == 0) = true := beq_iff_eq.mpr c62; have c62b1 : (a0_2 != 0) = false := bne_eq_false_iff_eq.mpr c62; clear c62
     by_cases c63 : a3 = true
     ·
      subst c63; have H1 : (if a4 = true then (some true) else (if a0_7 = 0 then (if a0_8 = 0 then (some ((l0_9.length : Int) == 0)) else (some false)) else (some false))) = some r := by rw [if_pos rfl] at H; exact H
      clear H; have H := H1; clear H1
      by_cases c64 : a4 = true
      ·
       subst c64; have H1 : (some true) = some r := by rw [if_pos rfl] at H; exact H
       clear H; have H := H1; clear H1; obtain rfl := Option.some.inj H; have hcz65_0 : w.cell? p = some (.int .i64 a0_0) := (HB.out.cell (p := p) HLP.out).trans HXP_0.out; have hcz65_1 : w.cell? ⟨p.block, p.off + 1, none⟩ = some (.int .i64 a0_1) := (HB.out.cell (p := ⟨p.block, p.off + 1, none⟩) HLP.out).trans HXP_1.out; have hcz65_2 : w.cell? ⟨p.block, p.off + 2, none⟩ = some (.int .i64 a0_2) := (HB.out.cell (p := ⟨p.block, p.off + 2, none⟩) HLP.out).trans HXP_2.out; have hcz65_3 : w.cell? ⟨p.block, p.off + 3, none⟩ = some (.int .i64 a0_3) := (HB.out.cell (p := ⟨p.block, p.off + 3, none⟩) HLP.out).trans HXP_3.out; have hcz65_4 : w.cell? ⟨p.block, p.off + 4, none⟩ = some (.int .i64 a0_4) := (HB.out.cell (p := ⟨p.block, p.off + 4, none⟩) HLP.out).trans HXP_4.out; have hcz65_5 : w.cell? ⟨p.block, p.off + 5, none⟩ = some (.int .i64 a0_5) := (HB.out.cell (p := ⟨p.block, p.off + 5, none⟩) HLP.out).trans HXP_5.out; have hcz65_6 : w.cell? ⟨p.block, p.off + 6, none⟩ = some (.int .i64 a0_6) := (HB.out.cell (p := ⟨p.block, p.off + 6, none⟩) HLP.out).trans HXP_6.out; have hcz65_7 : w.cell? ⟨p.block, p.off + 7, none⟩ = some (.int .i64 a0_7) := (HB.out.cell (p := ⟨p.block, p.off + 7, none⟩) HLP.out).trans HXP_7.out; have hcz65_8 : w.cell? ⟨p.block, p.off + 8, none⟩ = some (.int .i64 a0_8) := (HB.out.cell (p := ⟨p.block, p.off + 8, none⟩) HLP.out).trans HXP_8.out; have hcz65_9 : w.cell? ⟨p.block, p.off + 9, none⟩ = some (.slice A0_9 l0_9.length c0_9) := (HB.out.cell (p := ⟨p.block, p.off + 9, none⟩) HLP.out).trans HXP_9.out
       go_enter Try.func63, Try.ntmps63
       go_wp2
       go_ret
       exact ⟨eq_a, below_a⟩
      ·
       replace c64 := Bool.eq_false_iff.mpr c64; subst c64; have H1 : (if a0_7 = 0 then (if a0_8 = 0 then (some ((l0_9.length : Int) == 0)) else (some false)) else (some false)) = some r := by rw [if_neg (show ¬ (false = true) by decide)] at H; exact H
       clear H; have H := H1; clear H1
       by_cases c66 : a0_7 = 0
       ·
        rw [if_pos c66] at H; have c66b0 : (a0_7 == 0) = true := beq_iff_eq.mpr c66; have c66b1 : (a0_7 != 0) = false := bne_eq_false_iff_eq.mpr c66; clear c66
        by_cases c67 : a0_8 = 0
        ·
         rw [if_pos c67] at H; have c67b0 : (a0_8 == 0) = true := beq_iff_eq.mpr c67; have c67b1 : (a0_8 != 0) = false := bne_eq_false_iff_eq.mpr c67; clear c67; obtain rfl := Option.some.inj H; have hcz68_0 : w.cell? p = some (.int .i64 a0_0) := (HB.out.cell (p := p) HLP.out).trans HXP_0.out; have hcz68_1 : w.cell? ⟨p.block, p.off + 1, none⟩ = some (.int .i64 a0_1) := (HB.out.cell (p := ⟨p.block, p.off + 1, none⟩) HLP.out).trans HXP_1.out; have hcz68_2 : w.cell? ⟨p.block, p.off + 2, none⟩ = some (.int .i64 a0_2) := (HB.out.cell (p := ⟨p.block, p.off + 2, none⟩) HLP.out).trans HXP_2.out; have hcz68_3 : w.cell? ⟨p.block, p.off + 3, none⟩ = some (.int .i64 a0_3) := (HB.out.cell (p := ⟨p.block, p.off + 3, none⟩) HLP.out).trans HXP_3.out; have hcz68_4 : w.cell? ⟨p.block, p.off + 4, none⟩ = some (.int .i64 a0_4) := (HB.out.cell (p := ⟨p.block, p.off + 4, none⟩) HLP.out).trans HXP_4.out; have hcz68_5 : w.cell? ⟨p.block, p.off + 5, none⟩ = some (.int .i64 a0_5) := (HB.out.cell (p := ⟨p.block, p.off + 5, none⟩) HLP.out).trans HXP_5.out; have hcz68_6 : w.cell? ⟨p.block, p.off + 6, none⟩ = some (.int .i64 a0_6) := (HB.out.cell (p := ⟨p.block, p.off + 6, none⟩) HLP.out).trans HXP_6.out; have hcz68_7 : w.cell? ⟨p.block, p.off + 7, none⟩ = some (.int .i64 a0_7) := (HB.out.cell (p := ⟨p.block, p.off + 7, none⟩) HLP.out).trans HXP_7.out; have hcz68_8 : w.cell? ⟨p.block, p.off + 8, none⟩ = some (.int .i64 a0_8) := (HB.out.cell (p := ⟨p.block, p.off + 8, none⟩) HLP.out).trans HXP_8.out; have hcz68_9 : w.cell? ⟨p.block, p.off + 9, none⟩ = some (.slice A0_9 l0_9.length c0_9) := (HB.out.cell (p := ⟨p.block, p.off + 9, none⟩) HLP.out).trans HXP_9.out
         go_enter Try.func63, Try.ntmps63
         go_wp2
         go_ret
         exact ⟨eq_a, below_a⟩
        ·
         rw [if_neg c67] at H; have c67b0 : (a0_8 == 0) = false := beq_eq_false_iff_ne.mpr c67; have c67b1 : (a0_8 != 0) = true := bne_iff_ne.mpr c67; obtain rfl := Option.some.inj H; have hcz69_0 : w.cell? p = some (.int .i64 a0_0) := (HB.out.cell (p := p) HLP.out).trans HXP_0.out; have hcz69_1 : w.cell? ⟨p.block, p.off + 1, none⟩ = some (.int .i64 a0_1) := (HB.out.cell (p := ⟨p.block, p.off + 1, none⟩) HLP.out).trans HXP_1.out; have hcz69_2 : w.cell? ⟨p.block, p.off + 2, none⟩ = some (.int .i64 a0_2) := (HB.out.cell (p := ⟨p.block, p.off + 2, none⟩) HLP.out).trans HXP_2.out; have hcz69_3 : w.cell? ⟨p.block, p.off + 3, none⟩ = some (.int .i64 a0_3) := (HB.out.cell (p := ⟨p.block, p.off + 3, none⟩) HLP.out).trans HXP_3.out; have hcz69_4 : w.cell? ⟨p.block, p.off + 4, none⟩ = some (.int .i64 a0_4) := (HB.out.cell (p := ⟨p.block, p.off + 4, none⟩) HLP.out).trans HXP_4.out; have hcz69_5 : w.cell? ⟨p.block, p.off + 5, none⟩ = some (.int .i64 a0_5) := (HB.out.cell (p := ⟨p.block, p.off + 5, none⟩) HLP.out).trans HXP_5.out; have hcz69_6 : w.cell? ⟨p.block, p.off + 6, none⟩ = some (.int .i64 a0_6) := (HB.out.cell (p := ⟨p.block, p.off + 6, none⟩) HLP.out).trans HXP_6.out; have hcz69_7 : w.cell? ⟨p.block, p.off + 7, none⟩ = some (.int .i64 a0_7) := (HB.out.cell (p := ⟨p.block, p.off + 7, none⟩) HLP.out).trans HXP_7.out; have hcz69_8 : w.cell? ⟨p.block, p.off + 8, none⟩ = some (.int .i64 a0_8) := (HB.out.cell (p := ⟨p.block, p.off + 8, none⟩) HLP.out).trans HXP_8.out; have hcz69_9 : w.cell? ⟨p.block, p.off + 9, none⟩ = some (.slice A0_9 l0_9.length c0_9) := (HB.out.cell (p := ⟨p.block, p.off + 9, none⟩) HLP.out).trans HXP_9.out
         go_enter Try.func63, Try.ntmps63
         go_wp2
         go_ret
         exact ⟨eq_a, below_a⟩
       ·
        rw [if_neg c66] at H; have c66b0 : (a0_7 == 0) = false := beq_eq_false_iff_ne.mpr c66; have c66b1 : (a0_7 != 0) = true := bne_iff_ne.mpr c66; obtain rfl := Option.some.inj H; have hcz70_0 : w.cell? p = some (.int .i64 a0_0) := (HB.out.cell (p := p) HLP.out).trans HXP_0.out; have hcz70_1 : w.cell? ⟨p.block, p.off + 1, none⟩ = some (.int .i64 a0_1) := (HB.out.cell (p := ⟨p.block, p.off + 1, none⟩) HLP.out).trans HXP_1.out; have hcz70_2 : w.cell? ⟨p.block, p.off + 2, none⟩ = some (.int .i64 a0_2) := (HB.out.cell (p := ⟨p.block, p.off + 2, none⟩) HLP.out).trans HXP_2.out; have hcz70_3 : w.cell? ⟨p.block, p.off + 3, none⟩ = some (.int .i64 a0_3) := (HB.out.cell (p := ⟨p.block, p.off + 3, none⟩) HLP.out).trans HXP_3.out; have hcz70_4 : w.cell? ⟨p.block, p.off + 4, none⟩ = some (.int .i64 a0_4) := (HB.out.cell (p := ⟨p.block, p.off + 4, none⟩) HLP.out).trans HXP_4.out; have hcz70_5 : w.cell? ⟨p.block, p.off + 5, none⟩ = some (.int .i64 a0_5) := (HB.out.cell (p := ⟨p.block, p.off + 5, none⟩) HLP.out).trans HXP_5.out; have hcz70_6 : w.cell? ⟨p.block, p.off + 6, none⟩ = some (.int .i64 a0_6) := (HB.out.cell (p := ⟨p.block, p.off + 6, none⟩) HLP.out).trans HXP_6.out; have hcz70_7 : w.cell? ⟨p.block, p.off + 7, none⟩ = some (.int .i64 a0_7) := (HB.out.cell (p := ⟨p.block, p.off + 7, none⟩) HLP.out).trans HXP_7.out; have hcz70_8 : w.cell? ⟨p.block, p.off + 8, none⟩ = some (.int .i64 a0_8) := (HB.out.cell (p := ⟨p.block, p.off + 8, none⟩) HLP.out).trans HXP_8.out; have hcz70_9 : w.cell? ⟨p.block, p.off + 9, none⟩ = some (.slice A0_9 l0_9.length c0_9) := (HB.out.cell (p := ⟨p.block, p.off + 9, none⟩) HLP.out).trans HXP_9.out
        go_enter Try.func63, Try.ntmps63
        go_wp2
        go_ret
        exact ⟨eq_a, below_a⟩
     ·
      replace c63 := Bool.eq_false_iff.mpr c63; subst c63; have H1 : (if (a0_3 == 0 && (a0_4 == 0 && (a0_5 == 0 && (a0_6 == 0)))) = true then (if a4 = true then (some true) else (if a0_7 = 0 then (if a0_8 = 0 then (some ((l0_9.length : Int) == 0)) else (some false)) else (some false))) else (some false)) = some r := by rw [if_neg (show ¬ (false = true) by decide)] at H; exact H
      clear H; have H := H1; clear H1
      by_cases c71 : (a0_3 == 0 && (a0_4 == 0 && (a0_5 == 0 && (a0_6 == 0)))) = true
      ·
       rw [if_pos c71] at H; have c71b0 : (a0_3 == 0 && (a0_4 == 0 && (a0_5 == 0 && (a0_6 == 0)))) = true := c71; (try (have c71d := c71b0; simp only [Bool.and_eq_true] at c71d; obtain ⟨c71d0, c71d1, c71d2, c71d3⟩ := c71d)); (try (have c71b1 : decide (a0_3 = 0 && (a0_4 == 0 && (a0_5 == 0 && (a0_6 == 0)))) = true := by simpa using c71)); (try (have c71b2 : (a0_3 == 0 && (a0_4 == 0 && (a0_5 == 0 && (a0_6 == 0)))) = true := by simpa using c71)); clear c71
       by_cases c72 : a4 = true
       ·
        subst c72; have H1 : (some true) = some r := by rw [if_pos rfl] at H; exact H
        clear H; have H := H1; clear H1; obtain rfl := Option.some.inj H; have hcz73_0 : w.cell? p = some (.int .i64 a0_0) := (HB.out.cell (p := p) HLP.out).trans HXP_0.out; have hcz73_1 : w.cell? ⟨p.block, p.off + 1, none⟩ = some (.int .i64 a0_1) := (HB.out.cell (p := ⟨p.block, p.off + 1, none⟩) HLP.out).trans HXP_1.out; have hcz73_2 : w.cell? ⟨p.block, p.off + 2, none⟩ = some (.int .i64 a0_2) := (HB.out.cell (p := ⟨p.block, p.off + 2, none⟩) HLP.out).trans HXP_2.out; have hcz73_3 : w.cell? ⟨p.block, p.off + 3, none⟩ = some (.int .i64 a0_3) := (HB.out.cell (p := ⟨p.block, p.off + 3, none⟩) HLP.out).trans HXP_3.out; have hcz73_4 : w.cell? ⟨p.block, p.off + 4, none⟩ = some (.int .i64 a0_4) := (HB.out.cell (p := ⟨p.block, p.off + 4, none⟩) HLP.out).trans HXP_4.out; have hcz73_5 : w.cell? ⟨p.block, p.off + 5, none⟩ = some (.int .i64 a0_5) := (HB.out.cell (p := ⟨p.block, p.off + 5, none⟩) HLP.out).trans HXP_5.out; have hcz73_6 : w.cell? ⟨p.block, p.off + 6, none⟩ = some (.int .i64 a0_6) := (HB.out.cell (p := ⟨p.block, p.off + 6, none⟩) HLP.out).trans HXP_6.out; have hcz73_7 : w.cell? ⟨p.block, p.off + 7, none⟩ = some (.int .i64 a0_7) := (HB.out.cell (p := ⟨p.block, p.off + 7, none⟩) HLP.out).trans HXP_7.out; have hcz73_8 : w.cell? ⟨p.block, p.off + 8, none⟩ = some (.int .i64 a0_8) := (HB.out.cell (p := ⟨p.block, p.off + 8, none⟩) HLP.out).trans HXP_8.out; have hcz73_9 : w.cell? ⟨p.block, p.off + 9, none⟩ = some (.slice A0_9 l0_9.length c0_9) := (HB.out.cell (p := ⟨p.block, p.off + 9, none⟩) HLP.out).trans HXP_9.out
        go_enter Try.func63, Try.ntmps63
        go_wp2
        go_ret
        exact ⟨eq_a, below_a⟩
       ·
        replace c72 := Bool.eq_false_iff.mpr c72; subst c72; have H1 : (if a0_7 = 0 then (if a0_8 = 0 then (some ((l0_9.length : Int) == 0)) else (some false)) else (some false)) = some r := by rw [if_neg (show ¬ (false = true) by decide)] at H; exact H
        clear H; have H := H1; clear H1
        by_cases c74 : a0_7 = 0
        ·
         rw [if_pos c74] at H; have c74b0 : (a0_7 == 0) = true := beq_iff_eq.mpr c74; have c74b1 : (a0_7 != 0) = false := bne_eq_false_iff_eq.mpr c74; clear c74
         by_cases c75 : a0_8 = 0
         ·
          rw [if_pos c75] at H; have c75b0 : (a0_8 == 0) = true := beq_iff_eq.mpr c75; have c75b1 : (a0_8 != 0) = false := bne_eq_false_iff_eq.mpr c75; clear c75; obtain rfl := Option.some.inj H; have hcz76_0 : w.cell? p = some (.int .i64 a0_0) := (HB.out.cell (p := p) HLP.out).trans HXP_0.out; have hcz76_1 : w.cell? ⟨p.block, p.off + 1, none⟩ = some (.int .i64 a0_1) := (HB.out.cell (p := ⟨p.block, p.off + 1, none⟩) HLP.out).trans HXP_1.out; have hcz76_2 : w.cell? ⟨p.block, p.off + 2, none⟩ = some (.int .i64 a0_2) := (HB.out.cell (p := ⟨p.block, p.off + 2, none⟩) HLP.out).trans HXP_2.out; have hcz76_3 : w.cell? ⟨p.block, p.off + 3, none⟩ = some (.int .i64 a0_3) := (HB.out.cell (p := ⟨p.block, p.off + 3, none⟩) HLP.out).trans HXP_3.out; have hcz76_4 : w.cell? ⟨p.block, p.off + 4, none⟩ = some (.int .i64 a0_4) := (HB.out.cell (p := ⟨p.block, p.off + 4, none⟩) HLP.out).trans HXP_4.out; have hcz76_5 : w.cell? ⟨p.block, p.off + 5, none⟩ = some (.int .i64 a0_5) := (HB.out.cell (p := ⟨p.block, p.off + 5, none⟩) HLP.out).trans HXP_5.out; have hcz76_6 : w.cell? ⟨p.block, p.off + 6, none⟩ = some (.int .i64 a0_6) := (HB.out.cell (p := ⟨p.block, p.off + 6, none⟩) HLP.out).trans HXP_6.out; have hcz76_7 : w.cell? ⟨p.block, p.off + 7, none⟩ = some (.int .i64 a0_7) := (HB.out.cell (p := ⟨p.block, p.off + 7, none⟩) HLP.out).trans HXP_7.out; have hcz76_8 : w.cell? ⟨p.block, p.off + 8, none⟩ = some (.int .i64 a0_8) := (HB.out.cell (p := ⟨p.block, p.off + 8, none⟩) HLP.out).trans HXP_8.out; have hcz76_9 : w.cell? ⟨p.block, p.off + 9, none⟩ = some (.slice A0_9 l0_9.length c0_9) := (HB.out.cell (p := ⟨p.block, p.off + 9, none⟩) HLP.out).trans HXP_9.out
          go_enter Try.func63, Try.ntmps63
          go_wp2
          go_ret
          exact ⟨eq_a, below_a⟩
         ·
          rw [if_neg c75] at H; have c75b0 : (a0_8 == 0) = false := beq_eq_false_iff_ne.mpr c75; have c75b1 : (a0_8 != 0) = true := bne_iff_ne.mpr c75; obtain rfl := Option.some.inj H; have hcz77_0 : w.cell? p = some (.int .i64 a0_0) := (HB.out.cell (p := p) HLP.out).trans HXP_0.out; have hcz77_1 : w.cell? ⟨p.block, p.off + 1, none⟩ = some (.int .i64 a0_1) := (HB.out.cell (p := ⟨p.block, p.off + 1, none⟩) HLP.out).trans HXP_1.out; have hcz77_2 : w.cell? ⟨p.block, p.off + 2, none⟩ = some (.int .i64 a0_2) := (HB.out.cell (p := ⟨p.block, p.off + 2, none⟩) HLP.out).trans HXP_2.out; have hcz77_3 : w.cell? ⟨p.block, p.off + 3, none⟩ = some (.int .i64 a0_3) := (HB.out.cell (p := ⟨p.block, p.off + 3, none⟩) HLP.out).trans HXP_3.out; have hcz77_4 : w.cell? ⟨p.block, p.off + 4, none⟩ = some (.int .i64 a0_4) := (HB.out.cell (p := ⟨p.block, p.off + 4, none⟩) HLP.out).trans HXP_4.out; have hcz77_5 : w.cell? ⟨p.block, p.off + 5, none⟩ = some (.int .i64 a0_5) := (HB.out.cell (p := ⟨p.block, p.off + 5, none⟩) HLP.out).trans HXP_5.out; have hcz77_6 : w.cell? ⟨p.block, p.off + 6, none⟩ = some (.int .i64 a0_6) := (HB.out.cell (p := ⟨p.block, p.off + 6, none⟩) HLP.out).trans HXP_6.out; have hcz77_7 : w.cell? ⟨p.block, p.off + 7, none⟩ = some (.int .i64 a0_7) := (HB.out.cell (p := ⟨p.block, p.off + 7, none⟩) HLP.out).trans HXP_7.out; have hcz77_8 : w.cell? ⟨p.block, p.off + 8, none⟩ = some (.int .i64 a0_8) := (HB.out.cell (p := ⟨p.block, p.off + 8, none⟩) HLP.out).trans HXP_8.out; have hcz77_9 : w.cell? ⟨p.block, p.off + 9, none⟩ = some (.slice A0_9 l0_9.length c0_9) := (HB.out.cell (p := ⟨p.block, p.off + 9, none⟩) HLP.out).trans HXP_9.out
          go_enter Try.func63, Try.ntmps63
          go_wp2
          go_ret
          exact ⟨eq_a, below_a⟩
        ·
         rw [if_neg c74] at H; have c74b0 : (a0_7 == 0) = false := beq_eq_false_iff_ne.mpr c74; have c74b1 : (a0_7 != 0) = true := bne_iff_ne.mpr c74; obtain rfl := Option.some.inj H; have hcz78_0 : w.cell? p = some (.int .i64 a0_0) := (HB.out.cell (p := p) HLP.out).trans HXP_0.out; have hcz78_1 : w.cell? ⟨p.block, p.off + 1, none⟩ = some (.int .i64 a0_1) := (HB.out.cell (p := ⟨p.block, p.off + 1, none⟩) HLP.out).trans HXP_1.out; have hcz78_2 : w.cell? ⟨p.block, p.off + 2, none⟩ = some (.int .i64 a0_2) := (HB.out.cell (p := ⟨p.block, p.off + 2, none⟩) HLP.out).trans HXP_2.out; have hcz78_3 : w.cell? ⟨p.block, p.off + 3, none⟩ = some (.int .i64 a0_3) := (HB.out.cell (p := ⟨p.block, p.off + 3, none⟩) HLP.out).trans HXP_3.out; have hcz78_4 : w.cell? ⟨p.block, p.off + 4, none⟩ = some (.int .i64 a0_4) := (HB.out.cell (p := ⟨p.block, p.off + 4, none⟩) HLP.out).trans HXP_4.out; have hcz78_5 : w.cell? ⟨p.block, p.off + 5, none⟩ = some (.int .i64 a0_5) := (HB.out.cell (p := ⟨p.block, p.off + 5, none⟩) HLP.out).trans HXP_5.out; have hcz78_6 : w.cell? ⟨p.block, p.off + 6, none⟩ = some (.int .i64 a0_6) := (HB.out.cell (p := ⟨p.block, p.off + 6, none⟩) HLP.out).trans HXP_6.out; have hcz78_7 : w.cell? ⟨p.block, p.off + 7, none⟩ = some (.int .i64 a0_7) := (HB.out.cell (p := ⟨p.block, p.off + 7, none⟩) HLP.out).trans HXP_7.out; have hcz78_8 : w.cell? ⟨p.block, p.off + 8, none⟩ = some (.int .i64 a0_8) := (HB.out.cell (p := ⟨p.block, p.off + 8, none⟩) HLP.out).trans HXP_8.out; have hcz78_9 : w.cell? ⟨p.block, p.off + 9, none⟩ = some (.slice A0_9 l0_9.length c0_9) := (HB.out.cell (p := ⟨p.block, p.off + 9, none⟩) HLP.out).trans HXP_9.out
         go_enter Try.func63, Try.ntmps63
         go_wp2
         go_ret
         exact ⟨eq_a, below_a⟩
      ·
       rw [if_neg c71] at H; have c71b0 : (a0_3 == 0 && (a0_4 == 0 && (a0_5 == 0 && (a0_6 == 0)))) = false := by simpa using c71
       (try (have c71b1 : decide (a0_3 = 0 && (a0_4 == 0 && (a0_5 == 0 && (a0_6 == 0)))) = false := by simpa using c71)); (try (have c71b2 : (a0_3 == 0 && (a0_4 == 0 && (a0_5 == 0 && (a0_6 == 0)))) = false := by simpa using c71)); (try (have c71b3 : ¬ (a0_3 = 0 && (a0_4 == 0 && (a0_5 == 0 && (a0_6 == 0)))) := by simpa using c71)); clear c71; obtain rfl := Option.some.inj H; have hcz79_0 : w.cell? p = some (.int .i64 a0_0) := (HB.out.cell (p := p) HLP.out).trans HXP_0.out; have hcz79_1 : w.cell? ⟨p.block, p.off + 1, none⟩ = some (.int .i64 a0_1) := (HB.out.cell (p := ⟨p.block, p.off + 1, none⟩) HLP.out).trans HXP_1.out; have hcz79_2 : w.cell? ⟨p.block, p.off + 2, none⟩ = some (.int .i64 a0_2) := (HB.out.cell (p := ⟨p.block, p.off + 2, none⟩) HLP.out).trans HXP_2.out; have hcz79_3 : w.cell? ⟨p.block, p.off + 3, none⟩ = some (.int .i64 a0_3) := (HB.out.cell (p := ⟨p.block, p.off + 3, none⟩) HLP.out).trans HXP_3.out; have hcz79_4 : w.cell? ⟨p.block, p.off + 4, none⟩ = some (.int .i64 a0_4) := (HB.out.cell (p := ⟨p.block, p.off + 4, none⟩) HLP.out).trans HXP_4.out; have hcz79_5 : w.cell? ⟨p.block, p.off + 5, none⟩ = some (.int .i64 a0_5) := (HB.out.cell (p := ⟨p.block, p.off + 5, none⟩) HLP.out).trans HXP_5.out; have hcz79_6 : w.cell? ⟨p.block, p.off + 6, none⟩ = some (.int .i64 a0_6) := (HB.out.cell (p := ⟨p.block, p.off + 6, none⟩) HLP.out).trans HXP_6.out; have hcz79_7 : w.cell? ⟨p.block, p.off + 7, none⟩ = some (.int .i64 a0_7) := (HB.out.cell (p := ⟨p.block, p.off + 7, none⟩) HLP.out).trans HXP_7.out; have hcz79_8 : w.cell? ⟨p.block, p.off + 8, none⟩ = some (.int .i64 a0_8) := (HB.out.cell (p := ⟨p.block, p.off + 8, none⟩) HLP.out).trans HXP_8.out; have hcz79_9 : w.cell? ⟨p.block, p.off + 9, none⟩ = some (.slice A0_9 l0_9.length c0_9) := (HB.out.cell (p := ⟨p.block, p.off + 9, none⟩) HLP.out).trans HXP_9.out
       go_enter Try.func63, Try.ntmps63
       go_wp2
       go_ret
       exact ⟨eq_a, below_a⟩
    ·
     rw [if_neg c62] at H; have c62b0 : (a0_2 == 0) = false := beq_eq_false_iff_ne.mpr c62; have c62b1 : (a0_2 != 0) = true := bne_iff_ne.mpr c62; obtain rfl := Option.some.inj H; have hcz80_0 : w.cell? p = some (.int .i64 a0_0) := (HB.out.cell (p := p) HLP.out).trans HXP_0.out; have hcz80_1 : w.cell? ⟨p.block, p.off + 1, none⟩ = some (.int .i64 a0_1) := (HB.out.cell (p := ⟨p.block, p.off + 1, none⟩) HLP.out).trans HXP_1.out; have hcz80_2 : w.cell? ⟨p.block, p.off + 2, none⟩ = some (.int .i64 a0_2) := (HB.out.cell (p := ⟨p.block, p.off + 2, none⟩) HLP.out).trans HXP_2.out; have hcz80_3 : w.cell? ⟨p.block, p.off + 3, none⟩ = some (.int .i64 a0_3) := (HB.out.cell (p := ⟨p.block, p.off + 3, none⟩) HLP.out).trans HXP_3.out; have hcz80_4 : w.cell? ⟨p.block, p.off + 4, none⟩ = some (.int .i64 a0_4) := (HB.out.cell (p := ⟨p.block, p.off + 4, none⟩) HLP.out).trans HXP_4.out; have hcz80_5 : w.cell? ⟨p.block, p.off + 5, none⟩ = some (.int .i64 a0_5) := (HB.out.cell (p := ⟨p.block, p.off + 5, none⟩) HLP.out).trans HXP_5.out; have hcz80_6 : w.cell? ⟨p.block, p.off + 6, none⟩ = some (.int .i64 a0_6) := (HB.out.cell (p := ⟨p.block, p.off + 6, none⟩) HLP.out).trans HXP_6.out; have hcz80_7 : w.cell? ⟨p.block, p.off + 7, none⟩ = some (.int .i64 a0_7) := (HB.out.cell (p := ⟨p.block, p.off + 7, none⟩) HLP.out).trans HXP_7.out; have hcz80_8 : w.cell? ⟨p.block, p.off + 8, none⟩ = some (.int .i64 a0_8) := (HB.out.cell (p := ⟨p.block, p.off + 8, none⟩) HLP.out).trans HXP_8.out; have hcz80_9 : w.cell? ⟨p.block, p.off + 9, none⟩ = some (.slice A0_9 l0_9.length c0_9) := (HB.out.cell (p := ⟨p.block, p.off + 9, none⟩) HLP.out).trans HXP_9.out
     go_enter Try.func63, Try.ntmps63
     go_wp2
     go_ret
     exact ⟨eq_a, below_a⟩
  ·
   rw [if_neg c43] at H; have c43b0 : (a0_1 == 0) = false := beq_eq_false_iff_ne.mpr c43; have c43b1 : (a0_1 != 0) = true := bne_iff_ne.mpr c43; obtain rfl := Option.some.inj H; have hcz81_0 : w.cell? p = some (.int .i64 a0_0) := (HB.out.cell (p := p) HLP.out).trans HXP_0.out; have hcz81_1 : w.cell? ⟨p.block, p.off + 1, none⟩ = some (.int .i64 a0_1) := (HB.out.cell (p := ⟨p.block, p.off + 1, none⟩) HLP.out).trans HXP_1.out; have hcz81_2 : w.cell? ⟨p.block, p.off + 2, none⟩ = some (.int .i64 a0_2) := (HB.out.cell (p := ⟨p.block, p.off + 2, none⟩) HLP.out).trans HXP_2.out; have hcz81_3 : w.cell? ⟨p.block, p.off + 3, none⟩ = some (.int .i64 a0_3) := (HB.out.cell (p := ⟨p.block, p.off + 3, none⟩) HLP.out).trans HXP_3.out; have hcz81_4 : w.cell? ⟨p.block, p.off + 4, none⟩ = some (.int .i64 a0_4) := (HB.out.cell (p := ⟨p.block, p.off + 4, none⟩) HLP.out).trans HXP_4.out; have hcz81_5 : w.cell? ⟨p.block, p.off + 5, none⟩ = some (.int .i64 a0_5) := (HB.out.cell (p := ⟨p.block, p.off + 5, none⟩) HLP.out).trans HXP_5.out; have hcz81_6 : w.cell? ⟨p.block, p.off + 6, none⟩ = some (.int .i64 a0_6) := (HB.out.cell (p := ⟨p.block, p.off + 6, none⟩) HLP.out).trans HXP_6.out; have hcz81_7 : w.cell? ⟨p.block, p.off + 7, none⟩ = some (.int .i64 a0_7) := (HB.out.cell (p := ⟨p.block, p.off + 7, none⟩) HLP.out).trans HXP_7.out; have hcz81_8 : w.cell? ⟨p.block, p.off + 8, none⟩ = some (.int .i64 a0_8) := (HB.out.cell (p := ⟨p.block, p.off + 8, none⟩) HLP.out).trans HXP_8.out; have hcz81_9 : w.cell? ⟨p.block, p.off + 9, none⟩ = some (.slice A0_9 l0_9.length c0_9) := (HB.out.cell (p := ⟨p.block, p.off + 9, none⟩) HLP.out).trans HXP_9.out
   go_enter Try.func63, Try.ntmps63
   go_wp2
   go_ret
   exact ⟨eq_a, below_a⟩

/-! ### spec_l7Form: function 39 -/
def spec_l7Form.j0 : Nat → Int → Bool → Int → Int → Int → Int → Int → Int → Int → Int → Int → List Int → Option (Bool)
 | 0, _, _, _, _, _, _, _, _, _, _, _, _ => none
 | k + 1, x6, x7, x1000, x1001, x1002, x1003, x1004, x1005, x1006, x1007, x1008, x1009 => if x7 = true then ((spec_l7Needs.f x1000 x1001 x1002 x1003 x1004 x1005 x1006 x1007 x1008 x1009 true true false false).bind fun t173 => (some t173)) else (if x6 = 2 then ((spec_l7Needs.f x1000 x1001 x1002 x1003 x1004 x1005 x1006 x1007 x1008 x1009 true false false false).bind fun t174 => (some t174)) else (if x6 = 4 then ((spec_l7Needs.f x1000 x1001 x1002 x1003 x1004 x1005 x1006 x1007 x1008 x1009 false false true false).bind fun t175 => (some t175)) else (if x6 = 5 then ((spec_l7Needs.f x1000 x1001 x1002 x1003 x1004 x1005 x1006 x1007 x1008 x1009 false false false true).bind fun t176 => (some t176)) else (some false))))
def spec_l7Form.f (k : Nat) (a0_0 : Int) (a0_1 : Int) (a0_2 : Int) (a0_3 : Int) (a0_4 : Int) (a0_5 : Int) (a0_6 : Int) (a0_7 : Int) (a0_8 : Int) (l0_9 : List Int) : Option (Bool) := if a0_0 = 1 then (spec_l7Form.j0 k a0_0 (a0_0 == 1) a0_0 a0_1 a0_2 a0_3 a0_4 a0_5 a0_6 a0_7 a0_8 l0_9) else (spec_l7Form.j0 k a0_0 (a0_0 == 3) a0_0 a0_1 a0_2 a0_3 a0_4 a0_5 a0_6 a0_7 a0_8 l0_9)
theorem spec_l7Form.mono_l : ∀ k, (∀ y0 y1 y2 y3 y4 y5 y6 y7 y8 y9 y10 y11, LeO (spec_l7Form.j0 k y0 y1 y2 y3 y4 y5 y6 y7 y8 y9 y10 y11) (spec_l7Form.j0 (k + 1) y0 y1 y2 y3 y4 y5 y6 y7 y8 y9 y10 y11))
 | 0 => fun _ _ _ _ _ _ _ _ _ _ _ _ r h => by simp [spec_l7Form.j0] at h
 | k + 1 => by
  have ih0 := spec_l7Form.mono_l k
  ·
   intro y0 y1 y2 y3 y4 y5 y6 y7 y8 y9 y10 y11
   unfold spec_l7Form.j0
   repeat' first
   | (with_reducible exact ih0 _ _ _ _ _ _ _ _ _ _ _ _)
   | (with_reducible exact LeO.refl _)
   | (with_reducible exact LeO.none _)
   | (with_reducible refine LeO.ite ?_ ?_)
   | (with_reducible refine LeO.bind ?_ (fun _ => ?_))
   | exact ih0 _ _ _ _ _ _ _ _ _ _ _ _
   | exact LeO.none _
   | refine LeO.ite ?_ ?_
   | refine LeO.bind ?_ (fun _ => ?_)
theorem spec_l7Form.mono : ∀ a0 a1 a2 a3 a4 a5 a6 a7 a8 a9 k, LeO (spec_l7Form.f k a0 a1 a2 a3 a4 a5 a6 a7 a8 a9) (spec_l7Form.f (k + 1) a0 a1 a2 a3 a4 a5 a6 a7 a8 a9) := by
 intro a0 a1 a2 a3 a4 a5 a6 a7 a8 a9 k
 have ih0 := spec_l7Form.mono_l k
 unfold spec_l7Form.f
 repeat' first
   | (with_reducible exact ih0 _ _ _ _ _ _ _ _ _ _ _ _)
   | (with_reducible exact LeO.refl _)
   | (with_reducible exact LeO.none _)
   | (with_reducible refine LeO.ite ?_ ?_)
   | (with_reducible refine LeO.bind ?_ (fun _ => ?_))
   | exact ih0 _ _ _ _ _ _ _ _ _ _ _ _
   | exact LeO.none _
   | refine LeO.ite ?_ ?_
   | refine LeO.bind ?_ (fun _ => ?_)
set_option maxHeartbeats 8000000 in
set_option maxRecDepth 100000 in
theorem spec_l7Form.calls (k : Nat) (p : Addr) (a0_0 : Int) (a0_1 : Int) (a0_2 : Int) (a0_3 : Int) (a0_4 : Int) (a0_5 : Int) (a0_6 : Int) (a0_7 : Int) (a0_8 : Int) (A0_9 : Option Addr) (c0_9 : Nat) (l0_9 : List Int) (r : Bool) (w : World) (hr0_9 : Kd.C (Kd.int .u8) w A0_9 l0_9.length l0_9) (hc0_9 : l0_9.length ≤ c0_9) (hxp_0 : w.cell? p = some (.int .i64 a0_0)) (hxp_1 : w.cell? ⟨p.block, p.off + 1, none⟩ = some (.int .i64 a0_1)) (hxp_2 : w.cell? ⟨p.block, p.off + 2, none⟩ = some (.int .i64 a0_2)) (hxp_3 : w.cell? ⟨p.block, p.off + 3, none⟩ = some (.int .i64 a0_3)) (hxp_4 : w.cell? ⟨p.block, p.off + 4, none⟩ = some (.int .i64 a0_4)) (hxp_5 : w.cell? ⟨p.block, p.off + 5, none⟩ = some (.int .i64 a0_5)) (hxp_6 : w.cell? ⟨p.block, p.off + 6, none⟩ = some (.int .i64 a0_6)) (hxp_7 : w.cell? ⟨p.block, p.off + 7, none⟩ = some (.int .i64 a0_7)) (hxp_8 : w.cell? ⟨p.block, p.off + 8, none⟩ = some (.int .i64 a0_8)) (hxp_9 : w.cell? ⟨p.block, p.off + 9, none⟩ = some (.slice A0_9 l0_9.length c0_9)) (h : spec_l7Form.f k a0_0 a0_1 a0_2 a0_3 a0_4 a0_5 a0_6 a0_7 a0_8 l0_9 = some r) :
  Calls Try.prog 39 #[.pointer (some p)] w fun e w' => e = .returned (.bool r) ∧ Below w.heap.size w w' := by
 have HXP_0 := Aside0.mk hxp_0
 have HXP_1 := Aside0.mk hxp_1
 have HXP_2 := Aside0.mk hxp_2
 have HXP_3 := Aside0.mk hxp_3
 have HXP_4 := Aside0.mk hxp_4
 have HXP_5 := Aside0.mk hxp_5
 have HXP_6 := Aside0.mk hxp_6
 have HXP_7 := Aside0.mk hxp_7
 have HXP_8 := Aside0.mk hxp_8
 have HXP_9 := Aside0.mk hxp_9
 have HLP := Aside0.mk (show p.block < w.heap.size from World.block_lt_of_cell? w _ hxp_0)
 clear hxp_0 hxp_1 hxp_2 hxp_3 hxp_4 hxp_5 hxp_6 hxp_7 hxp_8 hxp_9
 have HR0_9 := Aside0.mk hr0_9
 have HC0_9 := Aside0.mk hc0_9
 clear hr0_9 hc0_9
 have HB := Aside0.mk (Below.refl w.heap.size w)
 have H : (if a0_0 = 1 then (spec_l7Form.j0 k a0_0 (a0_0 == 1) a0_0 a0_1 a0_2 a0_3 a0_4 a0_5 a0_6 a0_7 a0_8 l0_9) else (spec_l7Form.j0 k a0_0 (a0_0 == 3) a0_0 a0_1 a0_2 a0_3 a0_4 a0_5 a0_6 a0_7 a0_8 l0_9)) = some r := h
 clear h
 have HC2 := Aside0.mk H
 clear H
 have hcz3_0 : w.cell? p = some (.int .i64 a0_0) := (HB.out.cell (p := p) HLP.out).trans HXP_0.out
 have hcz3_1 : w.cell? ⟨p.block, p.off + 1, none⟩ = some (.int .i64 a0_1) := (HB.out.cell (p := ⟨p.block, p.off + 1, none⟩) HLP.out).trans HXP_1.out
 have hcz3_2 : w.cell? ⟨p.block, p.off + 2, none⟩ = some (.int .i64 a0_2) := (HB.out.cell (p := ⟨p.block, p.off + 2, none⟩) HLP.out).trans HXP_2.out
 have hcz3_3 : w.cell? ⟨p.block, p.off + 3, none⟩ = some (.int .i64 a0_3) := (HB.out.cell (p := ⟨p.block, p.off + 3, none⟩) HLP.out).trans HXP_3.out
 have hcz3_4 : w.cell? ⟨p.block, p.off + 4, none⟩ = some (.int .i64 a0_4) := (HB.out.cell (p := ⟨p.block, p.off + 4, none⟩) HLP.out).trans HXP_4.out
 have hcz3_5 : w.cell? ⟨p.block, p.off + 5, none⟩ = some (.int .i64 a0_5) := (HB.out.cell (p := ⟨p.block, p.off + 5, none⟩) HLP.out).trans HXP_5.out
 have hcz3_6 : w.cell? ⟨p.block, p.off + 6, none⟩ = some (.int .i64 a0_6) := (HB.out.cell (p := ⟨p.block, p.off + 6, none⟩) HLP.out).trans HXP_6.out
 have hcz3_7 : w.cell? ⟨p.block, p.off + 7, none⟩ = some (.int .i64 a0_7) := (HB.out.cell (p := ⟨p.block, p.off + 7, none⟩) HLP.out).trans HXP_7.out
 have hcz3_8 : w.cell? ⟨p.block, p.off + 8, none⟩ = some (.int .i64 a0_8) := (HB.out.cell (p := ⟨p.block, p.off + 8, none⟩) HLP.out).trans HXP_8.out
 have hcz3_9 : w.cell? ⟨p.block, p.off + 9, none⟩ = some (.slice A0_9 l0_9.length c0_9) := (HB.out.cell (p := ⟨p.block, p.off + 9, none⟩) HLP.out).trans HXP_9.out
 go_enter Try.func39, Try.ntmps39
 go_upto_if 7 with (fail)
 go_cut [7] (fun v7 wc => ∃ (kq : Nat) (x7_1 : Bool), v7 = .bool x7_1 ∧ Aside0 (spec_l7Form.j0 kq a0_0 x7_1 a0_0 a0_1 a0_2 a0_3 a0_4 a0_5 a0_6 a0_7 a0_8 l0_9 = some r) ∧ Aside0 (kq ≤ k) ∧ Aside0 (Below w.heap.size w wc))
 case first =>
  have H := HC2.out; clear HC2
  by_cases c4 : a0_0 = 1
  ·
   rw [if_pos c4] at H; have c4b0 : (a0_0 == 1) = true := beq_iff_eq.mpr c4; have c4b1 : (a0_0 != 1) = false := bne_eq_false_iff_eq.mpr c4; clear c4; (first | rw [c4b0] | (simp only [i64_w, i32_w]; rw [c4b0]) | skip); have H' := Aside0.mk H; clear H
   go_wp2
   go_meet
   case rel => exact ⟨_, ((a0_0 == 1)), eq_b, H', ⟨by first | omega | exact Nat.le_refl _⟩, ⟨below_a⟩⟩
  ·
   rw [if_neg c4] at H; have c4b0 : (a0_0 == 1) = false := beq_eq_false_iff_ne.mpr c4; have c4b1 : (a0_0 != 1) = true := bne_iff_ne.mpr c4; (first | rw [c4b0] | (simp only [i64_w, i32_w]; rw [c4b0]) | skip); have H' := Aside0.mk H; clear H
   go_wp2
   go_meet
   case rel => exact ⟨_, ((a0_0 == 3)), eq_b, H', ⟨by first | omega | exact Nat.le_refl _⟩, ⟨below_a⟩⟩
 case rest =>
  clear HC2
  try clear p2
  try clear c3
  try clear c4 c4b0 c4b1
  try clear hcz3_0 hcz3_1 hcz3_2 hcz3_3 hcz3_4 hcz3_5 hcz3_6 hcz3_7 hcz3_8 hcz3_9
  obtain ⟨kq, x7_1, rfl, HA, HJ1, HB⟩ := hcut
  cases kq with
  | zero => exact absurd HA.out (by simp [spec_l7Form.j0])
  | succ kj1 =>
   have H := HA.out; clear HA; simp only [spec_l7Form.j0] at H
   by_cases c5 : x7_1 = true
   ·
    subst c5; have H1 : ((spec_l7Needs.f a0_0 a0_1 a0_2 a0_3 a0_4 a0_5 a0_6 a0_7 a0_8 l0_9 true true false false).bind fun t173 => (some t173)) = some r := by rw [if_pos rfl] at H; exact H
    clear H; have H := H1; clear H1; replace H := Option.bind_eq_some_iff.mp H; obtain ⟨t173, A60, H⟩ := H; replace H : (some t173) = some r := H; have A6 := Aside0.mk A60; clear A60; obtain rfl := Option.some.inj H
    go_wp2_with (first | (go_at_call 63; (with_reducible refine (spec_l7Needs.calls _ a0_0 a0_1 a0_2 a0_3 a0_4 a0_5 a0_6 a0_7 a0_8 A0_9 c0_9 l0_9 true true false false t173 _ ?side1 ?side2 ?side3 ?side4 ?side5 ?side6 ?side7 ?side8 ?side9 ?side10 ?side11 ?side12 A6.out).mono ?_); (case side1 => repeat (first | exact (Kd.C_below HR0_9.out HB.out) | (with_reducible refine Kd.C_alloc ?_ _) | (with_reducible refine Kd.C_drewN ?_ _) | (with_reducible refine Kd.C_drew ?_))); (case side2 => exact HC0_9.out); (case side3 => exact ((show Below w.heap.size w _ from below_a).cell (p := p) HLP.out).trans HXP_0.out); (case side4 => exact ((show Below w.heap.size w _ from below_a).cell (p := ⟨p.block, p.off + 1, none⟩) HLP.out).trans HXP_1.out); (case side5 => exact ((show Below w.heap.size w _ from below_a).cell (p := ⟨p.block, p.off + 2, none⟩) HLP.out).trans HXP_2.out); (case side6 => exact ((show Below w.heap.size w _ from below_a).cell (p := ⟨p.block, p.off + 3, none⟩) HLP.out).trans HXP_3.out); (case side7 => exact ((show Below w.heap.size w _ from below_a).cell (p := ⟨p.block, p.off + 4, none⟩) HLP.out).trans HXP_4.out); (case side8 => exact ((show Below w.heap.size w _ from below_a).cell (p := ⟨p.block, p.off + 5, none⟩) HLP.out).trans HXP_5.out); (case side9 => exact ((show Below w.heap.size w _ from below_a).cell (p := ⟨p.block, p.off + 6, none⟩) HLP.out).trans HXP_6.out); (case side10 => exact ((show Below w.heap.size w _ from below_a).cell (p := ⟨p.block, p.off + 7, none⟩) HLP.out).trans HXP_7.out); (case side11 => exact ((show Below w.heap.size w _ from below_a).cell (p := ⟨p.block, p.off + 8, none⟩) HLP.out).trans HXP_8.out); (case side12 => exact ((show Below w.heap.size w _ from below_a).cell (p := ⟨p.block, p.off + 9, none⟩) HLP.out).trans HXP_9.out); rintro e w7 ⟨rfl, hb⟩; replace HB := Aside0.mk (below_step below_a hb); (try clear hb); (try clear hb2); (try clear hk); (try clear hi)))
    go_ret
    exact ⟨eq_a, below_a⟩
   ·
    replace c5 := Bool.eq_false_iff.mpr c5; subst c5; have H1 : (if a0_0 = 2 then ((spec_l7Needs.f a0_0 a0_1 a0_2 a0_3 a0_4 a0_5 a0_6 a0_7 a0_8 l0_9 true false false false).bind fun t174 => (some t174)) else (if a0_0 = 4 then ((spec_l7Needs.f a0_0 a0_1 a0_2 a0_3 a0_4 a0_5 a0_6 a0_7 a0_8 l0_9 false false true false).bind fun t175 => (some t175)) else (if a0_0 = 5 then ((spec_l7Needs.f a0_0 a0_1 a0_2 a0_3 a0_4 a0_5 a0_6 a0_7 a0_8 l0_9 false false false true).bind fun t176 => (some t176)) else (some false)))) = some r := by rw [if_neg (show ¬ (false = true) by decide)] at H; exact H
    clear H; have H := H1; clear H1
    by_cases c8 : a0_0 = 2
    ·
     rw [if_pos c8] at H; have c8b0 : (a0_0 == 2) = true := beq_iff_eq.mpr c8; have c8b1 : (a0_0 != 2) = false := bne_eq_false_iff_eq.mpr c8; clear c8; replace H := Option.bind_eq_some_iff.mp H; obtain ⟨t174, A90, H⟩ := H; replace H : (some t174) = some r := H; have A9 := Aside0.mk A90; clear A90; obtain rfl := Option.some.inj H
     go_wp2_with (first | (go_at_call 63; (with_reducible refine (spec_l7Needs.calls _ a0_0 a0_1 a0_2 a0_3 a0_4 a0_5 a0_6 a0_7 a0_8 A0_9 c0_9 l0_9 true false false false t174 _ ?side1 ?side2 ?side3 ?side4 ?side5 ?side6 ?side7 ?side8 ?side9 ?side10 ?side11 ?side12 A9.out).mono ?_); (case side1 => repeat (first | exact (Kd.C_below HR0_9.out HB.out) | (with_reducible refine Kd.C_alloc ?_ _) | (with_reducible refine Kd.C_drewN ?_ _) | (with_reducible refine Kd.C_drew ?_))); (case side2 => exact HC0_9.out); (case side3 => exact ((show Below w.heap.size w _ from below_a).cell (p := p) HLP.out).trans HXP_0.out); (case side4 => exact ((show Below w.heap.size w _ from below_a).cell (p := ⟨p.block, p.off + 1, none⟩) HLP.out).trans HXP_1.out); (case side5 => exact ((show Below w.heap.size w _ from below_a).cell (p := ⟨p.block, p.off + 2, none⟩) HLP.out).trans HXP_2.out); (case side6 => exact ((show Below w.heap.size w _ from below_a).cell (p := ⟨p.block, p.off + 3, none⟩) HLP.out).trans HXP_3.out); (case side7 => exact ((show Below w.heap.size w _ from below_a).cell (p := ⟨p.block, p.off + 4, none⟩) HLP.out).trans HXP_4.out); (case side8 => exact ((show Below w.heap.size w _ from below_a).cell (p := ⟨p.block, p.off + 5, none⟩) HLP.out).trans HXP_5.out); (case side9 => exact ((show Below w.heap.size w _ from below_a).cell (p := ⟨p.block, p.off + 6, none⟩) HLP.out).trans HXP_6.out); (case side10 => exact ((show Below w.heap.size w _ from below_a).cell (p := ⟨p.block, p.off + 7, none⟩) HLP.out).trans HXP_7.out); (case side11 => exact ((show Below w.heap.size w _ from below_a).cell (p := ⟨p.block, p.off + 8, none⟩) HLP.out).trans HXP_8.out); (case side12 => exact ((show Below w.heap.size w _ from below_a).cell (p := ⟨p.block, p.off + 9, none⟩) HLP.out).trans HXP_9.out); rintro e w10 ⟨rfl, hb⟩; replace HB := Aside0.mk (below_step below_a hb); (try clear hb); (try clear hb2); (try clear hk); (try clear hi)))
     go_ret
     exact ⟨eq_a, below_a⟩
    ·
     rw [if_neg c8] at H; have c8b0 : (a0_0 == 2) = false := beq_eq_false_iff_ne.mpr c8; have c8b1 : (a0_0 != 2) = true := bne_iff_ne.mpr c8
     by_cases c11 : a0_0 = 4
     ·
      rw [if_pos c11] at H; have c11b0 : (a0_0 == 4) = true := beq_iff_eq.mpr c11; have c11b1 : (a0_0 != 4) = false := bne_eq_false_iff_eq.mpr c11; clear c11; replace H := Option.bind_eq_some_iff.mp H; obtain ⟨t175, A120, H⟩ := H; replace H : (some t175) = some r := H; have A12 := Aside0.mk A120; clear A120; obtain rfl := Option.some.inj H
      go_wp2_with (first | (go_at_call 63; (with_reducible refine (spec_l7Needs.calls _ a0_0 a0_1 a0_2 a0_3 a0_4 a0_5 a0_6 a0_7 a0_8 A0_9 c0_9 l0_9 false false true false t175 _ ?side1 ?side2 ?side3 ?side4 ?side5 ?side6 ?side7 ?side8 ?side9 ?side10 ?side11 ?side12 A12.out).mono ?_); (case side1 => repeat (first | exact (Kd.C_below HR0_9.out HB.out) | (with_reducible refine Kd.C_alloc ?_ _) | (with_reducible refine Kd.C_drewN ?_ _) | (with_reducible refine Kd.C_drew ?_))); (case side2 => exact HC0_9.out); (case side3 => exact ((show Below w.heap.size w _ from below_a).cell (p := p) HLP.out).trans HXP_0.out); (case side4 => exact ((show Below w.heap.size w _ from below_a).cell (p := ⟨p.block, p.off + 1, none⟩) HLP.out).trans HXP_1.out); (case side5 => exact ((show Below w.heap.size w _ from below_a).cell (p := ⟨p.block, p.off + 2, none⟩) HLP.out).trans HXP_2.out); (case side6 => exact ((show Below w.heap.size w _ from below_a).cell (p := ⟨p.block, p.off + 3, none⟩) HLP.out).trans HXP_3.out); (case side7 => exact ((show Below w.heap.size w _ from below_a).cell (p := ⟨p.block, p.off + 4, none⟩) HLP.out).trans HXP_4.out); (case side8 => exact ((show Below w.heap.size w _ from below_a).cell (p := ⟨p.block, p.off + 5, none⟩) HLP.out).trans HXP_5.out); (case side9 => exact ((show Below w.heap.size w _ from below_a).cell (p := ⟨p.block, p.off + 6, none⟩) HLP.out).trans HXP_6.out); (case side10 => exact ((show Below w.heap.size w _ from below_a).cell (p := ⟨p.block, p.off + 7, none⟩) HLP.out).trans HXP_7.out); (case side11 => exact ((show Below w.heap.size w _ from below_a).cell (p := ⟨p.block, p.off + 8, none⟩) HLP.out).trans HXP_8.out); (case side12 => exact ((show Below w.heap.size w _ from below_a).cell (p := ⟨p.block, p.off + 9, none⟩) HLP.out).trans HXP_9.out); rintro e w13 ⟨rfl, hb⟩; replace HB := Aside0.mk (below_step below_a hb); (try clear hb); (try clear hb2); (try clear hk); (try clear hi)))
      go_ret
      exact ⟨eq_a, below_a⟩
     ·
      rw [if_neg c11] at H; have c11b0 : (a0_0 == 4) = false := beq_eq_false_iff_ne.mpr c11; have c11b1 : (a0_0 != 4) = true := bne_iff_ne.mpr c11
      by_cases c14 : a0_0 = 5
      ·
       rw [if_pos c14] at H; have c14b0 : (a0_0 == 5) = true := beq_iff_eq.mpr c14; have c14b1 : (a0_0 != 5) = false := bne_eq_false_iff_eq.mpr c14; clear c14; replace H := Option.bind_eq_some_iff.mp H; obtain ⟨t176, A150, H⟩ := H; replace H : (some t176) = some r := H; have A15 := Aside0.mk A150; clear A150; obtain rfl := Option.some.inj H
       go_wp2_with (first | (go_at_call 63; (with_reducible refine (spec_l7Needs.calls _ a0_0 a0_1 a0_2 a0_3 a0_4 a0_5 a0_6 a0_7 a0_8 A0_9 c0_9 l0_9 false false false true t176 _ ?side1 ?side2 ?side3 ?side4 ?side5 ?side6 ?side7 ?side8 ?side9 ?side10 ?side11 ?side12 A15.out).mono ?_); (case side1 => repeat (first | exact (Kd.C_below HR0_9.out HB.out) | (with_reducible refine Kd.C_alloc ?_ _) | (with_reducible refine Kd.C_drewN ?_ _) | (with_reducible refine Kd.C_drew ?_))); (case side2 => exact HC0_9.out); (case side3 => exact ((show Below w.heap.size w _ from below_a).cell (p := p) HLP.out).trans HXP_0.out); (case side4 => exact ((show Below w.heap.size w _ from below_a).cell (p := ⟨p.block, p.off + 1, none⟩) HLP.out).trans HXP_1.out); (case side5 => exact ((show Below w.heap.size w _ from below_a).cell (p := ⟨p.block, p.off + 2, none⟩) HLP.out).trans HXP_2.out); (case side6 => exact ((show Below w.heap.size w _ from below_a).cell (p := ⟨p.block, p.off + 3, none⟩) HLP.out).trans HXP_3.out); (case side7 => exact ((show Below w.heap.size w _ from below_a).cell (p := ⟨p.block, p.off + 4, none⟩) HLP.out).trans HXP_4.out); (case side8 => exact ((show Below w.heap.size w _ from below_a).cell (p := ⟨p.block, p.off + 5, none⟩) HLP.out).trans HXP_5.out); (case side9 => exact ((show Below w.heap.size w _ from below_a).cell (p := ⟨p.block, p.off + 6, none⟩) HLP.out).trans HXP_6.out); (case side10 => exact ((show Below w.heap.size w _ from below_a).cell (p := ⟨p.block, p.off + 7, none⟩) HLP.out).trans HXP_7.out); (case side11 => exact ((show Below w.heap.size w _ from below_a).cell (p := ⟨p.block, p.off + 8, none⟩) HLP.out).trans HXP_8.out); (case side12 => exact ((show Below w.heap.size w _ from below_a).cell (p := ⟨p.block, p.off + 9, none⟩) HLP.out).trans HXP_9.out); rintro e w16 ⟨rfl, hb⟩; replace HB := Aside0.mk (below_step below_a hb); (try clear hb); (try clear hb2); (try clear hk); (try clear hi)))
       go_ret
       exact ⟨eq_a, below_a⟩
      ·
       rw [if_neg c14] at H; have c14b0 : (a0_0 == 5) = false := beq_eq_false_iff_ne.mpr c14; have c14b1 : (a0_0 != 5) = true := bne_iff_ne.mpr c14; obtain rfl := Option.some.inj H
       go_wp2
       go_ret
       exact ⟨eq_a, below_a⟩

/-! ### spec_l1In: function 41 -/
def spec_l1In.f (a0 : Int) (a1 : Int) (a2 : Int) : Option (Bool) := if a0 ≥ a1 then (some (decide (a0 ≤ a2))) else (some false)
set_option maxHeartbeats 8000000 in
set_option maxRecDepth 100000 in
theorem spec_l1In.calls (a0 : Int) (a1 : Int) (a2 : Int) (r : Bool) (w : World) (h : spec_l1In.f a0 a1 a2 = some r) :
  Calls Try.prog 41 #[.int .i64 a0, .int .i64 a1, .int .i64 a2] w fun e w' => e = .returned (.bool r) ∧ Drawn0 w w' := by
 have H : (if a0 ≥ a1 then (some (decide (a0 ≤ a2))) else (some false)) = some r := h
 clear h
 by_cases c4 : a0 ≥ a1
 ·
  rw [if_pos c4] at H; have c4b0 : decide (a1 ≤ a0) = true := decide_eq_true c4; clear c4; obtain rfl := Option.some.inj H
  go_enter Try.func41, Try.ntmps41
  go_wp2
  go_ret
  exact ⟨eq_b, by repeat (first | exact Drawn0.refl _ | apply Drawn0.step)⟩
 ·
  rw [if_neg c4] at H; have c4b0 : decide (a1 ≤ a0) = false := decide_eq_false c4; clear c4; obtain rfl := Option.some.inj H
  go_enter Try.func41, Try.ntmps41
  go_wp2
  go_ret
  exact ⟨eq_b, by repeat (first | exact Drawn0.refl _ | apply Drawn0.step)⟩

/-! ### spec_ClaimFault: function 40 -/
def spec_ClaimFault.f (a0_0 : Int) (a0_1 : Int) (a0_2 : Int) (a0_3 : Int) : Option (Int) := (spec_l1In.f a0_0 0 3).bind fun t178 => (if t178 = true then ((spec_l1In.f a0_1 0 1000000).bind fun t179 => (if t179 = true then ((spec_l1In.f a0_2 0 2).bind fun t180 => (if t180 = true then ((spec_l1In.f a0_3 0 9999999).bind fun t181 => (if t181 = true then (some 0) else (some 3))) else (some 3))) else (some 3))) else (some 3))
set_option maxHeartbeats 8000000 in
set_option maxRecDepth 100000 in
theorem spec_ClaimFault.calls (a0_0 : Int) (a0_1 : Int) (a0_2 : Int) (a0_3 : Int) (r : Int) (w : World) (h : spec_ClaimFault.f a0_0 a0_1 a0_2 a0_3 = some r) :
  Calls Try.prog 40 #[.agg #[.int .i64 a0_0, .int .i64 a0_1, .int .i64 a0_2, .int .i64 a0_3]] w fun e w' => e = .returned (.int .i64 r) ∧ Below w.heap.size w w' := by
 have hu37 := Try.underlying37
 have HB := Aside0.mk (Below.refl w.heap.size w)
 have H : ((spec_l1In.f a0_0 0 3).bind fun t178 => (if t178 = true then ((spec_l1In.f a0_1 0 1000000).bind fun t179 => (if t179 = true then ((spec_l1In.f a0_2 0 2).bind fun t180 => (if t180 = true then ((spec_l1In.f a0_3 0 9999999).bind fun t181 => (if t181 = true then (some 0) else (some 3))) else (some 3))) else (some 3))) else (some 3))) = some r := h
 clear h
 replace H := Option.bind_eq_some_iff.mp H
 obtain ⟨t178, A20, H⟩ := H
 replace H : (if t178 = true then ((spec_l1In.f a0_1 0 1000000).bind fun t179 => (if t179 = true then ((spec_l1In.f a0_2 0 2).bind fun t180 => (if t180 = true then ((spec_l1In.f a0_3 0 9999999).bind fun t181 => (if t181 = true then (some 0) else (some 3))) else (some 3))) else (some 3))) else (some 3)) = some r := H
 have A2 := Aside0.mk A20
 clear A20
 by_cases c3 : t178 = true
 ·
  subst c3; have H1 : ((spec_l1In.f a0_1 0 1000000).bind fun t179 => (if t179 = true then ((spec_l1In.f a0_2 0 2).bind fun t180 => (if t180 = true then ((spec_l1In.f a0_3 0 9999999).bind fun t181 => (if t181 = true then (some 0) else (some 3))) else (some 3))) else (some 3))) = some r := by rw [if_pos rfl] at H; exact H
  clear H; have H := H1; clear H1; replace H := Option.bind_eq_some_iff.mp H; obtain ⟨t179, A40, H⟩ := H; replace H : (if t179 = true then ((spec_l1In.f a0_2 0 2).bind fun t180 => (if t180 = true then ((spec_l1In.f a0_3 0 9999999).bind fun t181 => (if t181 = true then (some 0) else (some 3))) else (some 3))) else (some 3)) = some r := H; have A4 := Aside0.mk A40; clear A40
  by_cases c5 : t179 = true
  ·
   subst c5; have H1 : ((spec_l1In.f a0_2 0 2).bind fun t180 => (if t180 = true then ((spec_l1In.f a0_3 0 9999999).bind fun t181 => (if t181 = true then (some 0) else (some 3))) else (some 3))) = some r := by rw [if_pos rfl] at H; exact H
   clear H; have H := H1; clear H1; replace H := Option.bind_eq_some_iff.mp H; obtain ⟨t180, A60, H⟩ := H; replace H : (if t180 = true then ((spec_l1In.f a0_3 0 9999999).bind fun t181 => (if t181 = true then (some 0) else (some 3))) else (some 3)) = some r := H; have A6 := Aside0.mk A60; clear A60
   by_cases c7 : t180 = true
   ·
    subst c7; have H1 : ((spec_l1In.f a0_3 0 9999999).bind fun t181 => (if t181 = true then (some 0) else (some 3))) = some r := by rw [if_pos rfl] at H; exact H
    clear H; have H := H1; clear H1; replace H := Option.bind_eq_some_iff.mp H; obtain ⟨t181, A80, H⟩ := H; replace H : (if t181 = true then (some 0) else (some 3)) = some r := H; have A8 := Aside0.mk A80; clear A80
    by_cases c9 : t181 = true
    ·
     subst c9; have H1 : (some 0) = some r := by rw [if_pos rfl] at H; exact H
     clear H; have H := H1; clear H1; obtain rfl := Option.some.inj H
     go_enter Try.func40, Try.ntmps40
     go_wp2_with (first | ((with_reducible refine gate_dst (N := 1) rfl ?_); refine box_event ?hg (N := 1) ?hd (cs := #[.int .i64 a0_0, .int .i64 a0_1, .int .i64 a0_2, .int .i64 a0_3]) (t := 37) ?hr ?_; (case hd => rfl); (case hg => rfl); (case hr => first | (go_simp; done) | (go_simp; rfl)); intro gb177 hg w10 hbox hb; have n0_ := Aside0.mk (below_step below_a hb); have BK177 := Aside0.mk (hbox); have GW177 := Aside0.mk (bsz_ (w := w) hg); have GE177 := Aside0.mk (bsz_ (w := w) hg); replace HB := n0_; clear n0_; clear hb hbox hg; obtain ⟨hcz11_0, hcz11_1, hcz11_2, hcz11_3, hfz11_0, hfz11_1, hfz11_2, hfz11_3⟩ := bc4_ BK177.out) | ((with_reducible refine gate_callee (f := 41) rfl ?_); refine goesL_ (some 5) rfl rfl Try.func41 (by kernel_rfl) rfl #[.int .i64 a0_0, .int .i64 0, .int .i64 3] rfl args_a ?_; (with_reducible refine (spec_l1In.calls a0_0 0 3 true _ A2.out).mono ?_); rintro e w' ⟨rfl, ⟨nd, rfl⟩⟩; refine ⟨_, rfl, ?_⟩) | (go_at_call 41; (with_reducible refine (spec_l1In.calls a0_1 0 1000000 true _ A4.out).mono ?_); rintro e w' ⟨rfl, ⟨nd, rfl⟩⟩) | (go_at_call 41; (with_reducible refine (spec_l1In.calls a0_2 0 2 true _ A6.out).mono ?_); rintro e w' ⟨rfl, ⟨nd, rfl⟩⟩) | (go_at_call 41; (with_reducible refine (spec_l1In.calls a0_3 0 9999999 true _ A8.out).mono ?_); rintro e w' ⟨rfl, ⟨nd, rfl⟩⟩))
     go_ret
     exact ⟨eq_a, below_a⟩
    ·
     replace c9 := Bool.eq_false_iff.mpr c9; subst c9; have H1 : (some 3) = some r := by rw [if_neg (show ¬ (false = true) by decide)] at H; exact H
     clear H; have H := H1; clear H1; obtain rfl := Option.some.inj H
     go_enter Try.func40, Try.ntmps40
     go_wp2_with (first | ((with_reducible refine gate_dst (N := 1) rfl ?_); refine box_event ?hg (N := 1) ?hd (cs := #[.int .i64 a0_0, .int .i64 a0_1, .int .i64 a0_2, .int .i64 a0_3]) (t := 37) ?hr ?_; (case hd => rfl); (case hg => rfl); (case hr => first | (go_simp; done) | (go_simp; rfl)); intro gb177 hg w12 hbox hb; have n0_ := Aside0.mk (below_step below_a hb); have BK177 := Aside0.mk (hbox); have GW177 := Aside0.mk (bsz_ (w := w) hg); have GE177 := Aside0.mk (bsz_ (w := w) hg); replace HB := n0_; clear n0_; clear hb hbox hg; obtain ⟨hcz13_0, hcz13_1, hcz13_2, hcz13_3, hfz13_0, hfz13_1, hfz13_2, hfz13_3⟩ := bc4_ BK177.out) | ((with_reducible refine gate_callee (f := 41) rfl ?_); refine goesL_ (some 5) rfl rfl Try.func41 (by kernel_rfl) rfl #[.int .i64 a0_0, .int .i64 0, .int .i64 3] rfl args_a ?_; (with_reducible refine (spec_l1In.calls a0_0 0 3 true _ A2.out).mono ?_); rintro e w' ⟨rfl, ⟨nd, rfl⟩⟩; refine ⟨_, rfl, ?_⟩) | (go_at_call 41; (with_reducible refine (spec_l1In.calls a0_1 0 1000000 true _ A4.out).mono ?_); rintro e w' ⟨rfl, ⟨nd, rfl⟩⟩) | (go_at_call 41; (with_reducible refine (spec_l1In.calls a0_2 0 2 true _ A6.out).mono ?_); rintro e w' ⟨rfl, ⟨nd, rfl⟩⟩) | (go_at_call 41; (with_reducible refine (spec_l1In.calls a0_3 0 9999999 false _ A8.out).mono ?_); rintro e w' ⟨rfl, ⟨nd, rfl⟩⟩))
     go_ret
     exact ⟨eq_a, below_a⟩
   ·
    replace c7 := Bool.eq_false_iff.mpr c7; subst c7; have H1 : (some 3) = some r := by rw [if_neg (show ¬ (false = true) by decide)] at H; exact H
    clear H; have H := H1; clear H1; obtain rfl := Option.some.inj H
    go_enter Try.func40, Try.ntmps40
    go_wp2_with (first | ((with_reducible refine gate_dst (N := 1) rfl ?_); refine box_event ?hg (N := 1) ?hd (cs := #[.int .i64 a0_0, .int .i64 a0_1, .int .i64 a0_2, .int .i64 a0_3]) (t := 37) ?hr ?_; (case hd => rfl); (case hg => rfl); (case hr => first | (go_simp; done) | (go_simp; rfl)); intro gb177 hg w14 hbox hb; have n0_ := Aside0.mk (below_step below_a hb); have BK177 := Aside0.mk (hbox); have GW177 := Aside0.mk (bsz_ (w := w) hg); have GE177 := Aside0.mk (bsz_ (w := w) hg); replace HB := n0_; clear n0_; clear hb hbox hg; obtain ⟨hcz15_0, hcz15_1, hcz15_2, hcz15_3, hfz15_0, hfz15_1, hfz15_2, hfz15_3⟩ := bc4_ BK177.out) | ((with_reducible refine gate_callee (f := 41) rfl ?_); refine goesL_ (some 5) rfl rfl Try.func41 (by kernel_rfl) rfl #[.int .i64 a0_0, .int .i64 0, .int .i64 3] rfl args_a ?_; (with_reducible refine (spec_l1In.calls a0_0 0 3 true _ A2.out).mono ?_); rintro e w' ⟨rfl, ⟨nd, rfl⟩⟩; refine ⟨_, rfl, ?_⟩) | (go_at_call 41; (with_reducible refine (spec_l1In.calls a0_1 0 1000000 true _ A4.out).mono ?_); rintro e w' ⟨rfl, ⟨nd, rfl⟩⟩) | (go_at_call 41; (with_reducible refine (spec_l1In.calls a0_2 0 2 false _ A6.out).mono ?_); rintro e w' ⟨rfl, ⟨nd, rfl⟩⟩))
    go_ret
    exact ⟨eq_a, below_a⟩
  ·
   replace c5 := Bool.eq_false_iff.mpr c5; subst c5; have H1 : (some 3) = some r := by rw [if_neg (show ¬ (false = true) by decide)] at H; exact H
   clear H; have H := H1; clear H1; obtain rfl := Option.some.inj H
   go_enter Try.func40, Try.ntmps40
   go_wp2_with (first | ((with_reducible refine gate_dst (N := 1) rfl ?_); refine box_event ?hg (N := 1) ?hd (cs := #[.int .i64 a0_0, .int .i64 a0_1, .int .i64 a0_2, .int .i64 a0_3]) (t := 37) ?hr ?_; (case hd => rfl); (case hg => rfl); (case hr => first | (go_simp; done) | (go_simp; rfl)); intro gb177 hg w16 hbox hb; have n0_ := Aside0.mk (below_step below_a hb); have BK177 := Aside0.mk (hbox); have GW177 := Aside0.mk (bsz_ (w := w) hg); have GE177 := Aside0.mk (bsz_ (w := w) hg); replace HB := n0_; clear n0_; clear hb hbox hg; obtain ⟨hcz17_0, hcz17_1, hcz17_2, hcz17_3, hfz17_0, hfz17_1, hfz17_2, hfz17_3⟩ := bc4_ BK177.out) | ((with_reducible refine gate_callee (f := 41) rfl ?_); refine goesL_ (some 5) rfl rfl Try.func41 (by kernel_rfl) rfl #[.int .i64 a0_0, .int .i64 0, .int .i64 3] rfl args_a ?_; (with_reducible refine (spec_l1In.calls a0_0 0 3 true _ A2.out).mono ?_); rintro e w' ⟨rfl, ⟨nd, rfl⟩⟩; refine ⟨_, rfl, ?_⟩) | (go_at_call 41; (with_reducible refine (spec_l1In.calls a0_1 0 1000000 false _ A4.out).mono ?_); rintro e w' ⟨rfl, ⟨nd, rfl⟩⟩))
   go_ret
   exact ⟨eq_a, below_a⟩
 ·
  replace c3 := Bool.eq_false_iff.mpr c3; subst c3; have H1 : (some 3) = some r := by rw [if_neg (show ¬ (false = true) by decide)] at H; exact H
  clear H; have H := H1; clear H1; obtain rfl := Option.some.inj H
  go_enter Try.func40, Try.ntmps40
  go_wp2_with (first | ((with_reducible refine gate_dst (N := 1) rfl ?_); refine box_event ?hg (N := 1) ?hd (cs := #[.int .i64 a0_0, .int .i64 a0_1, .int .i64 a0_2, .int .i64 a0_3]) (t := 37) ?hr ?_; (case hd => rfl); (case hg => rfl); (case hr => first | (go_simp; done) | (go_simp; rfl)); intro gb177 hg w18 hbox hb; have n0_ := Aside0.mk (below_step below_a hb); have BK177 := Aside0.mk (hbox); have GW177 := Aside0.mk (bsz_ (w := w) hg); have GE177 := Aside0.mk (bsz_ (w := w) hg); replace HB := n0_; clear n0_; clear hb hbox hg; obtain ⟨hcz19_0, hcz19_1, hcz19_2, hcz19_3, hfz19_0, hfz19_1, hfz19_2, hfz19_3⟩ := bc4_ BK177.out) | ((with_reducible refine gate_callee (f := 41) rfl ?_); refine goesL_ (some 5) rfl rfl Try.func41 (by kernel_rfl) rfl #[.int .i64 a0_0, .int .i64 0, .int .i64 3] rfl args_a ?_; (with_reducible refine (spec_l1In.calls a0_0 0 3 false _ A2.out).mono ?_); rintro e w' ⟨rfl, ⟨nd, rfl⟩⟩; refine ⟨_, rfl, ?_⟩))
  go_ret
  exact ⟨eq_a, below_a⟩

/-! ### spec_MessageFault: function 14 -/
def spec_MessageFault.j0 : Nat → Bool → Int → Int → Int → Int → Int → Int → Int → Int → Int → List Int → Option (Int)
 | 0, _, _, _, _, _, _, _, _, _, _, _ => none
 | k + 1, x35, x183000, x183001, x183002, x183003, x183004, x183005, x183006, x183007, x183008, x183009 => if x35 = true then (some 3) else (if x183007 = 1 then (if (x183009.length : Int) = 16 then (some 0) else (some 2)) else (if (x183009.length : Int) = 0 then (some 0) else (some 2)))
def spec_MessageFault.f (k : Nat) (a0_0 : Int) (a0_1 : Int) (a0_2 : Int) (a0_3 : Int) (a0_4 : Int) (a0_5 : Int) (a0_6 : Int) (a0_7 : Int) (a0_8 : Int) (l0_9 : List Int) : Option (Int) := (spec_l7Form.f k a0_0 a0_1 a0_2 a0_3 a0_4 a0_5 a0_6 a0_7 a0_8 l0_9).bind fun t183 => (if t183 = true then (if a0_0 = 4 then ((spec_ClaimFault.f a0_3 a0_4 a0_5 a0_6).bind fun t184 => (some t184)) else (if a0_0 = 5 then ((spec_l1In.f a0_7 1 3).bind fun t187 => (if t187 = true then ((spec_l1In.f a0_8 1 255).bind fun t188 => (spec_MessageFault.j0 k (!t188) a0_0 a0_1 a0_2 a0_3 a0_4 a0_5 a0_6 a0_7 a0_8 l0_9)) else (spec_MessageFault.j0 k true a0_0 a0_1 a0_2 a0_3 a0_4 a0_5 a0_6 a0_7 a0_8 l0_9))) else ((spec_l1In.f a0_1 0 1000000).bind fun t185 => (if t185 = true then ((spec_l1In.f a0_2 0 3).bind fun t186 => (if t186 = true then (some 0) else (some 3))) else (some 3))))) else (some 1))
theorem spec_MessageFault.mono_l : ∀ k, (∀ y0 y1 y2 y3 y4 y5 y6 y7 y8 y9 y10, LeO (spec_MessageFault.j0 k y0 y1 y2 y3 y4 y5 y6 y7 y8 y9 y10) (spec_MessageFault.j0 (k + 1) y0 y1 y2 y3 y4 y5 y6 y7 y8 y9 y10))
 | 0 => fun _ _ _ _ _ _ _ _ _ _ _ r h => by simp [spec_MessageFault.j0] at h
 | k + 1 => by
  have ih0 := spec_MessageFault.mono_l k
  ·
   intro y0 y1 y2 y3 y4 y5 y6 y7 y8 y9 y10
   unfold spec_MessageFault.j0
   repeat' first
   | (with_reducible exact ih0 _ _ _ _ _ _ _ _ _ _ _)
   | (with_reducible exact spec_l7Form.mono _ _ _ _ _ _ _ _ _ _ _)
   | (with_reducible exact LeO.refl _)
   | (with_reducible exact LeO.none _)
   | (with_reducible refine LeO.ite ?_ ?_)
   | (with_reducible refine LeO.bind ?_ (fun _ => ?_))
   | exact ih0 _ _ _ _ _ _ _ _ _ _ _
   | exact spec_l7Form.mono _ _ _ _ _ _ _ _ _ _ _
   | exact LeO.none _
   | refine LeO.ite ?_ ?_
   | refine LeO.bind ?_ (fun _ => ?_)
theorem spec_MessageFault.mono : ∀ a0 a1 a2 a3 a4 a5 a6 a7 a8 a9 k, LeO (spec_MessageFault.f k a0 a1 a2 a3 a4 a5 a6 a7 a8 a9) (spec_MessageFault.f (k + 1) a0 a1 a2 a3 a4 a5 a6 a7 a8 a9) := by
 intro a0 a1 a2 a3 a4 a5 a6 a7 a8 a9 k
 have ih0 := spec_MessageFault.mono_l k
 unfold spec_MessageFault.f
 repeat' first
   | (with_reducible exact ih0 _ _ _ _ _ _ _ _ _ _ _)
   | (with_reducible exact spec_l7Form.mono _ _ _ _ _ _ _ _ _ _ _)
   | (with_reducible exact LeO.refl _)
   | (with_reducible exact LeO.none _)
   | (with_reducible refine LeO.ite ?_ ?_)
   | (with_reducible refine LeO.bind ?_ (fun _ => ?_))
   | exact ih0 _ _ _ _ _ _ _ _ _ _ _
   | exact spec_l7Form.mono _ _ _ _ _ _ _ _ _ _ _
   | exact LeO.none _
   | refine LeO.ite ?_ ?_
   | refine LeO.bind ?_ (fun _ => ?_)
set_option maxHeartbeats 8000000 in
set_option maxRecDepth 100000 in
theorem spec_MessageFault.calls (k : Nat) (a0_0 : Int) (a0_1 : Int) (a0_2 : Int) (a0_3 : Int) (a0_4 : Int) (a0_5 : Int) (a0_6 : Int) (a0_7 : Int) (a0_8 : Int) (A0_9 : Option Addr) (c0_9 : Nat) (l0_9 : List Int) (r : Int) (w : World) (hr0_9 : Kd.C (Kd.int .u8) w A0_9 l0_9.length l0_9) (hc0_9 : l0_9.length ≤ c0_9) (h : spec_MessageFault.f k a0_0 a0_1 a0_2 a0_3 a0_4 a0_5 a0_6 a0_7 a0_8 l0_9 = some r) :
  Calls Try.prog 14 #[.agg #[.int .i64 a0_0, .int .i64 a0_1, .int .i64 a0_2, .int .i64 a0_3, .int .i64 a0_4, .int .i64 a0_5, .int .i64 a0_6, .int .i64 a0_7, .int .i64 a0_8, .slice A0_9 l0_9.length c0_9]] w fun e w' => e = .returned (.int .i64 r) ∧ Below w.heap.size w w' := by
 have hu40 := Try.underlying40
 have hu37 := Try.underlying37
 have HR0_9 := Aside0.mk hr0_9
 have HC0_9 := Aside0.mk hc0_9
 clear hr0_9 hc0_9
 have HB := Aside0.mk (Below.refl w.heap.size w)
 have H : ((spec_l7Form.f k a0_0 a0_1 a0_2 a0_3 a0_4 a0_5 a0_6 a0_7 a0_8 l0_9).bind fun t183 => (if t183 = true then (if a0_0 = 4 then ((spec_ClaimFault.f a0_3 a0_4 a0_5 a0_6).bind fun t184 => (some t184)) else (if a0_0 = 5 then ((spec_l1In.f a0_7 1 3).bind fun t187 => (if t187 = true then ((spec_l1In.f a0_8 1 255).bind fun t188 => (spec_MessageFault.j0 k (!t188) a0_0 a0_1 a0_2 a0_3 a0_4 a0_5 a0_6 a0_7 a0_8 l0_9)) else (spec_MessageFault.j0 k true a0_0 a0_1 a0_2 a0_3 a0_4 a0_5 a0_6 a0_7 a0_8 l0_9))) else ((spec_l1In.f a0_1 0 1000000).bind fun t185 => (if t185 = true then ((spec_l1In.f a0_2 0 3).bind fun t186 => (if t186 = true then (some 0) else (some 3))) else (some 3))))) else (some 1))) = some r := h
 clear h
 replace H := Option.bind_eq_some_iff.mp H
 obtain ⟨t183, A20, H⟩ := H
 replace H : (if t183 = true then (if a0_0 = 4 then ((spec_ClaimFault.f a0_3 a0_4 a0_5 a0_6).bind fun t184 => (some t184)) else (if a0_0 = 5 then ((spec_l1In.f a0_7 1 3).bind fun t187 => (if t187 = true then ((spec_l1In.f a0_8 1 255).bind fun t188 => (spec_MessageFault.j0 k (!t188) a0_0 a0_1 a0_2 a0_3 a0_4 a0_5 a0_6 a0_7 a0_8 l0_9)) else (spec_MessageFault.j0 k true a0_0 a0_1 a0_2 a0_3 a0_4 a0_5 a0_6 a0_7 a0_8 l0_9))) else ((spec_l1In.f a0_1 0 1000000).bind fun t185 => (if t185 = true then ((spec_l1In.f a0_2 0 3).bind fun t186 => (if t186 = true then (some 0) else (some 3))) else (some 3))))) else (some 1)) = some r := H
 have A2 := Aside0.mk A20
 clear A20
 by_cases c3 : t183 = true
 ·
  subst c3; have H1 : (if a0_0 = 4 then ((spec_ClaimFault.f a0_3 a0_4 a0_5 a0_6).bind fun t184 => (some t184)) else (if a0_0 = 5 then ((spec_l1In.f a0_7 1 3).bind fun t187 => (if t187 = true then ((spec_l1In.f a0_8 1 255).bind fun t188 => (spec_MessageFault.j0 k (!t188) a0_0 a0_1 a0_2 a0_3 a0_4 a0_5 a0_6 a0_7 a0_8 l0_9)) else (spec_MessageFault.j0 k true a0_0 a0_1 a0_2 a0_3 a0_4 a0_5 a0_6 a0_7 a0_8 l0_9))) else ((spec_l1In.f a0_1 0 1000000).bind fun t185 => (if t185 = true then ((spec_l1In.f a0_2 0 3).bind fun t186 => (if t186 = true then (some 0) else (some 3))) else (some 3))))) = some r := by rw [if_pos rfl] at H; exact H
  clear H; have H := H1; clear H1
  by_cases c4 : a0_0 = 4
  ·
   rw [if_pos c4] at H; have c4b0 : (a0_0 == 4) = true := beq_iff_eq.mpr c4; have c4b1 : (a0_0 != 4) = false := bne_eq_false_iff_eq.mpr c4; clear c4; replace H := Option.bind_eq_some_iff.mp H; obtain ⟨t184, A50, H⟩ := H; replace H : (some t184) = some r := H; have A5 := Aside0.mk A50; clear A50; obtain rfl := Option.some.inj H
   go_enter Try.func14, Try.ntmps14
   go_wp2_with (first | ((with_reducible refine gate_dst (N := 1) rfl ?_); refine box_event ?hg (N := 1) ?hd (cs := #[.int .i64 a0_0, .int .i64 a0_1, .int .i64 a0_2, .int .i64 a0_3, .int .i64 a0_4, .int .i64 a0_5, .int .i64 a0_6, .int .i64 a0_7, .int .i64 a0_8, .slice A0_9 l0_9.length c0_9]) (t := 40) ?hr ?_; (case hd => rfl); (case hg => rfl); (case hr => first | (go_simp; done) | (go_simp; rfl)); intro gb182 hg w6 hbox hb; have n0_ := Aside0.mk (below_step below_a hb); have BK182 := Aside0.mk (hbox); have GW182 := Aside0.mk (bsz_ (w := w) hg); have GE182 := Aside0.mk (bsz_ (w := w) hg); replace HB := n0_; clear n0_; clear hb hbox hg) | (go_at_call 39; (with_reducible refine (spec_l7Form.calls k _ a0_0 a0_1 a0_2 a0_3 a0_4 a0_5 a0_6 a0_7 a0_8 A0_9 c0_9 l0_9 true _ ?side1 ?side2 ?side3 ?side4 ?side5 ?side6 ?side7 ?side8 ?side9 ?side10 ?side11 ?side12 A2.out).mono ?_); (case side1 => repeat (first | exact (Kd.C_below HR0_9.out HB.out) | (with_reducible refine Kd.C_alloc ?_ _) | (with_reducible refine Kd.C_drewN ?_ _) | (with_reducible refine Kd.C_drew ?_))); (case side2 => exact HC0_9.out); (case side3 => exact (blk_cell blk_a 0).trans rfl); (case side4 => exact (blk_cell blk_a 1).trans rfl); (case side5 => exact (blk_cell blk_a 2).trans rfl); (case side6 => exact (blk_cell blk_a 3).trans rfl); (case side7 => exact (blk_cell blk_a 4).trans rfl); (case side8 => exact (blk_cell blk_a 5).trans rfl); (case side9 => exact (blk_cell blk_a 6).trans rfl); (case side10 => exact (blk_cell blk_a 7).trans rfl); (case side11 => exact (blk_cell blk_a 8).trans rfl); (case side12 => exact (blk_cell blk_a 9).trans rfl); rintro e w7 ⟨rfl, hb⟩; replace BK182 := Aside0.mk (blk_below (g := gb182) blk_c hb); replace HB := Aside0.mk (below_step below_a hb); (try clear hb); (try clear hb2); (try clear hk); (try clear hi); have hcz8_0 : w7.cell? ⟨gb182, 0, none⟩ = some (.int .i64 a0_0) := (blk_cell BK182.out 0).trans rfl; have hcz8_1 : w7.cell? ⟨gb182, 1, none⟩ = some (.int .i64 a0_1) := (blk_cell BK182.out 1).trans rfl; have hcz8_2 : w7.cell? ⟨gb182, 2, none⟩ = some (.int .i64 a0_2) := (blk_cell BK182.out 2).trans rfl; have hcz8_3 : w7.cell? ⟨gb182, 3, none⟩ = some (.int .i64 a0_3) := (blk_cell BK182.out 3).trans rfl; have hcz8_4 : w7.cell? ⟨gb182, 4, none⟩ = some (.int .i64 a0_4) := (blk_cell BK182.out 4).trans rfl; have hcz8_5 : w7.cell? ⟨gb182, 5, none⟩ = some (.int .i64 a0_5) := (blk_cell BK182.out 5).trans rfl; have hcz8_6 : w7.cell? ⟨gb182, 6, none⟩ = some (.int .i64 a0_6) := (blk_cell BK182.out 6).trans rfl; have hcz8_7 : w7.cell? ⟨gb182, 7, none⟩ = some (.int .i64 a0_7) := (blk_cell BK182.out 7).trans rfl; have hcz8_8 : w7.cell? ⟨gb182, 8, none⟩ = some (.int .i64 a0_8) := (blk_cell BK182.out 8).trans rfl; have hcz8_9 : w7.cell? ⟨gb182, 9, none⟩ = some (.slice A0_9 l0_9.length c0_9) := (blk_cell BK182.out 9).trans rfl; have hfz8_0 := blk_frozen BK182.out 0; have hfz8_1 := blk_frozen BK182.out 1; have hfz8_2 := blk_frozen BK182.out 2; have hfz8_3 := blk_frozen BK182.out 3; have hfz8_4 := blk_frozen BK182.out 4; have hfz8_5 := blk_frozen BK182.out 5; have hfz8_6 := blk_frozen BK182.out 6; have hfz8_7 := blk_frozen BK182.out 7; have hfz8_8 := blk_frozen BK182.out 8; have hfz8_9 := blk_frozen BK182.out 9) | ((with_reducible refine gate_callee (f := 40) rfl ?_); refine goesL_ (some 11) rfl rfl Try.func40 (by kernel_rfl) rfl #[.agg #[.int .i64 a0_3, .int .i64 a0_4, .int .i64 a0_5, .int .i64 a0_6]] rfl args_a ?_; (with_reducible refine (spec_ClaimFault.calls a0_3 a0_4 a0_5 a0_6 t184 _ A5.out).mono ?_); rintro e w9 ⟨rfl, hb⟩; refine ⟨_, rfl, ?_⟩; replace BK182 := Aside0.mk (blk_below (g := gb182) blk_c hb); replace HB := Aside0.mk (below_step below_a hb); (try clear hb); (try clear hb2); (try clear hk); (try clear hi)))
   go_ret
   exact ⟨eq_a, below_a⟩
  ·
   rw [if_neg c4] at H; have c4b0 : (a0_0 == 4) = false := beq_eq_false_iff_ne.mpr c4; have c4b1 : (a0_0 != 4) = true := bne_iff_ne.mpr c4
   by_cases c10 : a0_0 = 5
   ·
    rw [if_pos c10] at H; have c10b0 : (a0_0 == 5) = true := beq_iff_eq.mpr c10; have c10b1 : (a0_0 != 5) = false := bne_eq_false_iff_eq.mpr c10; clear c10; have HC11 := Aside0.mk H; clear H
    go_enter Try.func14, Try.ntmps14
    go_upto_region 9 with (first | ((with_reducible refine gate_dst (N := 1) rfl ?_); refine box_event ?hg (N := 1) ?hd (cs := #[.int .i64 a0_0, .int .i64 a0_1, .int .i64 a0_2, .int .i64 a0_3, .int .i64 a0_4, .int .i64 a0_5, .int .i64 a0_6, .int .i64 a0_7, .int .i64 a0_8, .slice A0_9 l0_9.length c0_9]) (t := 40) ?hr ?_; (case hd => rfl); (case hg => rfl); (case hr => first | (go_simp; done) | (go_simp; rfl)); intro gb182 hg w12 hbox hb; have n0_ := Aside0.mk (below_step below_a hb); have BK182 := Aside0.mk (hbox); have GW182 := Aside0.mk (bsz_ (w := w) hg); have GE182 := Aside0.mk (bsz_ (w := w) hg); replace HB := n0_; clear n0_; clear hb hbox hg) | (go_at_call 39; (with_reducible refine (spec_l7Form.calls k _ a0_0 a0_1 a0_2 a0_3 a0_4 a0_5 a0_6 a0_7 a0_8 A0_9 c0_9 l0_9 true _ ?side1 ?side2 ?side3 ?side4 ?side5 ?side6 ?side7 ?side8 ?side9 ?side10 ?side11 ?side12 A2.out).mono ?_); (case side1 => repeat (first | exact (Kd.C_below HR0_9.out HB.out) | (with_reducible refine Kd.C_alloc ?_ _) | (with_reducible refine Kd.C_drewN ?_ _) | (with_reducible refine Kd.C_drew ?_))); (case side2 => exact HC0_9.out); (case side3 => exact (blk_cell blk_a 0).trans rfl); (case side4 => exact (blk_cell blk_a 1).trans rfl); (case side5 => exact (blk_cell blk_a 2).trans rfl); (case side6 => exact (blk_cell blk_a 3).trans rfl); (case side7 => exact (blk_cell blk_a 4).trans rfl); (case side8 => exact (blk_cell blk_a 5).trans rfl); (case side9 => exact (blk_cell blk_a 6).trans rfl); (case side10 => exact (blk_cell blk_a 7).trans rfl); (case side11 => exact (blk_cell blk_a 8).trans rfl); (case side12 => exact (blk_cell blk_a 9).trans rfl); rintro e w13 ⟨rfl, hb⟩; replace BK182 := Aside0.mk (blk_below (g := gb182) blk_c hb); replace HB := Aside0.mk (below_step below_a hb); (try clear hb); (try clear hb2); (try clear hk); (try clear hi); have hcz14_0 : w13.cell? ⟨gb182, 0, none⟩ = some (.int .i64 a0_0) := (blk_cell BK182.out 0).trans rfl; have hcz14_1 : w13.cell? ⟨gb182, 1, none⟩ = some (.int .i64 a0_1) := (blk_cell BK182.out 1).trans rfl; have hcz14_2 : w13.cell? ⟨gb182, 2, none⟩ = some (.int .i64 a0_2) := (blk_cell BK182.out 2).trans rfl; have hcz14_3 : w13.cell? ⟨gb182, 3, none⟩ = some (.int .i64 a0_3) := (blk_cell BK182.out 3).trans rfl; have hcz14_4 : w13.cell? ⟨gb182, 4, none⟩ = some (.int .i64 a0_4) := (blk_cell BK182.out 4).trans rfl; have hcz14_5 : w13.cell? ⟨gb182, 5, none⟩ = some (.int .i64 a0_5) := (blk_cell BK182.out 5).trans rfl; have hcz14_6 : w13.cell? ⟨gb182, 6, none⟩ = some (.int .i64 a0_6) := (blk_cell BK182.out 6).trans rfl; have hcz14_7 : w13.cell? ⟨gb182, 7, none⟩ = some (.int .i64 a0_7) := (blk_cell BK182.out 7).trans rfl; have hcz14_8 : w13.cell? ⟨gb182, 8, none⟩ = some (.int .i64 a0_8) := (blk_cell BK182.out 8).trans rfl; have hcz14_9 : w13.cell? ⟨gb182, 9, none⟩ = some (.slice A0_9 l0_9.length c0_9) := (blk_cell BK182.out 9).trans rfl; have hfz14_0 := blk_frozen BK182.out 0; have hfz14_1 := blk_frozen BK182.out 1; have hfz14_2 := blk_frozen BK182.out 2; have hfz14_3 := blk_frozen BK182.out 3; have hfz14_4 := blk_frozen BK182.out 4; have hfz14_5 := blk_frozen BK182.out 5; have hfz14_6 := blk_frozen BK182.out 6; have hfz14_7 := blk_frozen BK182.out 7; have hfz14_8 := blk_frozen BK182.out 8; have hfz14_9 := blk_frozen BK182.out 9))
    (try simp only [Act.put, List.setIfInBounds_toArray, List.set_cons_zero, List.set_cons_succ])
    go_cut [35] (fun v35 wc => ∃ (kq : Nat) (x35_10 : Bool), v35 = .bool x35_10 ∧ Aside0 (spec_MessageFault.j0 kq x35_10 a0_0 a0_1 a0_2 a0_3 a0_4 a0_5 a0_6 a0_7 a0_8 l0_9 = some r) ∧ Aside0 (kq ≤ k) ∧ Aside0 (wc.heap[gb182]? = some (.cells #[.int .i64 a0_0, .int .i64 a0_1, .int .i64 a0_2, .int .i64 a0_3, .int .i64 a0_4, .int .i64 a0_5, .int .i64 a0_6, .int .i64 a0_7, .int .i64 a0_8, (.slice A0_9 l0_9.length c0_9)] 40 (0, 0))) ∧ Aside0 (Below w.heap.size w wc))
    case first =>
     have H := HC11.out; clear HC11; replace H := Option.bind_eq_some_iff.mp H; obtain ⟨t187, A150, H⟩ := H; replace H : (if t187 = true then ((spec_l1In.f a0_8 1 255).bind fun t188 => (spec_MessageFault.j0 k (!t188) a0_0 a0_1 a0_2 a0_3 a0_4 a0_5 a0_6 a0_7 a0_8 l0_9)) else (spec_MessageFault.j0 k true a0_0 a0_1 a0_2 a0_3 a0_4 a0_5 a0_6 a0_7 a0_8 l0_9)) = some r := H; have A15 := Aside0.mk A150; clear A150
     by_cases c16 : t187 = true
     ·
      subst c16; have H1 : ((spec_l1In.f a0_8 1 255).bind fun t188 => (spec_MessageFault.j0 k (!t188) a0_0 a0_1 a0_2 a0_3 a0_4 a0_5 a0_6 a0_7 a0_8 l0_9)) = some r := by rw [if_pos rfl] at H; exact H
      clear H; have H := H1; clear H1; replace H := Option.bind_eq_some_iff.mp H; obtain ⟨t188, A170, H⟩ := H; replace H : (spec_MessageFault.j0 k (!t188) a0_0 a0_1 a0_2 a0_3 a0_4 a0_5 a0_6 a0_7 a0_8 l0_9) = some r := H; have A17 := Aside0.mk A170; clear A170; have H' := Aside0.mk H; clear H; have hcz18_0 : w13.cell? ⟨gb182, 0, none⟩ = some (.int .i64 a0_0) := (blk_cell BK182.out 0).trans rfl; have hcz18_1 : w13.cell? ⟨gb182, 1, none⟩ = some (.int .i64 a0_1) := (blk_cell BK182.out 1).trans rfl; have hcz18_2 : w13.cell? ⟨gb182, 2, none⟩ = some (.int .i64 a0_2) := (blk_cell BK182.out 2).trans rfl; have hcz18_3 : w13.cell? ⟨gb182, 3, none⟩ = some (.int .i64 a0_3) := (blk_cell BK182.out 3).trans rfl; have hcz18_4 : w13.cell? ⟨gb182, 4, none⟩ = some (.int .i64 a0_4) := (blk_cell BK182.out 4).trans rfl; have hcz18_5 : w13.cell? ⟨gb182, 5, none⟩ = some (.int .i64 a0_5) := (blk_cell BK182.out 5).trans rfl; have hcz18_6 : w13.cell? ⟨gb182, 6, none⟩ = some (.int .i64 a0_6) := (blk_cell BK182.out 6).trans rfl; have hcz18_7 : w13.cell? ⟨gb182, 7, none⟩ = some (.int .i64 a0_7) := (blk_cell BK182.out 7).trans rfl; have hcz18_8 : w13.cell? ⟨gb182, 8, none⟩ = some (.int .i64 a0_8) := (blk_cell BK182.out 8).trans rfl; have hcz18_9 : w13.cell? ⟨gb182, 9, none⟩ = some (.slice A0_9 l0_9.length c0_9) := (blk_cell BK182.out 9).trans rfl; have hfz18_0 := blk_frozen BK182.out 0; have hfz18_1 := blk_frozen BK182.out 1; have hfz18_2 := blk_frozen BK182.out 2; have hfz18_3 := blk_frozen BK182.out 3; have hfz18_4 := blk_frozen BK182.out 4; have hfz18_5 := blk_frozen BK182.out 5; have hfz18_6 := blk_frozen BK182.out 6; have hfz18_7 := blk_frozen BK182.out 7; have hfz18_8 := blk_frozen BK182.out 8; have hfz18_9 := blk_frozen BK182.out 9
      go_wp2_with (first | ((with_reducible refine gate_callee (f := 41) rfl ?_); refine goesL_ (some 27) rfl rfl Try.func41 (by kernel_rfl) rfl #[.int .i64 a0_7, .int .i64 1, .int .i64 3] rfl args_a ?_; (with_reducible refine (spec_l1In.calls a0_7 1 3 true _ A15.out).mono ?_); rintro e w' ⟨rfl, ⟨nd, rfl⟩⟩; refine ⟨_, rfl, ?_⟩) | (go_at_call 41; (with_reducible refine (spec_l1In.calls a0_8 1 255 t188 _ A17.out).mono ?_); rintro e w' ⟨rfl, ⟨nd, rfl⟩⟩))
      go_meet
      case rel => exact ⟨_, (!t188), eq_b, H', ⟨by first | omega | exact Nat.le_refl _⟩, ⟨blk_a⟩, ⟨below_a⟩⟩
     ·
      replace c16 := Bool.eq_false_iff.mpr c16; subst c16; have H1 : (spec_MessageFault.j0 k true a0_0 a0_1 a0_2 a0_3 a0_4 a0_5 a0_6 a0_7 a0_8 l0_9) = some r := by rw [if_neg (show ¬ (false = true) by decide)] at H; exact H
      clear H; have H := H1; clear H1; have H' := Aside0.mk H; clear H; have hcz19_0 : w13.cell? ⟨gb182, 0, none⟩ = some (.int .i64 a0_0) := (blk_cell BK182.out 0).trans rfl; have hcz19_1 : w13.cell? ⟨gb182, 1, none⟩ = some (.int .i64 a0_1) := (blk_cell BK182.out 1).trans rfl; have hcz19_2 : w13.cell? ⟨gb182, 2, none⟩ = some (.int .i64 a0_2) := (blk_cell BK182.out 2).trans rfl; have hcz19_3 : w13.cell? ⟨gb182, 3, none⟩ = some (.int .i64 a0_3) := (blk_cell BK182.out 3).trans rfl; have hcz19_4 : w13.cell? ⟨gb182, 4, none⟩ = some (.int .i64 a0_4) := (blk_cell BK182.out 4).trans rfl; have hcz19_5 : w13.cell? ⟨gb182, 5, none⟩ = some (.int .i64 a0_5) := (blk_cell BK182.out 5).trans rfl; have hcz19_6 : w13.cell? ⟨gb182, 6, none⟩ = some (.int .i64 a0_6) := (blk_cell BK182.out 6).trans rfl; have hcz19_7 : w13.cell? ⟨gb182, 7, none⟩ = some (.int .i64 a0_7) := (blk_cell BK182.out 7).trans rfl; have hcz19_8 : w13.cell? ⟨gb182, 8, none⟩ = some (.int .i64 a0_8) := (blk_cell BK182.out 8).trans rfl; have hcz19_9 : w13.cell? ⟨gb182, 9, none⟩ = some (.slice A0_9 l0_9.length c0_9) := (blk_cell BK182.out 9).trans rfl; have hfz19_0 := blk_frozen BK182.out 0; have hfz19_1 := blk_frozen BK182.out 1; have hfz19_2 := blk_frozen BK182.out 2; have hfz19_3 := blk_frozen BK182.out 3; have hfz19_4 := blk_frozen BK182.out 4; have hfz19_5 := blk_frozen BK182.out 5; have hfz19_6 := blk_frozen BK182.out 6; have hfz19_7 := blk_frozen BK182.out 7; have hfz19_8 := blk_frozen BK182.out 8; have hfz19_9 := blk_frozen BK182.out 9
      go_wp2_with (first | ((with_reducible refine gate_callee (f := 41) rfl ?_); refine goesL_ (some 27) rfl rfl Try.func41 (by kernel_rfl) rfl #[.int .i64 a0_7, .int .i64 1, .int .i64 3] rfl args_a ?_; (with_reducible refine (spec_l1In.calls a0_7 1 3 false _ A15.out).mono ?_); rintro e w' ⟨rfl, ⟨nd, rfl⟩⟩; refine ⟨_, rfl, ?_⟩))
      go_meet
      case rel => exact ⟨_, (true), eq_b, H', ⟨by first | omega | exact Nat.le_refl _⟩, ⟨blk_a⟩, ⟨below_a⟩⟩
    case rest =>
     clear HC11
     try clear c1
     try clear p2
     try clear c3
     try clear c4 c4b0 c4b1
     try clear c10 c10b0 c10b1
     try clear c14
     try clear c16
     try clear hcz14_0 hcz14_1 hcz14_2 hcz14_3 hcz14_4 hcz14_5 hcz14_6 hcz14_7 hcz14_8 hcz14_9
     try clear hcz18_0 hcz18_1 hcz18_2 hcz18_3 hcz18_4 hcz18_5 hcz18_6 hcz18_7 hcz18_8 hcz18_9
     try clear hcz19_0 hcz19_1 hcz19_2 hcz19_3 hcz19_4 hcz19_5 hcz19_6 hcz19_7 hcz19_8 hcz19_9
     try clear hcz8_0 hcz8_1 hcz8_2 hcz8_3 hcz8_4 hcz8_5 hcz8_6 hcz8_7 hcz8_8 hcz8_9
     try clear hfz14_0 hfz14_1 hfz14_2 hfz14_3 hfz14_4 hfz14_5 hfz14_6 hfz14_7 hfz14_8 hfz14_9
     try clear hfz18_0 hfz18_1 hfz18_2 hfz18_3 hfz18_4 hfz18_5 hfz18_6 hfz18_7 hfz18_8 hfz18_9
     try clear hfz19_0 hfz19_1 hfz19_2 hfz19_3 hfz19_4 hfz19_5 hfz19_6 hfz19_7 hfz19_8 hfz19_9
     try clear hfz8_0 hfz8_1 hfz8_2 hfz8_3 hfz8_4 hfz8_5 hfz8_6 hfz8_7 hfz8_8 hfz8_9
     obtain ⟨kq, x35_10, rfl, HA, HJ10, BK182, HB⟩ := hcut
     cases kq with
     | zero => exact absurd HA.out (by simp [spec_MessageFault.j0])
     | succ kj10 =>
      have H := HA.out; clear HA; simp only [spec_MessageFault.j0] at H
      by_cases c20 : x35_10 = true
      ·
       subst c20; have H1 : (some 3) = some r := by rw [if_pos rfl] at H; exact H
       clear H; have H := H1; clear H1; obtain rfl := Option.some.inj H
       go_wp2
       go_ret
       exact ⟨eq_a, below_a⟩
      ·
       replace c20 := Bool.eq_false_iff.mpr c20; subst c20; have H1 : (if a0_7 = 1 then (if (l0_9.length : Int) = 16 then (some 0) else (some 2)) else (if (l0_9.length : Int) = 0 then (some 0) else (some 2))) = some r := by rw [if_neg (show ¬ (false = true) by decide)] at H; exact H
       clear H; have H := H1; clear H1
       by_cases c21 : a0_7 = 1
       ·
        rw [if_pos c21] at H; have c21b0 : (a0_7 == 1) = true := beq_iff_eq.mpr c21; have c21b1 : (a0_7 != 1) = false := bne_eq_false_iff_eq.mpr c21; clear c21
        by_cases c22 : (l0_9.length : Int) = 16
        ·
         rw [if_pos c22] at H; have c22b0 : ((l0_9.length : Int) == 16) = true := beq_iff_eq.mpr c22; have c22b1 : ((l0_9.length : Int) != 16) = false := bne_eq_false_iff_eq.mpr c22; clear c22; obtain rfl := Option.some.inj H; have hcz23_0 : wc.cell? ⟨gb182, 0, none⟩ = some (.int .i64 a0_0) := (blk_cell BK182.out 0).trans rfl; have hcz23_1 : wc.cell? ⟨gb182, 1, none⟩ = some (.int .i64 a0_1) := (blk_cell BK182.out 1).trans rfl; have hcz23_2 : wc.cell? ⟨gb182, 2, none⟩ = some (.int .i64 a0_2) := (blk_cell BK182.out 2).trans rfl; have hcz23_3 : wc.cell? ⟨gb182, 3, none⟩ = some (.int .i64 a0_3) := (blk_cell BK182.out 3).trans rfl; have hcz23_4 : wc.cell? ⟨gb182, 4, none⟩ = some (.int .i64 a0_4) := (blk_cell BK182.out 4).trans rfl; have hcz23_5 : wc.cell? ⟨gb182, 5, none⟩ = some (.int .i64 a0_5) := (blk_cell BK182.out 5).trans rfl; have hcz23_6 : wc.cell? ⟨gb182, 6, none⟩ = some (.int .i64 a0_6) := (blk_cell BK182.out 6).trans rfl; have hcz23_7 : wc.cell? ⟨gb182, 7, none⟩ = some (.int .i64 a0_7) := (blk_cell BK182.out 7).trans rfl; have hcz23_8 : wc.cell? ⟨gb182, 8, none⟩ = some (.int .i64 a0_8) := (blk_cell BK182.out 8).trans rfl; have hcz23_9 : wc.cell? ⟨gb182, 9, none⟩ = some (.slice A0_9 l0_9.length c0_9) := (blk_cell BK182.out 9).trans rfl; have hfz23_0 := blk_frozen BK182.out 0; have hfz23_1 := blk_frozen BK182.out 1; have hfz23_2 := blk_frozen BK182.out 2; have hfz23_3 := blk_frozen BK182.out 3; have hfz23_4 := blk_frozen BK182.out 4; have hfz23_5 := blk_frozen BK182.out 5; have hfz23_6 := blk_frozen BK182.out 6; have hfz23_7 := blk_frozen BK182.out 7; have hfz23_8 := blk_frozen BK182.out 8; have hfz23_9 := blk_frozen BK182.out 9
         go_wp2
         go_ret
         exact ⟨eq_a, below_a⟩
        ·
         rw [if_neg c22] at H; have c22b0 : ((l0_9.length : Int) == 16) = false := beq_eq_false_iff_ne.mpr c22; have c22b1 : ((l0_9.length : Int) != 16) = true := bne_iff_ne.mpr c22; obtain rfl := Option.some.inj H; have hcz24_0 : wc.cell? ⟨gb182, 0, none⟩ = some (.int .i64 a0_0) := (blk_cell BK182.out 0).trans rfl; have hcz24_1 : wc.cell? ⟨gb182, 1, none⟩ = some (.int .i64 a0_1) := (blk_cell BK182.out 1).trans rfl; have hcz24_2 : wc.cell? ⟨gb182, 2, none⟩ = some (.int .i64 a0_2) := (blk_cell BK182.out 2).trans rfl; have hcz24_3 : wc.cell? ⟨gb182, 3, none⟩ = some (.int .i64 a0_3) := (blk_cell BK182.out 3).trans rfl; have hcz24_4 : wc.cell? ⟨gb182, 4, none⟩ = some (.int .i64 a0_4) := (blk_cell BK182.out 4).trans rfl; have hcz24_5 : wc.cell? ⟨gb182, 5, none⟩ = some (.int .i64 a0_5) := (blk_cell BK182.out 5).trans rfl; have hcz24_6 : wc.cell? ⟨gb182, 6, none⟩ = some (.int .i64 a0_6) := (blk_cell BK182.out 6).trans rfl; have hcz24_7 : wc.cell? ⟨gb182, 7, none⟩ = some (.int .i64 a0_7) := (blk_cell BK182.out 7).trans rfl; have hcz24_8 : wc.cell? ⟨gb182, 8, none⟩ = some (.int .i64 a0_8) := (blk_cell BK182.out 8).trans rfl; have hcz24_9 : wc.cell? ⟨gb182, 9, none⟩ = some (.slice A0_9 l0_9.length c0_9) := (blk_cell BK182.out 9).trans rfl; have hfz24_0 := blk_frozen BK182.out 0; have hfz24_1 := blk_frozen BK182.out 1; have hfz24_2 := blk_frozen BK182.out 2; have hfz24_3 := blk_frozen BK182.out 3; have hfz24_4 := blk_frozen BK182.out 4; have hfz24_5 := blk_frozen BK182.out 5; have hfz24_6 := blk_frozen BK182.out 6; have hfz24_7 := blk_frozen BK182.out 7; have hfz24_8 := blk_frozen BK182.out 8; have hfz24_9 := blk_frozen BK182.out 9
         go_wp2
         go_ret
         exact ⟨eq_a, below_a⟩
       ·
        rw [if_neg c21] at H; have c21b0 : (a0_7 == 1) = false := beq_eq_false_iff_ne.mpr c21; have c21b1 : (a0_7 != 1) = true := bne_iff_ne.mpr c21
        by_cases c25 : (l0_9.length : Int) = 0
        ·
         rw [if_pos c25] at H; have c25b0 : ((l0_9.length : Int) == 0) = true := beq_iff_eq.mpr c25; have c25b1 : ((l0_9.length : Int) != 0) = false := bne_eq_false_iff_eq.mpr c25; clear c25; obtain rfl := Option.some.inj H; have hcz26_0 : wc.cell? ⟨gb182, 0, none⟩ = some (.int .i64 a0_0) := (blk_cell BK182.out 0).trans rfl; have hcz26_1 : wc.cell? ⟨gb182, 1, none⟩ = some (.int .i64 a0_1) := (blk_cell BK182.out 1).trans rfl; have hcz26_2 : wc.cell? ⟨gb182, 2, none⟩ = some (.int .i64 a0_2) := (blk_cell BK182.out 2).trans rfl; have hcz26_3 : wc.cell? ⟨gb182, 3, none⟩ = some (.int .i64 a0_3) := (blk_cell BK182.out 3).trans rfl; have hcz26_4 : wc.cell? ⟨gb182, 4, none⟩ = some (.int .i64 a0_4) := (blk_cell BK182.out 4).trans rfl; have hcz26_5 : wc.cell? ⟨gb182, 5, none⟩ = some (.int .i64 a0_5) := (blk_cell BK182.out 5).trans rfl; have hcz26_6 : wc.cell? ⟨gb182, 6, none⟩ = some (.int .i64 a0_6) := (blk_cell BK182.out 6).trans rfl; have hcz26_7 : wc.cell? ⟨gb182, 7, none⟩ = some (.int .i64 a0_7) := (blk_cell BK182.out 7).trans rfl; have hcz26_8 : wc.cell? ⟨gb182, 8, none⟩ = some (.int .i64 a0_8) := (blk_cell BK182.out 8).trans rfl; have hcz26_9 : wc.cell? ⟨gb182, 9, none⟩ = some (.slice A0_9 l0_9.length c0_9) := (blk_cell BK182.out 9).trans rfl; have hfz26_0 := blk_frozen BK182.out 0; have hfz26_1 := blk_frozen BK182.out 1; have hfz26_2 := blk_frozen BK182.out 2; have hfz26_3 := blk_frozen BK182.out 3; have hfz26_4 := blk_frozen BK182.out 4; have hfz26_5 := blk_frozen BK182.out 5; have hfz26_6 := blk_frozen BK182.out 6; have hfz26_7 := blk_frozen BK182.out 7; have hfz26_8 := blk_frozen BK182.out 8; have hfz26_9 := blk_frozen BK182.out 9
         go_wp2
         go_ret
         exact ⟨eq_a, below_a⟩
        ·
         rw [if_neg c25] at H; have c25b0 : ((l0_9.length : Int) == 0) = false := beq_eq_false_iff_ne.mpr c25; have c25b1 : ((l0_9.length : Int) != 0) = true := bne_iff_ne.mpr c25; have c25b2 : ¬ (l0_9 = []) := fun h_ => c25 (by rw [h_]; rfl); obtain rfl := Option.some.inj H; have hcz27_0 : wc.cell? ⟨gb182, 0, none⟩ = some (.int .i64 a0_0) := (blk_cell BK182.out 0).trans rfl; have hcz27_1 : wc.cell? ⟨gb182, 1, none⟩ = some (.int .i64 a0_1) := (blk_cell BK182.out 1).trans rfl; have hcz27_2 : wc.cell? ⟨gb182, 2, none⟩ = some (.int .i64 a0_2) := (blk_cell BK182.out 2).trans rfl; have hcz27_3 : wc.cell? ⟨gb182, 3, none⟩ = some (.int .i64 a0_3) := (blk_cell BK182.out 3).trans rfl; have hcz27_4 : wc.cell? ⟨gb182, 4, none⟩ = some (.int .i64 a0_4) := (blk_cell BK182.out 4).trans rfl; have hcz27_5 : wc.cell? ⟨gb182, 5, none⟩ = some (.int .i64 a0_5) := (blk_cell BK182.out 5).trans rfl; have hcz27_6 : wc.cell? ⟨gb182, 6, none⟩ = some (.int .i64 a0_6) := (blk_cell BK182.out 6).trans rfl; have hcz27_7 : wc.cell? ⟨gb182, 7, none⟩ = some (.int .i64 a0_7) := (blk_cell BK182.out 7).trans rfl; have hcz27_8 : wc.cell? ⟨gb182, 8, none⟩ = some (.int .i64 a0_8) := (blk_cell BK182.out 8).trans rfl; have hcz27_9 : wc.cell? ⟨gb182, 9, none⟩ = some (.slice A0_9 l0_9.length c0_9) := (blk_cell BK182.out 9).trans rfl; have hfz27_0 := blk_frozen BK182.out 0; have hfz27_1 := blk_frozen BK182.out 1; have hfz27_2 := blk_frozen BK182.out 2; have hfz27_3 := blk_frozen BK182.out 3; have hfz27_4 := blk_frozen BK182.out 4; have hfz27_5 := blk_frozen BK182.out 5; have hfz27_6 := blk_frozen BK182.out 6; have hfz27_7 := blk_frozen BK182.out 7; have hfz27_8 := blk_frozen BK182.out 8; have hfz27_9 := blk_frozen BK182.out 9
         go_wp2
         go_ret
         exact ⟨eq_a, below_a⟩
   ·
    rw [if_neg c10] at H; have c10b0 : (a0_0 == 5) = false := beq_eq_false_iff_ne.mpr c10; have c10b1 : (a0_0 != 5) = true := bne_iff_ne.mpr c10; replace H := Option.bind_eq_some_iff.mp H; obtain ⟨t185, A280, H⟩ := H; replace H : (if t185 = true then ((spec_l1In.f a0_2 0 3).bind fun t186 => (if t186 = true then (some 0) else (some 3))) else (some 3)) = some r := H; have A28 := Aside0.mk A280; clear A280
    by_cases c29 : t185 = true
    ·
     subst c29; have H1 : ((spec_l1In.f a0_2 0 3).bind fun t186 => (if t186 = true then (some 0) else (some 3))) = some r := by rw [if_pos rfl] at H; exact H
     clear H; have H := H1; clear H1; replace H := Option.bind_eq_some_iff.mp H; obtain ⟨t186, A300, H⟩ := H; replace H : (if t186 = true then (some 0) else (some 3)) = some r := H; have A30 := Aside0.mk A300; clear A300
     by_cases c31 : t186 = true
     ·
      subst c31; have H1 : (some 0) = some r := by rw [if_pos rfl] at H; exact H
      clear H; have H := H1; clear H1; obtain rfl := Option.some.inj H
      go_enter Try.func14, Try.ntmps14
      go_wp2_with (first | ((with_reducible refine gate_dst (N := 1) rfl ?_); refine box_event ?hg (N := 1) ?hd (cs := #[.int .i64 a0_0, .int .i64 a0_1, .int .i64 a0_2, .int .i64 a0_3, .int .i64 a0_4, .int .i64 a0_5, .int .i64 a0_6, .int .i64 a0_7, .int .i64 a0_8, .slice A0_9 l0_9.length c0_9]) (t := 40) ?hr ?_; (case hd => rfl); (case hg => rfl); (case hr => first | (go_simp; done) | (go_simp; rfl)); intro gb182 hg w32 hbox hb; have n0_ := Aside0.mk (below_step below_a hb); have BK182 := Aside0.mk (hbox); have GW182 := Aside0.mk (bsz_ (w := w) hg); have GE182 := Aside0.mk (bsz_ (w := w) hg); replace HB := n0_; clear n0_; clear hb hbox hg) | (go_at_call 39; (with_reducible refine (spec_l7Form.calls k _ a0_0 a0_1 a0_2 a0_3 a0_4 a0_5 a0_6 a0_7 a0_8 A0_9 c0_9 l0_9 true _ ?side1 ?side2 ?side3 ?side4 ?side5 ?side6 ?side7 ?side8 ?side9 ?side10 ?side11 ?side12 A2.out).mono ?_); (case side1 => repeat (first | exact (Kd.C_below HR0_9.out HB.out) | (with_reducible refine Kd.C_alloc ?_ _) | (with_reducible refine Kd.C_drewN ?_ _) | (with_reducible refine Kd.C_drew ?_))); (case side2 => exact HC0_9.out); (case side3 => exact (blk_cell blk_a 0).trans rfl); (case side4 => exact (blk_cell blk_a 1).trans rfl); (case side5 => exact (blk_cell blk_a 2).trans rfl); (case side6 => exact (blk_cell blk_a 3).trans rfl); (case side7 => exact (blk_cell blk_a 4).trans rfl); (case side8 => exact (blk_cell blk_a 5).trans rfl); (case side9 => exact (blk_cell blk_a 6).trans rfl); (case side10 => exact (blk_cell blk_a 7).trans rfl); (case side11 => exact (blk_cell blk_a 8).trans rfl); (case side12 => exact (blk_cell blk_a 9).trans rfl); rintro e w33 ⟨rfl, hb⟩; replace BK182 := Aside0.mk (blk_below (g := gb182) blk_c hb); replace HB := Aside0.mk (below_step below_a hb); (try clear hb); (try clear hb2); (try clear hk); (try clear hi); have hcz34_0 : w33.cell? ⟨gb182, 0, none⟩ = some (.int .i64 a0_0) := (blk_cell BK182.out 0).trans rfl; have hcz34_1 : w33.cell? ⟨gb182, 1, none⟩ = some (.int .i64 a0_1) := (blk_cell BK182.out 1).trans rfl; have hcz34_2 : w33.cell? ⟨gb182, 2, none⟩ = some (.int .i64 a0_2) := (blk_cell BK182.out 2).trans rfl; have hcz34_3 : w33.cell? ⟨gb182, 3, none⟩ = some (.int .i64 a0_3) := (blk_cell BK182.out 3).trans rfl; have hcz34_4 : w33.cell? ⟨gb182, 4, none⟩ = some (.int .i64 a0_4) := (blk_cell BK182.out 4).trans rfl; have hcz34_5 : w33.cell? ⟨gb182, 5, none⟩ = some (.int .i64 a0_5) := (blk_cell BK182.out 5).trans rfl; have hcz34_6 : w33.cell? ⟨gb182, 6, none⟩ = some (.int .i64 a0_6) := (blk_cell BK182.out 6).trans rfl; have hcz34_7 : w33.cell? ⟨gb182, 7, none⟩ = some (.int .i64 a0_7) := (blk_cell BK182.out 7).trans rfl; have hcz34_8 : w33.cell? ⟨gb182, 8, none⟩ = some (.int .i64 a0_8) := (blk_cell BK182.out 8).trans rfl; have hcz34_9 : w33.cell? ⟨gb182, 9, none⟩ = some (.slice A0_9 l0_9.length c0_9) := (blk_cell BK182.out 9).trans rfl; have hfz34_0 := blk_frozen BK182.out 0; have hfz34_1 := blk_frozen BK182.out 1; have hfz34_2 := blk_frozen BK182.out 2; have hfz34_3 := blk_frozen BK182.out 3; have hfz34_4 := blk_frozen BK182.out 4; have hfz34_5 := blk_frozen BK182.out 5; have hfz34_6 := blk_frozen BK182.out 6; have hfz34_7 := blk_frozen BK182.out 7; have hfz34_8 := blk_frozen BK182.out 8; have hfz34_9 := blk_frozen BK182.out 9) | ((with_reducible refine gate_callee (f := 41) rfl ?_); refine goesL_ (some 17) rfl rfl Try.func41 (by kernel_rfl) rfl #[.int .i64 a0_1, .int .i64 0, .int .i64 1000000] rfl args_a ?_; (with_reducible refine (spec_l1In.calls a0_1 0 1000000 true _ A28.out).mono ?_); rintro e w' ⟨rfl, ⟨nd, rfl⟩⟩; refine ⟨_, rfl, ?_⟩) | (go_at_call 41; (with_reducible refine (spec_l1In.calls a0_2 0 3 true _ A30.out).mono ?_); rintro e w' ⟨rfl, ⟨nd, rfl⟩⟩))
      go_ret
      exact ⟨eq_a, below_a⟩
     ·
      replace c31 := Bool.eq_false_iff.mpr c31; subst c31; have H1 : (some 3) = some r := by rw [if_neg (show ¬ (false = true) by decide)] at H; exact H
      clear H; have H := H1; clear H1; obtain rfl := Option.some.inj H
      go_enter Try.func14, Try.ntmps14
      go_wp2_with (first | ((with_reducible refine gate_dst (N := 1) rfl ?_); refine box_event ?hg (N := 1) ?hd (cs := #[.int .i64 a0_0, .int .i64 a0_1, .int .i64 a0_2, .int .i64 a0_3, .int .i64 a0_4, .int .i64 a0_5, .int .i64 a0_6, .int .i64 a0_7, .int .i64 a0_8, .slice A0_9 l0_9.length c0_9]) (t := 40) ?hr ?_; (case hd => rfl); (case hg => rfl); (case hr => first | (go_simp; done) | (go_simp; rfl)); intro gb182 hg w35 hbox hb; have n0_ := Aside0.mk (below_step below_a hb); have BK182 := Aside0.mk (hbox); have GW182 := Aside0.mk (bsz_ (w := w) hg); have GE182 := Aside0.mk (bsz_ (w := w) hg); replace HB := n0_; clear n0_; clear hb hbox hg) | (go_at_call 39; (with_reducible refine (spec_l7Form.calls k _ a0_0 a0_1 a0_2 a0_3 a0_4 a0_5 a0_6 a0_7 a0_8 A0_9 c0_9 l0_9 true _ ?side1 ?side2 ?side3 ?side4 ?side5 ?side6 ?side7 ?side8 ?side9 ?side10 ?side11 ?side12 A2.out).mono ?_); (case side1 => repeat (first | exact (Kd.C_below HR0_9.out HB.out) | (with_reducible refine Kd.C_alloc ?_ _) | (with_reducible refine Kd.C_drewN ?_ _) | (with_reducible refine Kd.C_drew ?_))); (case side2 => exact HC0_9.out); (case side3 => exact (blk_cell blk_a 0).trans rfl); (case side4 => exact (blk_cell blk_a 1).trans rfl); (case side5 => exact (blk_cell blk_a 2).trans rfl); (case side6 => exact (blk_cell blk_a 3).trans rfl); (case side7 => exact (blk_cell blk_a 4).trans rfl); (case side8 => exact (blk_cell blk_a 5).trans rfl); (case side9 => exact (blk_cell blk_a 6).trans rfl); (case side10 => exact (blk_cell blk_a 7).trans rfl); (case side11 => exact (blk_cell blk_a 8).trans rfl); (case side12 => exact (blk_cell blk_a 9).trans rfl); rintro e w36 ⟨rfl, hb⟩; replace BK182 := Aside0.mk (blk_below (g := gb182) blk_c hb); replace HB := Aside0.mk (below_step below_a hb); (try clear hb); (try clear hb2); (try clear hk); (try clear hi); have hcz37_0 : w36.cell? ⟨gb182, 0, none⟩ = some (.int .i64 a0_0) := (blk_cell BK182.out 0).trans rfl; have hcz37_1 : w36.cell? ⟨gb182, 1, none⟩ = some (.int .i64 a0_1) := (blk_cell BK182.out 1).trans rfl; have hcz37_2 : w36.cell? ⟨gb182, 2, none⟩ = some (.int .i64 a0_2) := (blk_cell BK182.out 2).trans rfl; have hcz37_3 : w36.cell? ⟨gb182, 3, none⟩ = some (.int .i64 a0_3) := (blk_cell BK182.out 3).trans rfl; have hcz37_4 : w36.cell? ⟨gb182, 4, none⟩ = some (.int .i64 a0_4) := (blk_cell BK182.out 4).trans rfl; have hcz37_5 : w36.cell? ⟨gb182, 5, none⟩ = some (.int .i64 a0_5) := (blk_cell BK182.out 5).trans rfl; have hcz37_6 : w36.cell? ⟨gb182, 6, none⟩ = some (.int .i64 a0_6) := (blk_cell BK182.out 6).trans rfl; have hcz37_7 : w36.cell? ⟨gb182, 7, none⟩ = some (.int .i64 a0_7) := (blk_cell BK182.out 7).trans rfl; have hcz37_8 : w36.cell? ⟨gb182, 8, none⟩ = some (.int .i64 a0_8) := (blk_cell BK182.out 8).trans rfl; have hcz37_9 : w36.cell? ⟨gb182, 9, none⟩ = some (.slice A0_9 l0_9.length c0_9) := (blk_cell BK182.out 9).trans rfl; have hfz37_0 := blk_frozen BK182.out 0; have hfz37_1 := blk_frozen BK182.out 1; have hfz37_2 := blk_frozen BK182.out 2; have hfz37_3 := blk_frozen BK182.out 3; have hfz37_4 := blk_frozen BK182.out 4; have hfz37_5 := blk_frozen BK182.out 5; have hfz37_6 := blk_frozen BK182.out 6; have hfz37_7 := blk_frozen BK182.out 7; have hfz37_8 := blk_frozen BK182.out 8; have hfz37_9 := blk_frozen BK182.out 9) | ((with_reducible refine gate_callee (f := 41) rfl ?_); refine goesL_ (some 17) rfl rfl Try.func41 (by kernel_rfl) rfl #[.int .i64 a0_1, .int .i64 0, .int .i64 1000000] rfl args_a ?_; (with_reducible refine (spec_l1In.calls a0_1 0 1000000 true _ A28.out).mono ?_); rintro e w' ⟨rfl, ⟨nd, rfl⟩⟩; refine ⟨_, rfl, ?_⟩) | (go_at_call 41; (with_reducible refine (spec_l1In.calls a0_2 0 3 false _ A30.out).mono ?_); rintro e w' ⟨rfl, ⟨nd, rfl⟩⟩))
      go_ret
      exact ⟨eq_a, below_a⟩
    ·
     replace c29 := Bool.eq_false_iff.mpr c29; subst c29; have H1 : (some 3) = some r := by rw [if_neg (show ¬ (false = true) by decide)] at H; exact H
     clear H; have H := H1; clear H1; obtain rfl := Option.some.inj H
     go_enter Try.func14, Try.ntmps14
     go_wp2_with (first | ((with_reducible refine gate_dst (N := 1) rfl ?_); refine box_event ?hg (N := 1) ?hd (cs := #[.int .i64 a0_0, .int .i64 a0_1, .int .i64 a0_2, .int .i64 a0_3, .int .i64 a0_4, .int .i64 a0_5, .int .i64 a0_6, .int .i64 a0_7, .int .i64 a0_8, .slice A0_9 l0_9.length c0_9]) (t := 40) ?hr ?_; (case hd => rfl); (case hg => rfl); (case hr => first | (go_simp; done) | (go_simp; rfl)); intro gb182 hg w38 hbox hb; have n0_ := Aside0.mk (below_step below_a hb); have BK182 := Aside0.mk (hbox); have GW182 := Aside0.mk (bsz_ (w := w) hg); have GE182 := Aside0.mk (bsz_ (w := w) hg); replace HB := n0_; clear n0_; clear hb hbox hg) | (go_at_call 39; (with_reducible refine (spec_l7Form.calls k _ a0_0 a0_1 a0_2 a0_3 a0_4 a0_5 a0_6 a0_7 a0_8 A0_9 c0_9 l0_9 true _ ?side1 ?side2 ?side3 ?side4 ?side5 ?side6 ?side7 ?side8 ?side9 ?side10 ?side11 ?side12 A2.out).mono ?_); (case side1 => repeat (first | exact (Kd.C_below HR0_9.out HB.out) | (with_reducible refine Kd.C_alloc ?_ _) | (with_reducible refine Kd.C_drewN ?_ _) | (with_reducible refine Kd.C_drew ?_))); (case side2 => exact HC0_9.out); (case side3 => exact (blk_cell blk_a 0).trans rfl); (case side4 => exact (blk_cell blk_a 1).trans rfl); (case side5 => exact (blk_cell blk_a 2).trans rfl); (case side6 => exact (blk_cell blk_a 3).trans rfl); (case side7 => exact (blk_cell blk_a 4).trans rfl); (case side8 => exact (blk_cell blk_a 5).trans rfl); (case side9 => exact (blk_cell blk_a 6).trans rfl); (case side10 => exact (blk_cell blk_a 7).trans rfl); (case side11 => exact (blk_cell blk_a 8).trans rfl); (case side12 => exact (blk_cell blk_a 9).trans rfl); rintro e w39 ⟨rfl, hb⟩; replace BK182 := Aside0.mk (blk_below (g := gb182) blk_c hb); replace HB := Aside0.mk (below_step below_a hb); (try clear hb); (try clear hb2); (try clear hk); (try clear hi); have hcz40_0 : w39.cell? ⟨gb182, 0, none⟩ = some (.int .i64 a0_0) := (blk_cell BK182.out 0).trans rfl; have hcz40_1 : w39.cell? ⟨gb182, 1, none⟩ = some (.int .i64 a0_1) := (blk_cell BK182.out 1).trans rfl; have hcz40_2 : w39.cell? ⟨gb182, 2, none⟩ = some (.int .i64 a0_2) := (blk_cell BK182.out 2).trans rfl; have hcz40_3 : w39.cell? ⟨gb182, 3, none⟩ = some (.int .i64 a0_3) := (blk_cell BK182.out 3).trans rfl; have hcz40_4 : w39.cell? ⟨gb182, 4, none⟩ = some (.int .i64 a0_4) := (blk_cell BK182.out 4).trans rfl; have hcz40_5 : w39.cell? ⟨gb182, 5, none⟩ = some (.int .i64 a0_5) := (blk_cell BK182.out 5).trans rfl; have hcz40_6 : w39.cell? ⟨gb182, 6, none⟩ = some (.int .i64 a0_6) := (blk_cell BK182.out 6).trans rfl; have hcz40_7 : w39.cell? ⟨gb182, 7, none⟩ = some (.int .i64 a0_7) := (blk_cell BK182.out 7).trans rfl; have hcz40_8 : w39.cell? ⟨gb182, 8, none⟩ = some (.int .i64 a0_8) := (blk_cell BK182.out 8).trans rfl; have hcz40_9 : w39.cell? ⟨gb182, 9, none⟩ = some (.slice A0_9 l0_9.length c0_9) := (blk_cell BK182.out 9).trans rfl; have hfz40_0 := blk_frozen BK182.out 0; have hfz40_1 := blk_frozen BK182.out 1; have hfz40_2 := blk_frozen BK182.out 2; have hfz40_3 := blk_frozen BK182.out 3; have hfz40_4 := blk_frozen BK182.out 4; have hfz40_5 := blk_frozen BK182.out 5; have hfz40_6 := blk_frozen BK182.out 6; have hfz40_7 := blk_frozen BK182.out 7; have hfz40_8 := blk_frozen BK182.out 8; have hfz40_9 := blk_frozen BK182.out 9) | ((with_reducible refine gate_callee (f := 41) rfl ?_); refine goesL_ (some 17) rfl rfl Try.func41 (by kernel_rfl) rfl #[.int .i64 a0_1, .int .i64 0, .int .i64 1000000] rfl args_a ?_; (with_reducible refine (spec_l1In.calls a0_1 0 1000000 false _ A28.out).mono ?_); rintro e w' ⟨rfl, ⟨nd, rfl⟩⟩; refine ⟨_, rfl, ?_⟩))
     go_ret
     exact ⟨eq_a, below_a⟩
 ·
  replace c3 := Bool.eq_false_iff.mpr c3; subst c3; have H1 : (some 1) = some r := by rw [if_neg (show ¬ (false = true) by decide)] at H; exact H
  clear H; have H := H1; clear H1; obtain rfl := Option.some.inj H
  go_enter Try.func14, Try.ntmps14
  go_wp2_with (first | ((with_reducible refine gate_dst (N := 1) rfl ?_); refine box_event ?hg (N := 1) ?hd (cs := #[.int .i64 a0_0, .int .i64 a0_1, .int .i64 a0_2, .int .i64 a0_3, .int .i64 a0_4, .int .i64 a0_5, .int .i64 a0_6, .int .i64 a0_7, .int .i64 a0_8, .slice A0_9 l0_9.length c0_9]) (t := 40) ?hr ?_; (case hd => rfl); (case hg => rfl); (case hr => first | (go_simp; done) | (go_simp; rfl)); intro gb182 hg w41 hbox hb; have n0_ := Aside0.mk (below_step below_a hb); have BK182 := Aside0.mk (hbox); have GW182 := Aside0.mk (bsz_ (w := w) hg); have GE182 := Aside0.mk (bsz_ (w := w) hg); replace HB := n0_; clear n0_; clear hb hbox hg) | (go_at_call 39; (with_reducible refine (spec_l7Form.calls k _ a0_0 a0_1 a0_2 a0_3 a0_4 a0_5 a0_6 a0_7 a0_8 A0_9 c0_9 l0_9 false _ ?side1 ?side2 ?side3 ?side4 ?side5 ?side6 ?side7 ?side8 ?side9 ?side10 ?side11 ?side12 A2.out).mono ?_); (case side1 => repeat (first | exact (Kd.C_below HR0_9.out HB.out) | (with_reducible refine Kd.C_alloc ?_ _) | (with_reducible refine Kd.C_drewN ?_ _) | (with_reducible refine Kd.C_drew ?_))); (case side2 => exact HC0_9.out); (case side3 => exact (blk_cell blk_a 0).trans rfl); (case side4 => exact (blk_cell blk_a 1).trans rfl); (case side5 => exact (blk_cell blk_a 2).trans rfl); (case side6 => exact (blk_cell blk_a 3).trans rfl); (case side7 => exact (blk_cell blk_a 4).trans rfl); (case side8 => exact (blk_cell blk_a 5).trans rfl); (case side9 => exact (blk_cell blk_a 6).trans rfl); (case side10 => exact (blk_cell blk_a 7).trans rfl); (case side11 => exact (blk_cell blk_a 8).trans rfl); (case side12 => exact (blk_cell blk_a 9).trans rfl); rintro e w42 ⟨rfl, hb⟩; replace BK182 := Aside0.mk (blk_below (g := gb182) blk_c hb); replace HB := Aside0.mk (below_step below_a hb); (try clear hb); (try clear hb2); (try clear hk); (try clear hi)))
  go_ret
  exact ⟨eq_a, below_a⟩

end Go.Proofs.Ytpjelfgeohklkaa.MFnExactEncodeMessages
