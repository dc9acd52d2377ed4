-- Laid by a program of this session (the kit's print, turned where it falls short; the texts of functions that it does not take are proved by hand).
import Derived.Test.YtiioiohdifkbgaaMFnExactOpenLetterx0
namespace Go.Proofs.Ytiioiohdifkbgaa.MFnExactOpenLetter
open Go.RowKit Go.Proofs.YtiioiohdifkbgaaW.PrintWords Go.Proofs.YtiioiohdifkbgaaW.PrintLast Go.Proofs.YtiioiohdifkbgaaW.PrintMore
set_option maxHeartbeats 8000000
set_option maxRecDepth 100000
attribute [local go_sem] max2_int min2_int max_two min_two max_three min_three max_four min_four   -- for this text's walks alone
set_option linter.unusedVariables false
set_option linter.unusedSimpArgs false
attribute [local go_sem] isSome_setCell
def laws_szByteS.f (l0 : List Int) (a1 : Int) : Option (Int) := if (wrap64 (a1 - (l0.length : Int))) < 0 then (some (-1)) else (some (wrap64 (a1 - (l0.length : Int))))
theorem laws_szByteS.calls (A0 : Option Addr) (c0 : Nat) (l0 : List Int) (a1 : Int) (r : Int) (w : World) (hr0 : Kd.C (Kd.int .u8) w A0 l0.length l0) (hc0 : l0.length ≤ c0) (h : laws_szByteS.f l0 a1 = some r) :
  Calls Try.prog 96 #[.slice A0 l0.length c0, .int .i64 a1] w fun e w' => e = .returned (.int .i64 r) ∧ Drawn0 w w' := by
 have HR0 := A_ hr0
 have HC0 := A_ hc0
 clear hr0 hc0
 have H : (if (wrap64 (a1 - (l0.length : Int))) < 0 then (some (-1)) else (some (wrap64 (a1 - (l0.length : Int))))) = some r := h
 clear h
 by_cases c3 : (wrap64 (a1 - (l0.length : Int))) < 0
 ·
  rw [if_pos c3] at H; have c3b0 : decide ((wrap64 (a1 - (l0.length : Int))) < 0) = true := decide_eq_true c3; (try (have c3b1 : decide ((IntKind.i64.wrap (a1 - (l0.length : Int))) < 0) = true := by simp only [i64_w]; exact decide_eq_true c3)); clear c3; obtain rfl := Option.some.inj H
  go_enter Try.func96, Try.ntmps96
  go_wp2
  go_ret
  exact ⟨eq_b, by repeat (first | exact Drawn0.refl _ | apply Drawn0.step)⟩
 ·
  rw [if_neg c3] at H; have c3b0 : decide ((wrap64 (a1 - (l0.length : Int))) < 0) = false := decide_eq_false c3; (try (have c3b1 : decide ((IntKind.i64.wrap (a1 - (l0.length : Int))) < 0) = false := by simp only [i64_w]; exact decide_eq_false c3)); clear c3; obtain rfl := Option.some.inj H
  go_enter Try.func96, Try.ntmps96
  go_wp2
  go_ret
  exact ⟨eq_b, by repeat (first | exact Drawn0.refl _ | apply Drawn0.step)⟩
def laws_szKey.f (a0_0 : Int) (l0_1 : List Int) (a1 : Int) : Option (Int) := (laws_szByteS.f l0_1 a1).bind fun t102 => (if t102 < 0 then (some (-1)) else (some t102))
theorem laws_szKey.calls (a0_0 : Int) (A0_1 : Option Addr) (c0_1 : Nat) (l0_1 : List Int) (a1 : Int) (r : Int) (w : World) (hr0_1 : Kd.C (Kd.int .u8) w A0_1 l0_1.length l0_1) (hc0_1 : l0_1.length ≤ c0_1) (h : laws_szKey.f a0_0 l0_1 a1 = some r) :
  Calls Try.prog 72 #[.agg #[.int .i64 a0_0, .slice A0_1 l0_1.length c0_1], .int .i64 a1] w fun e w' => e = .returned (.int .i64 r) ∧ Below w.heap.size w w' := by
 have hu100 := Try.underlying100
 have HR0_1 := A_ hr0_1
 have HC0_1 := A_ hc0_1
 clear hr0_1 hc0_1
 have HB := A_ (Below.refl w.heap.size w)
 have H : ((laws_szByteS.f l0_1 a1).bind fun t102 => (if t102 < 0 then (some (-1)) else (some t102))) = some r := h
 clear h
 obtain ⟨t102, A30, H⟩ := bi_ H
 replace H : (if t102 < 0 then (some (-1)) else (some t102)) = some r := H
 have A3 := A_ A30
 clear A30
 by_cases c4 : t102 < 0
 ·
  rw [if_pos c4] at H; have c4b0 : decide (t102 < 0) = true := decide_eq_true c4; clear c4; obtain rfl := Option.some.inj H
  go_enter Try.func72, Try.ntmps72
  go_wp2_with (first | ((with_reducible refine gate_dst (N := 2) rfl ?_); refine bx_ 2 (#[.int .i64 a0_0, .slice A0_1 l0_1.length c0_1]) 100 rfl rfl ?hr ?_; (case hr => go_simp <;> rfl); intro gb101 hg w5 hbox hb; have n0_ := bs_ hb; have BK101 := A_ (hbox); have GW101 := gw_ (w := w) hg; replace HB := n0_; clear n0_; clear hb hbox hg; obtain ⟨hcz6_0, hcz6_1, hfz6_0, hfz6_1⟩ := bc2_ BK101.out) | ((with_reducible refine gate_callee (f := 96) rfl ?_); refine goesL_ (some 8) rfl rfl Try.func96 (by kernel_rfl) rfl #[.slice A0_1 l0_1.length c0_1, .int .i64 a1] rfl args_a ?_; (with_reducible refine (laws_szByteS.calls _ _ l0_1 a1 t102 _ ?side1 ?side2 A3.out).mono ?_); (case side1 => exact ca_ (Kd.C_below HR0_1.out HB.out)); (case side2 => exact HC0_1.out); rintro e w' ⟨rfl, ⟨nd, rfl⟩⟩; refine ⟨_, rfl, ?_⟩))
  go_ret
  exact ⟨eq_a, below_a⟩
 ·
  rw [if_neg c4] at H; have c4b0 : decide (t102 < 0) = false := decide_eq_false c4; clear c4; obtain rfl := Option.some.inj H
  go_enter Try.func72, Try.ntmps72
  go_wp2_with (first | ((with_reducible refine gate_dst (N := 2) rfl ?_); refine bx_ 2 (#[.int .i64 a0_0, .slice A0_1 l0_1.length c0_1]) 100 rfl rfl ?hr ?_; (case hr => go_simp <;> rfl); intro gb101 hg w7 hbox hb; have n0_ := bs_ hb; have BK101 := A_ (hbox); have GW101 := gw_ (w := w) hg; replace HB := n0_; clear n0_; clear hb hbox hg; obtain ⟨hcz8_0, hcz8_1, hfz8_0, hfz8_1⟩ := bc2_ BK101.out) | ((with_reducible refine gate_callee (f := 96) rfl ?_); refine goesL_ (some 8) rfl rfl Try.func96 (by kernel_rfl) rfl #[.slice A0_1 l0_1.length c0_1, .int .i64 a1] rfl args_a ?_; (with_reducible refine (laws_szByteS.calls _ _ l0_1 a1 t102 _ ?side1 ?side2 A3.out).mono ?_); (case side1 => exact ca_ (Kd.C_below HR0_1.out HB.out)); (case side2 => exact HC0_1.out); rintro e w' ⟨rfl, ⟨nd, rfl⟩⟩; refine ⟨_, rfl, ?_⟩))
  go_ret
  exact ⟨eq_a, below_a⟩
def laws_szKeyS.l0 : Nat → List (S100) → Int → Int → Option (Int)
 | 0, _, _, _ => none
 | k + 1, x0, x1, x5 => if x5 < (x0.length : Int) then (if 0 ≤ x5 then ((laws_szKey.f ((rd_T100 x0 x5).f0) ((rd_T100 x0 x5).f1) x1).bind fun t104 => (if t104 < 0 then (some (-1)) else (laws_szKeyS.l0 k x0 t104 (wrap64 (x5 + 1))))) else (none)) else (some x1)
def laws_szKeyS.f (k : Nat) (l0 : List (S100)) (a1 : Int) : Option (Int) := if (wrap64 (a1 - (l0.length : Int))) < 0 then (some (-1)) else (laws_szKeyS.l0 k l0 (wrap64 (a1 - (l0.length : Int))) 0)
theorem laws_szKeyS.calls (k : Nat) (A0 : Option Addr) (c0 : Nat) (l0 : List (S100)) (a1 : Int) (r : Int) (w : World) (hr0 : Kd.C k100 w A0 l0.length l0) (hc0 : l0.length ≤ c0) (h : laws_szKeyS.f k l0 a1 = some r) :
  Calls Try.prog 33 #[.slice A0 l0.length c0, .int .i64 a1] w fun e w' => e = .returned (.int .i64 r) ∧ Below w.heap.size w w' := by
 have hu100 := Try.underlying100
 have HR0 := A_ hr0
 have HC0 := A_ hc0
 clear hr0 hc0
 have HB := A_ (Below.refl w.heap.size w)
 have H : (if (wrap64 (a1 - (l0.length : Int))) < 0 then (some (-1)) else (laws_szKeyS.l0 k l0 (wrap64 (a1 - (l0.length : Int))) 0)) = some r := h
 clear h
 by_cases c3 : (wrap64 (a1 - (l0.length : Int))) < 0
 ·
  rw [if_pos c3] at H; have c3b0 : decide ((wrap64 (a1 - (l0.length : Int))) < 0) = true := decide_eq_true c3; (try (have c3b1 : decide ((IntKind.i64.wrap (a1 - (l0.length : Int))) < 0) = true := by simp only [i64_w]; exact decide_eq_true c3)); clear c3; obtain rfl := Option.some.inj H
  go_enter Try.func33, Try.ntmps33
  go_wp2
  go_ret
  exact ⟨eq_a, below_a⟩
 ·
  rw [if_neg c3] at H; have c3b0 : decide ((wrap64 (a1 - (l0.length : Int))) < 0) = false := decide_eq_false c3; (try (have c3b1 : decide ((IntKind.i64.wrap (a1 - (l0.length : Int))) < 0) = false := by simp only [i64_w]; exact decide_eq_false c3)); clear c3; have H' := A_ H; clear H
  go_enter Try.func33, Try.ntmps33
  go_wp2
  go_loopg [1, 5] k (fun kq v1 v5 w' => ∃ (x1_1 : Int) (x5_1 : Int), v1 = .int .i64 x1_1 ∧ v5 = .int .i64 x5_1 ∧ Aside0 (laws_szKeyS.l0 kq l0 x1_1 x5_1 = some r) ∧ Aside0 (kq ≤ k) ∧ Aside0 (Below w.heap.size w w'))
  case atStart => exact ⟨(wrap64 (a1 - (l0.length : Int))), (0), eq_b, eq_b, H', ⟨Nat.le_refl _⟩, ⟨below_a⟩⟩
  case round =>
   clear H'
   try clear p2
   try clear c3 c3b0 c3b1
   obtain ⟨x1_1, x5_1, rfl, rfl, HA, HK1, HB⟩ := hrel
   cases gk with
   | zero => exact absurd HA.out (by simp [laws_szKeyS.l0])
   | succ k1 =>
    have H := HA.out; clear HA; simp only [laws_szKeyS.l0] at H
    by_cases c4 : x5_1 < (l0.length : Int)
    ·
     rw [if_pos c4] at H; have c4b0 : decide (x5_1 < (l0.length : Int)) = true := decide_eq_true c4; clear c4
     by_cases c5 : 0 ≤ x5_1
     rotate_left
     · rw [if_neg c5] at H; exact absurd H (by simp)
     rw [if_pos c5] at H; have c5b0 : decide (0 ≤ x5_1) = true := decide_eq_true c5; clear c5; obtain ⟨t104, A60, H⟩ := bi_ H; replace H : (if t104 < 0 then (some (-1)) else (laws_szKeyS.l0 k1 l0 t104 (wrap64 (x5_1 + 1)))) = some r := H; have A6 := A_ A60; clear A60
     by_cases c7 : t104 < 0
     ·
      rw [if_pos c7] at H; have c7b0 : decide (t104 < 0) = true := decide_eq_true c7; clear c7; obtain rfl := Option.some.inj H; have p103 : 0 ≤ (x5_1 : Int) := od_; have q103 : x5_1 < (l0.length : Int) := od_; obtain ⟨ad103, A103_1, c103_1, e103, hx103_0, hx103_1, hl103_1, hi103_1⟩ := at_T100 HR0.out x5_1 p103 q103
      cases e103
      replace hx103_0 := hc_ HB hx103_0; replace hx103_1 := hc_ HB hx103_1; have HR103_1 := A_ hi103_1; have HC103_1 := A_ hl103_1; clear hi103_1 hl103_1; replace p103 := eq_true p103; replace q103 := eq_true q103
      go_wp2_with (first | ((with_reducible refine gate_callee (f := 72) rfl ?_); refine goesL_ (some 23) rfl rfl Try.func72 (by kernel_rfl) rfl #[.agg #[.int .i64 ((rd_T100 l0 x5_1).f0), .slice A103_1 ((rd_T100 l0 x5_1).f1).length c103_1], .int .i64 x1_1] rfl args_a ?_; (with_reducible refine (laws_szKey.calls ((rd_T100 l0 x5_1).f0) _ _ ((rd_T100 l0 x5_1).f1) x1_1 t104 _ ?side1 ?side2 A6.out).mono ?_); (case side1 => exact ca_ (Kd.C_below HR103_1.out HB.out)); (case side2 => exact HC103_1.out); rintro e w8 ⟨rfl, hb⟩; refine ⟨_, rfl, ?_⟩; replace HB := bs_ hb; (try clear hb)))
      go_ret
      exact ⟨eq_a, below_a⟩
     ·
      rw [if_neg c7] at H; have c7b0 : decide (t104 < 0) = false := decide_eq_false c7; clear c7; have H' := A_ H; clear H; have p103 : 0 ≤ (x5_1 : Int) := od_; have q103 : x5_1 < (l0.length : Int) := od_; obtain ⟨ad103, A103_1, c103_1, e103, hx103_0, hx103_1, hl103_1, hi103_1⟩ := at_T100 HR0.out x5_1 p103 q103
      cases e103
      replace hx103_0 := hc_ HB hx103_0; replace hx103_1 := hc_ HB hx103_1; have HR103_1 := A_ hi103_1; have HC103_1 := A_ hl103_1; clear hi103_1 hl103_1; replace p103 := eq_true p103; replace q103 := eq_true q103
      go_wp2_with (first | ((with_reducible refine gate_callee (f := 72) rfl ?_); refine goesL_ (some 23) rfl rfl Try.func72 (by kernel_rfl) rfl #[.agg #[.int .i64 ((rd_T100 l0 x5_1).f0), .slice A103_1 ((rd_T100 l0 x5_1).f1).length c103_1], .int .i64 x1_1] rfl args_a ?_; (with_reducible refine (laws_szKey.calls ((rd_T100 l0 x5_1).f0) _ _ ((rd_T100 l0 x5_1).f1) x1_1 t104 _ ?side1 ?side2 A6.out).mono ?_); (case side1 => exact ca_ (Kd.C_below HR103_1.out HB.out)); (case side2 => exact HC103_1.out); rintro e w9 ⟨rfl, hb⟩; refine ⟨_, rfl, ?_⟩; replace HB := bs_ hb; (try clear hb)))
      go_roundg k1
      case measure => have := HK1.out; omega
      case rel => exact ⟨(t104), (wrap64 (x5_1 + 1)), eq_b, eq_b, H', ⟨by have := HK1.out; omega⟩, ⟨below_a⟩⟩
    ·
     rw [if_neg c4] at H; have c4b0 : decide (x5_1 < (l0.length : Int)) = false := decide_eq_false c4; clear c4; obtain rfl := Option.some.inj H
     go_wp2
     go_ret
     exact ⟨eq_a, below_a⟩
def laws_szRing.f (k : Nat) (a0_0 : Int) (l0_1 : List (S100)) (a1 : Int) : Option (Int) := (laws_szKeyS.f k l0_1 a1).bind fun t106 => (if t106 < 0 then (some (-1)) else (some t106))
theorem laws_szRing.calls (k : Nat) (a0_0 : Int) (A0_1 : Option Addr) (c0_1 : Nat) (l0_1 : List (S100)) (a1 : Int) (r : Int) (w : World) (hr0_1 : Kd.C k100 w A0_1 l0_1.length l0_1) (hc0_1 : l0_1.length ≤ c0_1) (h : laws_szRing.f k a0_0 l0_1 a1 = some r) :
  Calls Try.prog 5 #[.agg #[.int .i64 a0_0, .slice A0_1 l0_1.length c0_1], .int .i64 a1] w fun e w' => e = .returned (.int .i64 r) ∧ Below w.heap.size w w' := by
 have hu24 := Try.underlying24
 have HR0_1 := A_ hr0_1
 have HC0_1 := A_ hc0_1
 clear hr0_1 hc0_1
 have HB := A_ (Below.refl w.heap.size w)
 have H : ((laws_szKeyS.f k l0_1 a1).bind fun t106 => (if t106 < 0 then (some (-1)) else (some t106))) = some r := h
 clear h
 obtain ⟨t106, A30, H⟩ := bi_ H
 replace H : (if t106 < 0 then (some (-1)) else (some t106)) = some r := H
 have A3 := A_ A30
 clear A30
 by_cases c4 : t106 < 0
 ·
  rw [if_pos c4] at H; have c4b0 : decide (t106 < 0) = true := decide_eq_true c4; clear c4; obtain rfl := Option.some.inj H
  go_enter Try.func5, Try.ntmps5
  go_wp2_with (first | ((with_reducible refine gate_dst (N := 2) rfl ?_); refine bx_ 2 (#[.int .i64 a0_0, .slice A0_1 l0_1.length c0_1]) 24 rfl rfl ?hr ?_; (case hr => go_simp <;> rfl); intro gb105 hg w5 hbox hb; have n0_ := bs_ hb; have BK105 := A_ (hbox); have GW105 := gw_ (w := w) hg; replace HB := n0_; clear n0_; clear hb hbox hg; obtain ⟨hcz6_0, hcz6_1, hfz6_0, hfz6_1⟩ := bc2_ BK105.out) | ((with_reducible refine gate_callee (f := 33) rfl ?_); refine goesL_ (some 8) rfl rfl Try.func33 (by kernel_rfl) rfl #[.slice A0_1 l0_1.length c0_1, .int .i64 a1] rfl args_a ?_; (with_reducible refine (laws_szKeyS.calls k _ _ l0_1 a1 t106 _ ?side1 ?side2 A3.out).mono ?_); (case side1 => exact ca_ (Kd.C_below HR0_1.out HB.out)); (case side2 => exact HC0_1.out); rintro e w7 ⟨rfl, hb⟩; refine ⟨_, rfl, ?_⟩; replace BK105 := bw_ gb105 hb; replace HB := bs_ hb; (try clear hb)))
  go_ret
  exact ⟨eq_a, below_a⟩
 ·
  rw [if_neg c4] at H; have c4b0 : decide (t106 < 0) = false := decide_eq_false c4; clear c4; obtain rfl := Option.some.inj H
  go_enter Try.func5, Try.ntmps5
  go_wp2_with (first | ((with_reducible refine gate_dst (N := 2) rfl ?_); refine bx_ 2 (#[.int .i64 a0_0, .slice A0_1 l0_1.length c0_1]) 24 rfl rfl ?hr ?_; (case hr => go_simp <;> rfl); intro gb105 hg w8 hbox hb; have n0_ := bs_ hb; have BK105 := A_ (hbox); have GW105 := gw_ (w := w) hg; replace HB := n0_; clear n0_; clear hb hbox hg; obtain ⟨hcz9_0, hcz9_1, hfz9_0, hfz9_1⟩ := bc2_ BK105.out) | ((with_reducible refine gate_callee (f := 33) rfl ?_); refine goesL_ (some 8) rfl rfl Try.func33 (by kernel_rfl) rfl #[.slice A0_1 l0_1.length c0_1, .int .i64 a1] rfl args_a ?_; (with_reducible refine (laws_szKeyS.calls k _ _ l0_1 a1 t106 _ ?side1 ?side2 A3.out).mono ?_); (case side1 => exact ca_ (Kd.C_below HR0_1.out HB.out)); (case side2 => exact HC0_1.out); rintro e w10 ⟨rfl, hb⟩; refine ⟨_, rfl, ?_⟩; replace BK105 := bw_ gb105 hb; replace HB := bs_ hb; (try clear hb)))
  go_ret
  exact ⟨eq_a, below_a⟩
def spec_l1Read.l0 : Nat → List Int → Int → Int → Int → Int → Option (Int)
 | 0, _, _, _, _, _ => none
 | k + 1, x0, x1, x2, x7, x8 => if x8 < x2 then (if 0 ≤ (wrap64 (x1 + x8)) then (if (wrap64 (x1 + x8)) < (x0.length : Int) then (spec_l1Read.l0 k x0 x1 x2 (wrap64 ((wrap64 (x7 * 256)) + (wrap64 (rd x0 (wrap64 (x1 + x8)))))) (wrap64 (x8 + 1))) else (none)) else (none)) else (some x7)
def spec_l1Read.f (k : Nat) (l0 : List Int) (a1 : Int) (a2 : Int) : Option (Int) := spec_l1Read.l0 k l0 a1 a2 0 0
theorem spec_l1Read.calls (k : Nat) (A0 : Option Addr) (c0 : Nat) (l0 : List Int) (a1 : Int) (a2 : Int) (r : Int) (w : World) (hr0 : Kd.C (Kd.int .u8) w A0 l0.length l0) (hc0 : l0.length ≤ c0) (h : spec_l1Read.f k l0 a1 a2 = some r) :
  Calls Try.prog 65 #[.slice A0 l0.length c0, .int .i64 a1, .int .i64 a2] w fun e w' => e = .returned (.int .i64 r) ∧ Drawn0 w w' := by
 have HR0 := A_ hr0
 have HC0 := A_ hc0
 clear hr0 hc0
 have H : (spec_l1Read.l0 k l0 a1 a2 0 0) = some r := h
 clear h
 have H' := A_ H
 clear H
 go_enter Try.func65, Try.ntmps65
 go_wp2
 go_loopg [7, 8] k (fun kq v7 v8 w' => ∃ (x7_1 : Int) (x8_1 : Int), v7 = .int .i64 x7_1 ∧ v8 = .int .i64 x8_1 ∧ Aside0 (spec_l1Read.l0 kq l0 a1 a2 x7_1 x8_1 = some r) ∧ Aside0 (kq ≤ k) ∧ Drawn0 w w')
 case atStart => exact ⟨(0), (0), eq_b, eq_b, H', ⟨Nat.le_refl _⟩, by repeat (first | exact Drawn0.refl _ | apply Drawn0.step)⟩
 case round =>
  clear H'
  try clear p2
  obtain ⟨x7_1, x8_1, rfl, rfl, HA, HK1, ⟨m1, rfl⟩⟩ := hrel
  cases gk with
  | zero => exact absurd HA.out (by simp [spec_l1Read.l0])
  | succ k1 =>
   have H := HA.out; clear HA; simp only [spec_l1Read.l0] at H
   by_cases c4 : x8_1 < a2
   ·
    rw [if_pos c4] at H; have c4b0 : decide (x8_1 < a2) = true := decide_eq_true c4; clear c4; obtain ⟨ji5, hji5⟩ : ∃ j_ : Int, (wrap64 (a1 + x8_1)) = j_ := ⟨_, rfl⟩; replace H : (if 0 ≤ (ji5) then (if (ji5) < (l0.length : Int) then (spec_l1Read.l0 k1 l0 a1 a2 (wrap64 ((wrap64 (x7_1 * 256)) + (wrap64 (rd l0 (ji5))))) (wrap64 (x8_1 + 1))) else (none)) else (none)) = some r := by first | (rw [hji5] at H; exact H) | (simp only [hji5] at H ⊢; exact H)
    have hji5w : (IntKind.i64.wrap (a1 + x8_1)) = ji5 := (i64_w _).trans hji5
    by_cases c6 : 0 ≤ (ji5)
    rotate_left
    · rw [if_neg c6] at H; exact absurd H (by simp)
    rw [if_pos c6] at H; have c6b0 : decide (0 ≤ (ji5)) = true := decide_eq_true c6; clear c6
    by_cases c7 : (ji5) < (l0.length : Int)
    rotate_left
    · rw [if_neg c7] at H; exact absurd H (by simp)
    rw [if_pos c7] at H; have c7b0 : decide ((ji5) < (l0.length : Int)) = true := decide_eq_true c7; clear c7; have H' := A_ H; clear H; have p107 : 0 ≤ ((ji5) : Int) := od_; have q107 : (ji5) < (l0.length : Int) := od_; obtain ⟨ad107, e107, hx107_0⟩ := Kd.at_int HR0.out (ji5) p107 q107
    cases e107
    replace p107 := eq_true p107; replace q107 := eq_true q107
    go_wp2
    go_roundg k1
    case measure => have := HK1.out; omega
    case rel => exact ⟨(wrap64 ((wrap64 (x7_1 * 256)) + (wrap64 (rd l0 (ji5))))), (wrap64 (x8_1 + 1)), (by first | rfl | (simp; done) | (simp only [← hji5] <;> (first | rfl | simp)) | (simp [*]; done)), eq_b, H', ⟨by have := HK1.out; omega⟩, by repeat (first | exact Drawn0.refl _ | apply Drawn0.step)⟩
   ·
    rw [if_neg c4] at H; have c4b0 : decide (x8_1 < a2) = false := decide_eq_false c4; clear c4; obtain rfl := Option.some.inj H
    go_wp2
    go_ret
    exact ⟨eq_b, by repeat (first | exact Drawn0.refl _ | apply Drawn0.step)⟩
def spec_l1In.f (a0 : Int) (a1 : Int) (a2 : Int) : Option (Bool) := if a0 ≥ a1 then (some (decide (a0 ≤ a2))) else (some false)
theorem spec_l1In.calls (a0 : Int) (a1 : Int) (a2 : Int) (r : Bool) (w : World) (h : spec_l1In.f a0 a1 a2 = some r) :
  Calls Try.prog 95 #[.int .i64 a0, .int .i64 a1, .int .i64 a2] w fun e w' => e = .returned (.bool r) ∧ Drawn0 w w' := by
 have H : (if a0 ≥ a1 then (some (decide (a0 ≤ a2))) else (some false)) = some r := h
 clear h
 by_cases c4 : a0 ≥ a1
 ·
  rw [if_pos c4] at H; have c4b0 : decide (a1 ≤ a0) = true := decide_eq_true c4; clear c4; obtain rfl := Option.some.inj H
  go_enter Try.func95, Try.ntmps95
  go_wp2
  go_ret
  exact ⟨eq_b, by repeat (first | exact Drawn0.refl _ | apply Drawn0.step)⟩
 ·
  rw [if_neg c4] at H; have c4b0 : decide (a1 ≤ a0) = false := decide_eq_false c4; clear c4; obtain rfl := Option.some.inj H
  go_enter Try.func95, Try.ntmps95
  go_wp2
  go_ret
  exact ⟨eq_b, by repeat (first | exact Drawn0.refl _ | apply Drawn0.step)⟩
def spec_l5Head.f (a0_0 : Int) (a0_1 : Int) (a0_2 : Int) (l0_3 : List Int) : Option (Bool) := (spec_l1In.f a0_0 1 255).bind fun t108 => (if t108 = true then ((spec_l1In.f a0_1 0 15).bind fun t109 => (if t109 = true then ((spec_l1In.f a0_2 0 1000000000).bind fun t110 => (some t110)) else (some false))) else (some false))
theorem spec_l5Head.calls (p : Addr) (a0_0 : Int) (a0_1 : Int) (a0_2 : Int) (A0_3 : Option Addr) (c0_3 : Nat) (l0_3 : List Int) (r : Bool) (w : World) (hr0_3 : Kd.C (Kd.int .u8) w A0_3 l0_3.length l0_3) (hc0_3 : l0_3.length ≤ c0_3) (hxp_0 : w.cell? p = some (.int .i64 a0_0)) (hxp_1 : w.cell? ⟨p.block, p.off + 1, none⟩ = some (.int .i64 a0_1)) (hxp_2 : w.cell? ⟨p.block, p.off + 2, none⟩ = some (.int .i64 a0_2)) (hxp_3 : w.cell? ⟨p.block, p.off + 3, none⟩ = some (.slice A0_3 l0_3.length c0_3)) (h : spec_l5Head.f a0_0 a0_1 a0_2 l0_3 = some r) :
  Calls Try.prog 66 #[.pointer (some p)] w fun e w' => e = .returned (.bool r) ∧ Below w.heap.size w w' := by
 have HXP_0 := A_ hxp_0
 have HXP_1 := A_ hxp_1
 have HXP_2 := A_ hxp_2
 have HXP_3 := A_ hxp_3
 have HLP := A_ (show p.block < w.heap.size from World.block_lt_of_cell? w _ hxp_0)
 clear hxp_0 hxp_1 hxp_2 hxp_3
 have HR0_3 := A_ hr0_3
 have HC0_3 := A_ hc0_3
 clear hr0_3 hc0_3
 have HB := A_ (Below.refl w.heap.size w)
 have H : ((spec_l1In.f a0_0 1 255).bind fun t108 => (if t108 = true then ((spec_l1In.f a0_1 0 15).bind fun t109 => (if t109 = true then ((spec_l1In.f a0_2 0 1000000000).bind fun t110 => (some t110)) else (some false))) else (some false))) = some r := h
 clear h
 obtain ⟨t108, A20, H⟩ := bi_ H
 (try dsimp only at H)
 have A2 := A_ A20
 clear A20
 by_cases c3 : t108 = true
 ·
  subst c3; have H1 : ((spec_l1In.f a0_1 0 15).bind fun t109 => (if t109 = true then ((spec_l1In.f a0_2 0 1000000000).bind fun t110 => (some t110)) else (some false))) = some r := by rw [if_pos rfl] at H; exact H
  clear H; have H := H1; clear H1; obtain ⟨t109, A40, H⟩ := bi_ H; replace H : (if t109 = true then ((spec_l1In.f a0_2 0 1000000000).bind fun t110 => (some t110)) else (some false)) = some r := H; have A4 := A_ A40; clear A40
  by_cases c5 : t109 = true
  ·
   subst c5; have H1 : ((spec_l1In.f a0_2 0 1000000000).bind fun t110 => (some t110)) = some r := by rw [if_pos rfl] at H; exact H
   clear H; have H := H1; clear H1; obtain ⟨t110, A60, H⟩ := bi_ H; replace H : (some t110) = some r := H; have A6 := A_ A60; clear A60; obtain rfl := Option.some.inj H; have hcz7_0 : w.cell? p = some (.int .i64 a0_0) := (HB.out.cell (p := p) HLP.out).trans HXP_0.out; have hcz7_1 : w.cell? ⟨p.block, p.off + 1, none⟩ = some (.int .i64 a0_1) := (HB.out.cell (p := ⟨p.block, p.off + 1, none⟩) HLP.out).trans HXP_1.out; have hcz7_2 : w.cell? ⟨p.block, p.off + 2, none⟩ = some (.int .i64 a0_2) := (HB.out.cell (p := ⟨p.block, p.off + 2, none⟩) HLP.out).trans HXP_2.out; have hcz7_3 : w.cell? ⟨p.block, p.off + 3, none⟩ = some (.slice A0_3 l0_3.length c0_3) := (HB.out.cell (p := ⟨p.block, p.off + 3, none⟩) HLP.out).trans HXP_3.out
   go_enter Try.func66, Try.ntmps66
   go_wp2_with (first | ((with_reducible refine gate_callee (f := 95) rfl ?_); refine goesL_ (some 7) rfl rfl Try.func95 (by kernel_rfl) rfl #[.int .i64 a0_0, .int .i64 1, .int .i64 255] rfl args_a ?_; (with_reducible refine (spec_l1In.calls a0_0 1 255 true _ A2.out).mono ?_); rintro e w' ⟨rfl, ⟨nd, rfl⟩⟩; refine ⟨_, rfl, ?_⟩) | (go_at_call 95; (with_reducible refine (spec_l1In.calls a0_1 0 15 true _ A4.out).mono ?_); rintro e w' ⟨rfl, ⟨nd, rfl⟩⟩) | (go_at_call 95; (with_reducible refine (spec_l1In.calls a0_2 0 1000000000 t110 _ A6.out).mono ?_); rintro e w' ⟨rfl, ⟨nd, rfl⟩⟩))
   go_ret
   exact ⟨eq_a, below_a⟩
  ·
   replace c5 := Bool.eq_false_iff.mpr c5; subst c5; have H1 : (some false) = some r := by rw [if_neg (show ¬ (false = true) by decide)] at H; exact H
   clear H; have H := H1; clear H1; obtain rfl := Option.some.inj H; have hcz8_0 : w.cell? p = some (.int .i64 a0_0) := (HB.out.cell (p := p) HLP.out).trans HXP_0.out; have hcz8_1 : w.cell? ⟨p.block, p.off + 1, none⟩ = some (.int .i64 a0_1) := (HB.out.cell (p := ⟨p.block, p.off + 1, none⟩) HLP.out).trans HXP_1.out; have hcz8_2 : w.cell? ⟨p.block, p.off + 2, none⟩ = some (.int .i64 a0_2) := (HB.out.cell (p := ⟨p.block, p.off + 2, none⟩) HLP.out).trans HXP_2.out; have hcz8_3 : w.cell? ⟨p.block, p.off + 3, none⟩ = some (.slice A0_3 l0_3.length c0_3) := (HB.out.cell (p := ⟨p.block, p.off + 3, none⟩) HLP.out).trans HXP_3.out
   go_enter Try.func66, Try.ntmps66
   go_wp2_with (first | ((with_reducible refine gate_callee (f := 95) rfl ?_); refine goesL_ (some 7) rfl rfl Try.func95 (by kernel_rfl) rfl #[.int .i64 a0_0, .int .i64 1, .int .i64 255] rfl args_a ?_; (with_reducible refine (spec_l1In.calls a0_0 1 255 true _ A2.out).mono ?_); rintro e w' ⟨rfl, ⟨nd, rfl⟩⟩; refine ⟨_, rfl, ?_⟩) | (go_at_call 95; (with_reducible refine (spec_l1In.calls a0_1 0 15 false _ A4.out).mono ?_); rintro e w' ⟨rfl, ⟨nd, rfl⟩⟩))
   go_ret
   exact ⟨eq_a, below_a⟩
 ·
  replace c3 := Bool.eq_false_iff.mpr c3; subst c3; have H1 : (some false) = some r := by rw [if_neg (show ¬ (false = true) by decide)] at H; exact H
  clear H; have H := H1; clear H1; obtain rfl := Option.some.inj H; have hcz9_0 : w.cell? p = some (.int .i64 a0_0) := (HB.out.cell (p := p) HLP.out).trans HXP_0.out; have hcz9_1 : w.cell? ⟨p.block, p.off + 1, none⟩ = some (.int .i64 a0_1) := (HB.out.cell (p := ⟨p.block, p.off + 1, none⟩) HLP.out).trans HXP_1.out; have hcz9_2 : w.cell? ⟨p.block, p.off + 2, none⟩ = some (.int .i64 a0_2) := (HB.out.cell (p := ⟨p.block, p.off + 2, none⟩) HLP.out).trans HXP_2.out; have hcz9_3 : w.cell? ⟨p.block, p.off + 3, none⟩ = some (.slice A0_3 l0_3.length c0_3) := (HB.out.cell (p := ⟨p.block, p.off + 3, none⟩) HLP.out).trans HXP_3.out
  go_enter Try.func66, Try.ntmps66
  go_wp2_with (first | ((with_reducible refine gate_callee (f := 95) rfl ?_); refine goesL_ (some 7) rfl rfl Try.func95 (by kernel_rfl) rfl #[.int .i64 a0_0, .int .i64 1, .int .i64 255] rfl args_a ?_; (with_reducible refine (spec_l1In.calls a0_0 1 255 false _ A2.out).mono ?_); rintro e w' ⟨rfl, ⟨nd, rfl⟩⟩; refine ⟨_, rfl, ?_⟩))
  go_ret
  exact ⟨eq_a, below_a⟩
def spec_ReadHead.f (k : Nat) (l0 : List Int) : Option (Int × Int × Int × Int × List Int) := if (l0.length : Int) < 11 then (some (2, 0, 0, 0, ([] : List Int))) else (if 0 < (l0.length : Int) then (if (rd l0 0) = 1 then (if 1 < (l0.length : Int) then (if 2 < (l0.length : Int) then (if 3 < (l0.length : Int) then (if (rd l0 3) > 127 then (some (3, 0, 0, 0, ([] : List Int))) else ((spec_l1Read.f k l0 3 8).bind fun t117 => ((spec_l5Head.f (wrap64 (rd l0 1)) (wrap64 (rd l0 2)) t117 ([] : List Int)).bind fun t118 => (if t118 = true then (some (0, wrap64 (rd l0 1), wrap64 (rd l0 2), t117, ([] : List Int))) else (some (3, 0, 0, 0, ([] : List Int))))))) else (none)) else (none)) else (none)) else (some (1, 0, 0, 0, ([] : List Int)))) else (none))
def spec_ReadHead.T5 : Bool × List (List Nat × List Nat) := (true, [([], []), ([0], [0]), ([1], [1]), ([2], [2]), ([], []), ([4], [4]), ([5], [5]), ([6], [6]), ([3, 7], [3, 7]), ([], []), ([9, 8, 0, 1, 2, 3, 4, 5, 6, 7, 8, 9], [8, 9])])
def spec_ReadHead.B5 : List Nat := [0, 1, 3, 7, 0, 16, 48, 112, 255, 0, 1023]
theorem spec_ReadHead.tab5 : rtab .any (opsOf Try.f25 5) = spec_ReadHead.T5 := by kernel_rfl
theorem spec_ReadHead.bits5 : waitsOk spec_ReadHead.T5.2 spec_ReadHead.B5 = true := by kernel_rfl
theorem spec_ReadHead.calls (k : Nat) (A0 : Option Addr) (c0 : Nat) (l0 : List Int) (r1 : Int) (r2 : Int) (r3 : Int) (r4 : Int) (r5 : List Int) (w : World) (hr0 : Kd.C (Kd.int .u8) w A0 l0.length l0) (hc0 : l0.length ≤ c0) (h : spec_ReadHead.f k l0 = some (r1, r2, r3, r4, r5)) :
  Calls Try.prog 25 #[.slice A0 l0.length c0] w fun e w' => ∃ v4_ : Value, e = .returned (.agg #[.int .i64 r1, .int .i64 r2, .int .i64 r3, .int .i64 r4, v4_]) ∧ Kd.R (Kd.int .u8) 5 w' w.heap.size (fun _ => True) v4_ r5 ∧ Below w.heap.size w w' := by
 have hu30 := Try.underlying30
 have hu28 := Try.underlying28
 have HR0 := A_ hr0
 have HC0 := A_ hc0
 clear hr0 hc0
 have HB := A_ (Below.refl w.heap.size w)
 have H : (if (l0.length : Int) < 11 then (some (2, 0, 0, 0, ([] : List Int))) else (if 0 < (l0.length : Int) then (if (rd l0 0) = 1 then (if 1 < (l0.length : Int) then (if 2 < (l0.length : Int) then (if 3 < (l0.length : Int) then (if (rd l0 3) > 127 then (some (3, 0, 0, 0, ([] : List Int))) else ((spec_l1Read.f k l0 3 8).bind fun t117 => ((spec_l5Head.f (wrap64 (rd l0 1)) (wrap64 (rd l0 2)) t117 ([] : List Int)).bind fun t118 => (if t118 = true then (some (0, wrap64 (rd l0 1), wrap64 (rd l0 2), t117, ([] : List Int))) else (some (3, 0, 0, 0, ([] : List Int))))))) else (none)) else (none)) else (none)) else (some (1, 0, 0, 0, ([] : List Int)))) else (none))) = some (r1, r2, r3, r4, r5) := h
 clear h
 by_cases c2 : (l0.length : Int) < 11
 ·
  rw [if_pos c2] at H; have c2b0 : decide ((l0.length : Int) < 11) = true := decide_eq_true c2; have c2b1 : decide (l0.length < 11) = true := decide_eq_true (by omega); clear c2; simp only [Option.some.injEq, Prod.mk.injEq] at H; obtain ⟨rfl, rfl, rfl, rfl, rfl⟩ := H
  go_enter Try.func25, Try.ntmps25
  go_wp2_with (first | ((with_reducible refine gate_dst (N := 2) rfl ?_); refine bx_ 2 (#[.int .i64 0, .int .i64 0, .int .i64 0, .int .i64 0, .slice none 0 0]) 30 rfl rfl ?hr ?_; (case hr => go_simp <;> rfl); intro gb111 hg w3 hbox hb; have n0_ := bs_ hb; have BK111 := A_ (hbox); have GW111 := gw_ (w := w) hg; replace HB := n0_; clear n0_; clear hb hbox hg; obtain ⟨hcz4_0, hcz4_1, hcz4_2, hcz4_3, hcz4_4, hfz4_0, hfz4_1, hfz4_2, hfz4_3, hfz4_4⟩ := bc5_ BK111.out))
  refine bodyPost_ret (results_cell_row rfl _ _ gb111 30 #[.int .i64 2, .int .i64 0, .int .i64 0, .int .i64 0, .slice none 0 0] (0, 0) _ rfl (by (with_reducible repeat (first | refine blk_drewN ?_ _ | refine blk_drew ?_ | refine blk_alloc ?_ _)); refine bp5_ (cs := #[.int .i64 0, .int .i64 0, .int .i64 0, .int .i64 0, .slice none 0 0]) ?_ rfl; exact bl_ BK111.out) Try.underlying30 rfl (by kernel_rfl)) rfl ?_; exact ⟨_, eq_a, by first | exact Kd.R_nil _ _ _ _ _ | exact Kd.N_nil _ _ _ _ _ | exact Kd.V_nil _ _ _ _ _ | exact Kd.Q_nil _ _ _ _ _ | exact Kd.S_nil _ _ _ _ _, below_a⟩
 ·
  rw [if_neg c2] at H; have c2b0 : decide ((l0.length : Int) < 11) = false := decide_eq_false c2; have c2b1 : decide (l0.length < 11) = false := decide_eq_false (by omega); clear c2
  by_cases c5 : 0 < (l0.length : Int)
  rotate_left
  · rw [if_neg c5] at H; exact absurd H (by simp)
  rw [if_pos c5] at H; have c5b0 : decide (0 < (l0.length : Int)) = true := decide_eq_true c5; have c5b1 : decide (0 < l0.length) = true := decide_eq_true (by omega); clear c5
  by_cases c6 : (rd l0 0) = 1
  ·
   rw [if_pos c6] at H; have c6b0 : ((rd l0 0) == 1) = true := beq_iff_eq.mpr c6; have c6b1 : ((rd l0 0) != 1) = false := bne_eq_false_iff_eq.mpr c6; clear c6
   by_cases c7 : 1 < (l0.length : Int)
   rotate_left
   · rw [if_neg c7] at H; exact absurd H (by simp)
   rw [if_pos c7] at H; have c7b0 : decide (1 < (l0.length : Int)) = true := decide_eq_true c7; have c7b1 : decide (1 < l0.length) = true := decide_eq_true (by omega); clear c7
   by_cases c8 : 2 < (l0.length : Int)
   rotate_left
   · rw [if_neg c8] at H; exact absurd H (by simp)
   rw [if_pos c8] at H; have c8b0 : decide (2 < (l0.length : Int)) = true := decide_eq_true c8; have c8b1 : decide (2 < l0.length) = true := decide_eq_true (by omega); clear c8
   by_cases c9 : 3 < (l0.length : Int)
   rotate_left
   · rw [if_neg c9] at H; exact absurd H (by simp)
   rw [if_pos c9] at H; have c9b0 : decide (3 < (l0.length : Int)) = true := decide_eq_true c9; have c9b1 : decide (3 < l0.length) = true := decide_eq_true (by omega); clear c9
   by_cases c10 : (rd l0 3) > 127
   ·
    rw [if_pos c10] at H; have c10b0 : decide (127 < (rd l0 3)) = true := decide_eq_true c10; clear c10; simp only [Option.some.injEq, Prod.mk.injEq] at H; obtain ⟨rfl, rfl, rfl, rfl, rfl⟩ := H
    go_enter Try.func25, Try.ntmps25
    try go_wp2_with (first | ((with_reducible refine gate_dst (N := 2) rfl ?_); refine bx_ 2 (#[.int .i64 0, .int .i64 0, .int .i64 0, .int .i64 0, .slice none 0 0]) 30 rfl rfl ?hr ?_; (case hr => go_simp <;> rfl); intro gb111 hg w11 hbox hb; have n0_ := bs_ hb; have BK111 := A_ (hbox); have GW111 := gw_ (w := w) hg; replace HB := n0_; clear n0_; clear hb hbox hg; have p112 : 0 ≤ (0 : Int) := (by omega); have q112 : 0 < (l0.length : Int) := od_; obtain ⟨ad112, e112, hx112_0⟩ := Kd.at_int HR0.out 0 p112 q112; cases e112; have qi112 : (0 < l0.length) = True := eq_true (by omega); (try rw [show ((0 : Int)).toNat = 0 from rfl] at hx112_0); (try rw [Addr.add_zero'] at hx112_0); replace hx112_0 := hc_ HB hx112_0; replace p112 := eq_true p112; replace q112 := eq_true q112))
    replace BK111 := A_ (blk_drew BK111.out); replace HB := A_ (below_drew1 HB.out); have p113 : 0 ≤ (1 : Int) := (by omega); have q113 : 1 < (l0.length : Int) := od_; obtain ⟨ad113, e113, hx113_0⟩ := Kd.at_int HR0.out 1 p113 q113; have hw113_0 := hx113_0; (try rw [show ((1 : Int)).toNat = 1 from rfl] at hw113_0); (try rw [show 1 * 1 = 1 from rfl] at hw113_0); (try simp only [Nat.reduceMul, Nat.reduceEqDiff, Go.Addr.add, ↓reduceIte] at hw113_0); obtain rfl : ad112 = ad113 := (by injection e113); (try simp only [show (1 : Int).toNat = 1 from rfl, Nat.reduceMul, Nat.reduceEqDiff, Go.Addr.add, ↓reduceIte] at hx113_0); have qi113 : (1 < l0.length) = True := eq_true (by omega); (try rw [show ((1 : Int)).toNat = 1 from rfl] at hx113_0); replace hx113_0 := hc_ HB hx113_0; replace p113 := eq_true p113; replace q113 := eq_true q113; have p114 : 0 ≤ (2 : Int) := (by omega); have q114 : 2 < (l0.length : Int) := od_; obtain ⟨ad114, e114, hx114_0⟩ := Kd.at_int HR0.out 2 p114 q114; have hw114_0 := hx114_0; (try rw [show ((2 : Int)).toNat = 2 from rfl] at hw114_0); (try rw [show 2 * 1 = 2 from rfl] at hw114_0); (try simp only [Nat.reduceMul, Nat.reduceEqDiff, Go.Addr.add, ↓reduceIte] at hw114_0); obtain rfl : ad112 = ad114 := (by injection e114); (try simp only [show (2 : Int).toNat = 2 from rfl, Nat.reduceMul, Nat.reduceEqDiff, Go.Addr.add, ↓reduceIte] at hx114_0); have qi114 : (2 < l0.length) = True := eq_true (by omega); (try rw [show ((2 : Int)).toNat = 2 from rfl] at hx114_0); replace hx114_0 := hc_ HB hx114_0; replace p114 := eq_true p114; replace q114 := eq_true q114; refine start_ (n := 11) (S := fun w' => w'.cell? ⟨ad112.block, ad112.off + 1, none⟩ = some (.int .u8 (rd l0 1)) ∧ w'.cell? ⟨ad112.block, ad112.off + 2, none⟩ = some (.int .u8 (rd l0 2))) (ds := []) (rl_ [0, 11]) (by kernel_rfl) rfl rfl ⟨((HB.out.cell (World.block_lt_of_cell? w _ hw113_0)).trans hw113_0), ((HB.out.cell (World.block_lt_of_cell? w _ hw114_0)).trans hw114_0)⟩ (fun hHeld => ?_); refine with_tabW spec_ReadHead.tab5 spec_ReadHead.bits5 (fun HT_ HW_ => ?_); generalize w11.drew = w12 at BK111 HB hx113_0 hx114_0 hHeld ⊢; refine pw_ 0 13 ?_ (rl_ [1, 10]) HT_ rfl rfl (by kernel_rfl) ?_ ?_ ?_ ?_; rotate_left; (intro w'; go_simp; with_reducible rfl); rotate_left; (simp only [P4_]; rfl)
    refine pw_ 1 14 ?_ (rl_ [2, 9]) HT_ rfl rfl (by kernel_rfl) ?_ ?_ ?_ ?_; rotate_left; (intro w'; go_simp; with_reducible rfl); rotate_left; (simp only [P4_]; rfl)
    refine pw_ 4 17 ?_ (rl_ [2, 2, 1, 6]) HT_ rfl rfl (by kernel_rfl) ?_ ?_ ?_ ?_; rotate_left; (intro w'; go_simp; with_reducible rfl); rotate_left; (simp only [P4_]; rfl)
    refine pw_ 5 18 ?_ (rl_ [2, 2, 2, 5]) HT_ rfl rfl (by kernel_rfl) ?_ ?_ ?_ ?_; rotate_left; (intro w'; go_simp; with_reducible rfl); rotate_left; (simp only [P4_]; rfl)
    refine take_ (i := 2) (N := some 15) (v := ?_) (a' := ?_) (rl_ [3, 1, 2, 5]) rfl rfl (take_ofW HT_.out HW_.out (by kernel_rfl)) (fun _ _ _ h => h) (Or.inl ⟨by rfl, ?_⟩) hHeld ?_ ?_; rotate_left; (rintro w' ⟨s0, s1⟩; go_simp; with_reducible rfl); rotate_left; (simp only [P4_]; rfl)
    refine pw_ 3 16 ?_ (rl_ [6, 5]) HT_ rfl rfl (by kernel_rfl) ?_ ?_ ?_ ?_; rotate_left; (intro w'; go_simp; with_reducible rfl); rotate_left; (simp only [P4_]; rfl)
    refine take_ (i := 6) (N := some 19) (v := ?_) (a' := ?_) (rl_ [7, 4]) rfl rfl (take_ofW HT_.out HW_.out (by kernel_rfl)) (fun _ _ _ h => h) (Or.inl ⟨by rfl, ?_⟩) hHeld ?_ ?_; rotate_left; (rintro w' ⟨s0, s1⟩; go_simp; with_reducible rfl); rotate_left; (simp only [P4_]; rfl)
    refine pw_ 7 20 ?_ (rl_ [8, 3]) HT_ rfl rfl (by kernel_rfl) ?_ ?_ ?_ ?_; rotate_left; (intro w'; go_simp; with_reducible rfl); rotate_left; (simp only [P4_]; rfl)
    refine pw_ 8 21 ?_ (rl_ [9, 2]) HT_ rfl rfl (by kernel_rfl) ?_ ?_ ?_ ?_; rotate_left; (intro w'; go_simp; with_reducible rfl); rotate_left; (simp only [P4_]; rfl)
    refine one_ (i := 9) (N := some 3) (rl_ [10, 1]) rfl rfl (one_of HT_.out (by kernel_rfl)) (by decide) (fun K hK => ?_); refine box_step ?hg (N := 3) ?hd (cs := #[.int .i64 0, .int .i64 0, .int .i64 0, .slice none 0 0]) (t := 28) ?hr ?_; (case hd => rfl); (case hg => rfl); (case hr => go_simp <;> rfl); intro gb115 hg w13 hbox hb; have n0_ := bw_ gb111 hb; have n1_ := bs_ hb; have BK115 := A_ (hbox); have GW115 := gw_ (w := w) hg; have NB111_115 := bn_ gb111 hg; have NB115_111 := bm2_ gb111 hg; replace BK111 := n0_; replace HB := n1_; clear n0_ n1_ hb hbox hg; refine hK.out _ _ ⟨((HB.out.cell (World.block_lt_of_cell? w _ hw113_0)).trans hw113_0), ((HB.out.cell (World.block_lt_of_cell? w _ hw114_0)).trans hw114_0)⟩ (fun hHeld => ?_); clear hK K; refine norm_ (a' := ?_) ?_ ?_; rotate_left
    ·
     show Act.put _ (some 3) _ = _; simp only [P4_]; rfl
    refine one_ (i := 10) (N := none) (rl_ [11]) rfl rfl (one_of HT_.out (by kernel_rfl)) (by decide) (fun K hK => ?_); have hs14 : w13.cell? ⟨gb115, 0, none⟩ = some (.int .i64 0) := (blk_cell BK115.out 0).trans rfl; have hfs14 := blk_frozen BK115.out 0; have hns14_0 := NB111_115.out; have hms14_0 := NB115_111.out; have hs15 : w13.cell? ⟨gb115, 1, none⟩ = some (.int .i64 0) := (blk_cell BK115.out 1).trans rfl; have hfs15 := blk_frozen BK115.out 1; have hns15_0 := NB111_115.out; have hms15_0 := NB115_111.out; have hs16 : w13.cell? ⟨gb115, 2, none⟩ = some (.int .i64 0) := (blk_cell BK115.out 2).trans rfl; have hfs16 := blk_frozen BK115.out 2; have hns16_0 := NB111_115.out; have hms16_0 := NB115_111.out; have hs17 : w13.cell? ⟨gb115, 3, none⟩ = some (.slice none 0 0) := (blk_cell BK115.out 3).trans rfl; have hfs17 := blk_frozen BK115.out 3; have hns17_0 := NB111_115.out; have hms17_0 := NB115_111.out; refine skip_ (w1 := ?_) (by rfl) rfl ?_ ?_; rotate_left
    ·
     go_simp
     rfl
    refine hK.out _ _ ⟨((cell_far (p := ⟨gb115, _, none⟩) (by first | exact nf_ hw113_0 GW115.out | (rw [add_block]; exact nf_ hw113_0 GW115.out) | (show (Addr.add _ _).block ≠ _; rw [add_block]; exact nf_ hw113_0 GW115.out) | (dsimp only; exact nf_ hw113_0 GW115.out)) _).trans (((cell_far (p := ⟨gb115, _, none⟩) (by first | exact nf_ hw113_0 GW115.out | (rw [add_block]; exact nf_ hw113_0 GW115.out) | (show (Addr.add _ _).block ≠ _; rw [add_block]; exact nf_ hw113_0 GW115.out) | (dsimp only; exact nf_ hw113_0 GW115.out)) _).trans (((cell_far (p := ⟨gb115, _, none⟩) (by first | exact nf_ hw113_0 GW115.out | (rw [add_block]; exact nf_ hw113_0 GW115.out) | (show (Addr.add _ _).block ≠ _; rw [add_block]; exact nf_ hw113_0 GW115.out) | (dsimp only; exact nf_ hw113_0 GW115.out)) _).trans (((cell_far (p := ⟨gb115, _, none⟩) (by first | exact nf_ hw113_0 GW115.out | (rw [add_block]; exact nf_ hw113_0 GW115.out) | (show (Addr.add _ _).block ≠ _; rw [add_block]; exact nf_ hw113_0 GW115.out) | (dsimp only; exact nf_ hw113_0 GW115.out)) _).trans (hHeld.1)))))))), ((cell_far (p := ⟨gb115, _, none⟩) (by first | exact nf_ hw114_0 GW115.out | (rw [add_block]; exact nf_ hw114_0 GW115.out) | (show (Addr.add _ _).block ≠ _; rw [add_block]; exact nf_ hw114_0 GW115.out) | (dsimp only; exact nf_ hw114_0 GW115.out)) _).trans (((cell_far (p := ⟨gb115, _, none⟩) (by first | exact nf_ hw114_0 GW115.out | (rw [add_block]; exact nf_ hw114_0 GW115.out) | (show (Addr.add _ _).block ≠ _; rw [add_block]; exact nf_ hw114_0 GW115.out) | (dsimp only; exact nf_ hw114_0 GW115.out)) _).trans (((cell_far (p := ⟨gb115, _, none⟩) (by first | exact nf_ hw114_0 GW115.out | (rw [add_block]; exact nf_ hw114_0 GW115.out) | (show (Addr.add _ _).block ≠ _; rw [add_block]; exact nf_ hw114_0 GW115.out) | (dsimp only; exact nf_ hw114_0 GW115.out)) _).trans (((cell_far (p := ⟨gb115, _, none⟩) (by first | exact nf_ hw114_0 GW115.out | (rw [add_block]; exact nf_ hw114_0 GW115.out) | (show (Addr.add _ _).block ≠ _; rw [add_block]; exact nf_ hw114_0 GW115.out) | (dsimp only; exact nf_ hw114_0 GW115.out)) _).trans (hHeld.2))))))))⟩ (fun hHeld => ?_); clear hK K; refine done_ (done_of HT_.out (by kernel_rfl)) ?_; have p116 : 0 ≤ (3 : Int) := (by omega); have q116 : 3 < (l0.length : Int) := od_; obtain ⟨ad116, e116, hx116_0⟩ := Kd.at_int HR0.out 3 p116 q116; obtain rfl : ad112 = ad116 := (by injection e116); (try simp only [show (3 : Int).toNat = 3 from rfl, Nat.reduceMul, Nat.reduceEqDiff, Go.Addr.add, ↓reduceIte] at hx116_0); have qi116 : (3 < l0.length) = True := eq_true (by omega); (try rw [show ((3 : Int)).toNat = 3 from rfl] at hx116_0); have hn116_0 : ad112.block ≠ gb115 := Nat.ne_of_lt (Nat.lt_of_lt_of_le (by have := World.block_lt_of_cell? _ _ hx116_0; first | rwa [add_block] at this | exact this) GW115.out); have hn116_1 : ad112.block ≠ gb115 := Nat.ne_of_lt (Nat.lt_of_lt_of_le (by have := World.block_lt_of_cell? _ _ hx116_0; first | rwa [add_block] at this | exact this) GW115.out); have hn116_2 : ad112.block ≠ gb115 := Nat.ne_of_lt (Nat.lt_of_lt_of_le (by have := World.block_lt_of_cell? _ _ hx116_0; first | rwa [add_block] at this | exact this) GW115.out); have hn116_3 : ad112.block ≠ gb115 := Nat.ne_of_lt (Nat.lt_of_lt_of_le (by have := World.block_lt_of_cell? _ _ hx116_0; first | rwa [add_block] at this | exact this) GW115.out); replace hx116_0 := hc_ HB hx116_0; replace hx116_0 := (cell_far (p := ⟨gb115, 0, none⟩) (by first | (rw [add_block]; exact hn116_0) | (show (Addr.add _ _).block ≠ _; rw [add_block]; exact hn116_0) | exact hn116_0) (.int .i64 (wrap64 (rd l0 1)))).trans hx116_0; replace hx116_0 := (cell_far (p := ⟨gb115, 1, none⟩) (by first | (rw [add_block]; exact hn116_1) | (show (Addr.add _ _).block ≠ _; rw [add_block]; exact hn116_1) | exact hn116_1) (.int .i64 (wrap64 (rd l0 2)))).trans hx116_0; replace hx116_0 := (cell_far (p := ⟨gb115, 2, none⟩) (by first | (rw [add_block]; exact hn116_2) | (show (Addr.add _ _).block ≠ _; rw [add_block]; exact hn116_2) | exact hn116_2) (.int .i64 0)).trans hx116_0; replace hx116_0 := (cell_far (p := ⟨gb115, 3, none⟩) (by first | (rw [add_block]; exact hn116_3) | (show (Addr.add _ _).block ≠ _; rw [add_block]; exact hn116_3) | exact hn116_3) (.slice none 0 0)).trans hx116_0; clear hn116_0 hn116_1 hn116_2 hn116_3; replace p116 := eq_true p116; replace q116 := eq_true q116; have hnb18 := NB111_115.out; have hnc18 := NB115_111.out; obtain ⟨hcz19_0, hcz19_1, hcz19_2, hcz19_3, hcz19_4, hfz19_0, hfz19_1, hfz19_2, hfz19_3, hfz19_4⟩ := bc5_ BK111.out
    try go_wp2
    refine bodyPost_ret (results_cell_row rfl _ _ gb111 30 #[.int .i64 3, .int .i64 0, .int .i64 0, .int .i64 0, .slice none 0 0] (0, 0) _ rfl (by (with_reducible repeat (first | refine blk_drewN ?_ _ | refine blk_drew ?_ | refine blk_alloc ?_ _)); refine bp5_ (cs := #[.int .i64 0, .int .i64 0, .int .i64 0, .int .i64 0, .slice none 0 0]) ?_ rfl; (iterate 4 ((with_reducible repeat (first | refine blk_drewN ?_ _ | refine blk_drew ?_ | refine blk_alloc ?_ _)); refine blk_far ?_ NB111_115.out _)); exact bl_ BK111.out) Try.underlying30 rfl (by kernel_rfl)) rfl ?_; exact ⟨_, eq_a, by first | exact Kd.R_nil _ _ _ _ _ | exact Kd.N_nil _ _ _ _ _ | exact Kd.V_nil _ _ _ _ _ | exact Kd.Q_nil _ _ _ _ _ | exact Kd.S_nil _ _ _ _ _, below_a⟩
   ·
    rw [if_neg c10] at H; have c10b0 : decide (127 < (rd l0 3)) = false := decide_eq_false c10; clear c10; obtain ⟨t117, A200, H⟩ := bi_ H; (try dsimp only at H); have A20 := A_ A200; clear A200; obtain ⟨t118, A210, H⟩ := bi_ H; (try dsimp only at H); have A21 := A_ A210; clear A210
    by_cases c22 : t118 = true
    ·
     subst c22; have H1 : (some (0, wrap64 (rd l0 1), wrap64 (rd l0 2), t117, ([] : List Int))) = some (r1, r2, r3, r4, r5) := by rw [if_pos rfl] at H; exact H
     clear H; have H := H1; clear H1; simp only [Option.some.injEq, Prod.mk.injEq] at H; obtain ⟨rfl, rfl, rfl, rfl, rfl⟩ := H
     go_enter Try.func25, Try.ntmps25
     try go_wp2_with (first | ((with_reducible refine gate_dst (N := 2) rfl ?_); refine bx_ 2 (#[.int .i64 0, .int .i64 0, .int .i64 0, .int .i64 0, .slice none 0 0]) 30 rfl rfl ?hr ?_; (case hr => go_simp <;> rfl); intro gb111 hg w23 hbox hb; have n0_ := bs_ hb; have BK111 := A_ (hbox); have GW111 := gw_ (w := w) hg; replace HB := n0_; clear n0_; clear hb hbox hg; have p112 : 0 ≤ (0 : Int) := (by omega); have q112 : 0 < (l0.length : Int) := od_; obtain ⟨ad112, e112, hx112_0⟩ := Kd.at_int HR0.out 0 p112 q112; cases e112; have qi112 : (0 < l0.length) = True := eq_true (by omega); (try rw [show ((0 : Int)).toNat = 0 from rfl] at hx112_0); (try rw [Addr.add_zero'] at hx112_0); replace hx112_0 := hc_ HB hx112_0; replace p112 := eq_true p112; replace q112 := eq_true q112))
     replace BK111 := A_ (blk_drew BK111.out); replace HB := A_ (below_drew1 HB.out); have p113 : 0 ≤ (1 : Int) := (by omega); have q113 : 1 < (l0.length : Int) := od_; obtain ⟨ad113, e113, hx113_0⟩ := Kd.at_int HR0.out 1 p113 q113; have hw113_0 := hx113_0; (try rw [show ((1 : Int)).toNat = 1 from rfl] at hw113_0); (try rw [show 1 * 1 = 1 from rfl] at hw113_0); (try simp only [Nat.reduceMul, Nat.reduceEqDiff, Go.Addr.add, ↓reduceIte] at hw113_0); obtain rfl : ad112 = ad113 := (by injection e113); (try simp only [show (1 : Int).toNat = 1 from rfl, Nat.reduceMul, Nat.reduceEqDiff, Go.Addr.add, ↓reduceIte] at hx113_0); have qi113 : (1 < l0.length) = True := eq_true (by omega); (try rw [show ((1 : Int)).toNat = 1 from rfl] at hx113_0); replace hx113_0 := hc_ HB hx113_0; replace p113 := eq_true p113; replace q113 := eq_true q113; have p114 : 0 ≤ (2 : Int) := (by omega); have q114 : 2 < (l0.length : Int) := od_; obtain ⟨ad114, e114, hx114_0⟩ := Kd.at_int HR0.out 2 p114 q114; have hw114_0 := hx114_0; (try rw [show ((2 : Int)).toNat = 2 from rfl] at hw114_0); (try rw [show 2 * 1 = 2 from rfl] at hw114_0); (try simp only [Nat.reduceMul, Nat.reduceEqDiff, Go.Addr.add, ↓reduceIte] at hw114_0); obtain rfl : ad112 = ad114 := (by injection e114); (try simp only [show (2 : Int).toNat = 2 from rfl, Nat.reduceMul, Nat.reduceEqDiff, Go.Addr.add, ↓reduceIte] at hx114_0); have qi114 : (2 < l0.length) = True := eq_true (by omega); (try rw [show ((2 : Int)).toNat = 2 from rfl] at hx114_0); replace hx114_0 := hc_ HB hx114_0; replace p114 := eq_true p114; replace q114 := eq_true q114; refine start_ (n := 11) (S := fun w' => w'.cell? ⟨ad112.block, ad112.off + 1, none⟩ = some (.int .u8 (rd l0 1)) ∧ w'.cell? ⟨ad112.block, ad112.off + 2, none⟩ = some (.int .u8 (rd l0 2))) (ds := []) (rl_ [0, 11]) (by kernel_rfl) rfl rfl ⟨((HB.out.cell (World.block_lt_of_cell? w _ hw113_0)).trans hw113_0), ((HB.out.cell (World.block_lt_of_cell? w _ hw114_0)).trans hw114_0)⟩ (fun hHeld => ?_); refine with_tabW spec_ReadHead.tab5 spec_ReadHead.bits5 (fun HT_ HW_ => ?_); generalize w23.drew = w24 at BK111 HB hx113_0 hx114_0 hHeld ⊢; refine pw_ 0 13 ?_ (rl_ [1, 10]) HT_ rfl rfl (by kernel_rfl) ?_ ?_ ?_ ?_; rotate_left; (intro w'; go_simp; with_reducible rfl); rotate_left; (simp only [P4_]; rfl)
     refine pw_ 1 14 ?_ (rl_ [2, 9]) HT_ rfl rfl (by kernel_rfl) ?_ ?_ ?_ ?_; rotate_left; (intro w'; go_simp; with_reducible rfl); rotate_left; (simp only [P4_]; rfl)
     refine pw_ 4 17 ?_ (rl_ [2, 2, 1, 6]) HT_ rfl rfl (by kernel_rfl) ?_ ?_ ?_ ?_; rotate_left; (intro w'; go_simp; with_reducible rfl); rotate_left; (simp only [P4_]; rfl)
     refine pw_ 5 18 ?_ (rl_ [2, 2, 2, 5]) HT_ rfl rfl (by kernel_rfl) ?_ ?_ ?_ ?_; rotate_left; (intro w'; go_simp; with_reducible rfl); rotate_left; (simp only [P4_]; rfl)
     refine take_ (i := 2) (N := some 15) (v := ?_) (a' := ?_) (rl_ [3, 1, 2, 5]) rfl rfl (take_ofW HT_.out HW_.out (by kernel_rfl)) (fun _ _ _ h => h) (Or.inl ⟨by rfl, ?_⟩) hHeld ?_ ?_; rotate_left; (rintro w' ⟨s0, s1⟩; go_simp; with_reducible rfl); rotate_left; (simp only [P4_]; rfl)
     refine pw_ 3 16 ?_ (rl_ [6, 5]) HT_ rfl rfl (by kernel_rfl) ?_ ?_ ?_ ?_; rotate_left; (intro w'; go_simp; with_reducible rfl); rotate_left; (simp only [P4_]; rfl)
     refine take_ (i := 6) (N := some 19) (v := ?_) (a' := ?_) (rl_ [7, 4]) rfl rfl (take_ofW HT_.out HW_.out (by kernel_rfl)) (fun _ _ _ h => h) (Or.inl ⟨by rfl, ?_⟩) hHeld ?_ ?_; rotate_left; (rintro w' ⟨s0, s1⟩; go_simp; with_reducible rfl); rotate_left; (simp only [P4_]; rfl)
     refine pw_ 7 20 ?_ (rl_ [8, 3]) HT_ rfl rfl (by kernel_rfl) ?_ ?_ ?_ ?_; rotate_left; (intro w'; go_simp; with_reducible rfl); rotate_left; (simp only [P4_]; rfl)
     refine pw_ 8 21 ?_ (rl_ [9, 2]) HT_ rfl rfl (by kernel_rfl) ?_ ?_ ?_ ?_; rotate_left; (intro w'; go_simp; with_reducible rfl); rotate_left; (simp only [P4_]; rfl)
     refine one_ (i := 9) (N := some 3) (rl_ [10, 1]) rfl rfl (one_of HT_.out (by kernel_rfl)) (by decide) (fun K hK => ?_); refine box_step ?hg (N := 3) ?hd (cs := #[.int .i64 0, .int .i64 0, .int .i64 0, .slice none 0 0]) (t := 28) ?hr ?_; (case hd => rfl); (case hg => rfl); (case hr => go_simp <;> rfl); intro gb115 hg w25 hbox hb; have n0_ := bw_ gb111 hb; have n1_ := bs_ hb; have BK115 := A_ (hbox); have GW115 := gw_ (w := w) hg; have NB111_115 := bn_ gb111 hg; have NB115_111 := bm2_ gb111 hg; replace BK111 := n0_; replace HB := n1_; clear n0_ n1_ hb hbox hg; refine hK.out _ _ ⟨((HB.out.cell (World.block_lt_of_cell? w _ hw113_0)).trans hw113_0), ((HB.out.cell (World.block_lt_of_cell? w _ hw114_0)).trans hw114_0)⟩ (fun hHeld => ?_); clear hK K; refine norm_ (a' := ?_) ?_ ?_; rotate_left
     ·
      show Act.put _ (some 3) _ = _; simp only [P4_]; rfl
     refine one_ (i := 10) (N := none) (rl_ [11]) rfl rfl (one_of HT_.out (by kernel_rfl)) (by decide) (fun K hK => ?_); have hs26 : w25.cell? ⟨gb115, 0, none⟩ = some (.int .i64 0) := (blk_cell BK115.out 0).trans rfl; have hfs26 := blk_frozen BK115.out 0; have hns26_0 := NB111_115.out; have hms26_0 := NB115_111.out; have hs27 : w25.cell? ⟨gb115, 1, none⟩ = some (.int .i64 0) := (blk_cell BK115.out 1).trans rfl; have hfs27 := blk_frozen BK115.out 1; have hns27_0 := NB111_115.out; have hms27_0 := NB115_111.out; have hs28 : w25.cell? ⟨gb115, 2, none⟩ = some (.int .i64 0) := (blk_cell BK115.out 2).trans rfl; have hfs28 := blk_frozen BK115.out 2; have hns28_0 := NB111_115.out; have hms28_0 := NB115_111.out; have hs29 : w25.cell? ⟨gb115, 3, none⟩ = some (.slice none 0 0) := (blk_cell BK115.out 3).trans rfl; have hfs29 := blk_frozen BK115.out 3; have hns29_0 := NB111_115.out; have hms29_0 := NB115_111.out; refine skip_ (w1 := ?_) (by rfl) rfl ?_ ?_; rotate_left
     ·
      go_simp
      rfl
     refine hK.out _ _ ⟨((cell_far (p := ⟨gb115, _, none⟩) (by first | exact nf_ hw113_0 GW115.out | (rw [add_block]; exact nf_ hw113_0 GW115.out) | (show (Addr.add _ _).block ≠ _; rw [add_block]; exact nf_ hw113_0 GW115.out) | (dsimp only; exact nf_ hw113_0 GW115.out)) _).trans (((cell_far (p := ⟨gb115, _, none⟩) (by first | exact nf_ hw113_0 GW115.out | (rw [add_block]; exact nf_ hw113_0 GW115.out) | (show (Addr.add _ _).block ≠ _; rw [add_block]; exact nf_ hw113_0 GW115.out) | (dsimp only; exact nf_ hw113_0 GW115.out)) _).trans (((cell_far (p := ⟨gb115, _, none⟩) (by first | exact nf_ hw113_0 GW115.out | (rw [add_block]; exact nf_ hw113_0 GW115.out) | (show (Addr.add _ _).block ≠ _; rw [add_block]; exact nf_ hw113_0 GW115.out) | (dsimp only; exact nf_ hw113_0 GW115.out)) _).trans (((cell_far (p := ⟨gb115, _, none⟩) (by first | exact nf_ hw113_0 GW115.out | (rw [add_block]; exact nf_ hw113_0 GW115.out) | (show (Addr.add _ _).block ≠ _; rw [add_block]; exact nf_ hw113_0 GW115.out) | (dsimp only; exact nf_ hw113_0 GW115.out)) _).trans (hHeld.1)))))))), ((cell_far (p := ⟨gb115, _, none⟩) (by first | exact nf_ hw114_0 GW115.out | (rw [add_block]; exact nf_ hw114_0 GW115.out) | (show (Addr.add _ _).block ≠ _; rw [add_block]; exact nf_ hw114_0 GW115.out) | (dsimp only; exact nf_ hw114_0 GW115.out)) _).trans (((cell_far (p := ⟨gb115, _, none⟩) (by first | exact nf_ hw114_0 GW115.out | (rw [add_block]; exact nf_ hw114_0 GW115.out) | (show (Addr.add _ _).block ≠ _; rw [add_block]; exact nf_ hw114_0 GW115.out) | (dsimp only; exact nf_ hw114_0 GW115.out)) _).trans (((cell_far (p := ⟨gb115, _, none⟩) (by first | exact nf_ hw114_0 GW115.out | (rw [add_block]; exact nf_ hw114_0 GW115.out) | (show (Addr.add _ _).block ≠ _; rw [add_block]; exact nf_ hw114_0 GW115.out) | (dsimp only; exact nf_ hw114_0 GW115.out)) _).trans (((cell_far (p := ⟨gb115, _, none⟩) (by first | exact nf_ hw114_0 GW115.out | (rw [add_block]; exact nf_ hw114_0 GW115.out) | (show (Addr.add _ _).block ≠ _; rw [add_block]; exact nf_ hw114_0 GW115.out) | (dsimp only; exact nf_ hw114_0 GW115.out)) _).trans (hHeld.2))))))))⟩ (fun hHeld => ?_); clear hK K; refine done_ (done_of HT_.out (by kernel_rfl)) ?_; have p116 : 0 ≤ (3 : Int) := (by omega); have q116 : 3 < (l0.length : Int) := od_; obtain ⟨ad116, e116, hx116_0⟩ := Kd.at_int HR0.out 3 p116 q116; obtain rfl : ad112 = ad116 := (by injection e116); (try simp only [show (3 : Int).toNat = 3 from rfl, Nat.reduceMul, Nat.reduceEqDiff, Go.Addr.add, ↓reduceIte] at hx116_0); have qi116 : (3 < l0.length) = True := eq_true (by omega); (try rw [show ((3 : Int)).toNat = 3 from rfl] at hx116_0); have hn116_0 : ad112.block ≠ gb115 := Nat.ne_of_lt (Nat.lt_of_lt_of_le (by have := World.block_lt_of_cell? _ _ hx116_0; first | rwa [add_block] at this | exact this) GW115.out); have hn116_1 : ad112.block ≠ gb115 := Nat.ne_of_lt (Nat.lt_of_lt_of_le (by have := World.block_lt_of_cell? _ _ hx116_0; first | rwa [add_block] at this | exact this) GW115.out); have hn116_2 : ad112.block ≠ gb115 := Nat.ne_of_lt (Nat.lt_of_lt_of_le (by have := World.block_lt_of_cell? _ _ hx116_0; first | rwa [add_block] at this | exact this) GW115.out); have hn116_3 : ad112.block ≠ gb115 := Nat.ne_of_lt (Nat.lt_of_lt_of_le (by have := World.block_lt_of_cell? _ _ hx116_0; first | rwa [add_block] at this | exact this) GW115.out); replace hx116_0 := hc_ HB hx116_0; replace hx116_0 := (cell_far (p := ⟨gb115, 0, none⟩) (by first | (rw [add_block]; exact hn116_0) | (show (Addr.add _ _).block ≠ _; rw [add_block]; exact hn116_0) | exact hn116_0) (.int .i64 (wrap64 (rd l0 1)))).trans hx116_0; replace hx116_0 := (cell_far (p := ⟨gb115, 1, none⟩) (by first | (rw [add_block]; exact hn116_1) | (show (Addr.add _ _).block ≠ _; rw [add_block]; exact hn116_1) | exact hn116_1) (.int .i64 (wrap64 (rd l0 2)))).trans hx116_0; replace hx116_0 := (cell_far (p := ⟨gb115, 2, none⟩) (by first | (rw [add_block]; exact hn116_2) | (show (Addr.add _ _).block ≠ _; rw [add_block]; exact hn116_2) | exact hn116_2) (.int .i64 0)).trans hx116_0; replace hx116_0 := (cell_far (p := ⟨gb115, 3, none⟩) (by first | (rw [add_block]; exact hn116_3) | (show (Addr.add _ _).block ≠ _; rw [add_block]; exact hn116_3) | exact hn116_3) (.slice none 0 0)).trans hx116_0; clear hn116_0 hn116_1 hn116_2 hn116_3; replace p116 := eq_true p116; replace q116 := eq_true q116
     try go_wp2_with (first | ((with_reducible refine gate_callee (f := 65) rfl ?_); refine goesL_ (some 28) rfl rfl Try.func65 (by kernel_rfl) rfl #[.slice (some ad112) l0.length c0, .int .i64 3, .int .i64 8] rfl args_a ?_; (with_reducible refine (spec_l1Read.calls k _ _ l0 3 8 t117 _ ?side1 ?side2 A20.out).mono ?_); (case side1 => exact Kd.C_below HR0.out below_a); (case side2 => exact HC0.out); rintro e w' ⟨rfl, ⟨nd, rfl⟩⟩; refine ⟨_, rfl, ?_⟩; have hnb30 := NB115_111.out; have hnc30 := NB111_115.out; obtain ⟨hcz31_0, hcz31_1, hcz31_2, hcz31_3, hfz31_0, hfz31_1, hfz31_2, hfz31_3⟩ := bc4_ BK115.out) | (go_at_call 66; (refine (spec_l5Head.calls _ (wrap64 (rd l0 1)) (wrap64 (rd l0 2)) t117 none 0 [] true _ ?side1 ?side2 ?side3 ?side4 ?side5 ?side6 A21.out).mono ?_); (case side1 => exact Kd.C_nil _ _); (case side2 => exact Nat.le_refl _); (case side3 => exact (blk_cell (cs := #[.int .i64 (wrap64 (rd l0 1)), .int .i64 (wrap64 (rd l0 2)), .int .i64 t117, .slice none 0 0]) (t := 28) (by (with_reducible repeat (first | refine blk_drewN ?_ _ | refine blk_drew ?_ | refine blk_alloc ?_ _)); refine blk_put (cs := #[.int .i64 (wrap64 (rd l0 1)), .int .i64 (wrap64 (rd l0 2)), .int .i64 0, .slice none 0 0]) ?_ 2 _ rfl; refine blk_put (cs := #[.int .i64 (wrap64 (rd l0 1)), .int .i64 (wrap64 (rd l0 2)), .int .i64 0, .slice none 0 0]) ?_ 3 _ rfl; refine blk_put (cs := #[.int .i64 (wrap64 (rd l0 1)), .int .i64 (wrap64 (rd l0 2)), .int .i64 0, .slice none 0 0]) ?_ 2 _ rfl; refine blk_put (cs := #[.int .i64 (wrap64 (rd l0 1)), .int .i64 0, .int .i64 0, .slice none 0 0]) ?_ 1 _ rfl; refine blk_put (cs := #[.int .i64 0, .int .i64 0, .int .i64 0, .slice none 0 0]) ?_ 0 _ rfl; exact bl_ BK115.out) 0).trans rfl); (case side4 => exact (blk_cell (cs := #[.int .i64 (wrap64 (rd l0 1)), .int .i64 (wrap64 (rd l0 2)), .int .i64 t117, .slice none 0 0]) (t := 28) (by (with_reducible repeat (first | refine blk_drewN ?_ _ | refine blk_drew ?_ | refine blk_alloc ?_ _)); refine blk_put (cs := #[.int .i64 (wrap64 (rd l0 1)), .int .i64 (wrap64 (rd l0 2)), .int .i64 0, .slice none 0 0]) ?_ 2 _ rfl; refine blk_put (cs := #[.int .i64 (wrap64 (rd l0 1)), .int .i64 (wrap64 (rd l0 2)), .int .i64 0, .slice none 0 0]) ?_ 3 _ rfl; refine blk_put (cs := #[.int .i64 (wrap64 (rd l0 1)), .int .i64 (wrap64 (rd l0 2)), .int .i64 0, .slice none 0 0]) ?_ 2 _ rfl; refine blk_put (cs := #[.int .i64 (wrap64 (rd l0 1)), .int .i64 0, .int .i64 0, .slice none 0 0]) ?_ 1 _ rfl; refine blk_put (cs := #[.int .i64 0, .int .i64 0, .int .i64 0, .slice none 0 0]) ?_ 0 _ rfl; exact bl_ BK115.out) 1).trans rfl); (case side5 => exact (blk_cell (cs := #[.int .i64 (wrap64 (rd l0 1)), .int .i64 (wrap64 (rd l0 2)), .int .i64 t117, .slice none 0 0]) (t := 28) (by (with_reducible repeat (first | refine blk_drewN ?_ _ | refine blk_drew ?_ | refine blk_alloc ?_ _)); refine blk_put (cs := #[.int .i64 (wrap64 (rd l0 1)), .int .i64 (wrap64 (rd l0 2)), .int .i64 0, .slice none 0 0]) ?_ 2 _ rfl; refine blk_put (cs := #[.int .i64 (wrap64 (rd l0 1)), .int .i64 (wrap64 (rd l0 2)), .int .i64 0, .slice none 0 0]) ?_ 3 _ rfl; refine blk_put (cs := #[.int .i64 (wrap64 (rd l0 1)), .int .i64 (wrap64 (rd l0 2)), .int .i64 0, .slice none 0 0]) ?_ 2 _ rfl; refine blk_put (cs := #[.int .i64 (wrap64 (rd l0 1)), .int .i64 0, .int .i64 0, .slice none 0 0]) ?_ 1 _ rfl; refine blk_put (cs := #[.int .i64 0, .int .i64 0, .int .i64 0, .slice none 0 0]) ?_ 0 _ rfl; exact bl_ BK115.out) 2).trans rfl); (case side6 => exact (blk_cell (cs := #[.int .i64 (wrap64 (rd l0 1)), .int .i64 (wrap64 (rd l0 2)), .int .i64 t117, .slice none 0 0]) (t := 28) (by (with_reducible repeat (first | refine blk_drewN ?_ _ | refine blk_drew ?_ | refine blk_alloc ?_ _)); refine blk_put (cs := #[.int .i64 (wrap64 (rd l0 1)), .int .i64 (wrap64 (rd l0 2)), .int .i64 0, .slice none 0 0]) ?_ 2 _ rfl; refine blk_put (cs := #[.int .i64 (wrap64 (rd l0 1)), .int .i64 (wrap64 (rd l0 2)), .int .i64 0, .slice none 0 0]) ?_ 3 _ rfl; refine blk_put (cs := #[.int .i64 (wrap64 (rd l0 1)), .int .i64 (wrap64 (rd l0 2)), .int .i64 0, .slice none 0 0]) ?_ 2 _ rfl; refine blk_put (cs := #[.int .i64 (wrap64 (rd l0 1)), .int .i64 0, .int .i64 0, .slice none 0 0]) ?_ 1 _ rfl; refine blk_put (cs := #[.int .i64 0, .int .i64 0, .int .i64 0, .slice none 0 0]) ?_ 0 _ rfl; exact bl_ BK115.out) 3).trans rfl); rintro e w32 ⟨rfl, hb⟩; have n0_ := bw_ gb111 hb; replace BK115 := A_ (blk_below (g := gb115) (o := .cells #[.int .i64 (wrap64 (rd l0 1)), .int .i64 (wrap64 (rd l0 2)), .int .i64 t117, .slice none 0 0] 28 (0, 0)) (by (with_reducible repeat (first | refine blk_drewN ?_ _ | refine blk_drew ?_ | refine blk_alloc ?_ _)); refine blk_put (cs := #[.int .i64 (wrap64 (rd l0 1)), .int .i64 (wrap64 (rd l0 2)), .int .i64 0, .slice none 0 0]) ?_ 2 _ rfl; refine blk_put (cs := #[.int .i64 (wrap64 (rd l0 1)), .int .i64 (wrap64 (rd l0 2)), .int .i64 0, .slice none 0 0]) ?_ 3 _ rfl; refine blk_put (cs := #[.int .i64 (wrap64 (rd l0 1)), .int .i64 (wrap64 (rd l0 2)), .int .i64 0, .slice none 0 0]) ?_ 2 _ rfl; refine blk_put (cs := #[.int .i64 (wrap64 (rd l0 1)), .int .i64 0, .int .i64 0, .slice none 0 0]) ?_ 1 _ rfl; refine blk_put (cs := #[.int .i64 0, .int .i64 0, .int .i64 0, .slice none 0 0]) ?_ 0 _ rfl; exact bl_ BK115.out) hb); replace HB := bs_ hb; replace BK111 := n0_; clear n0_; (try clear hb); obtain ⟨hcz33_0, hcz33_1, hcz33_2, hcz33_3, hfz33_0, hfz33_1, hfz33_2, hfz33_3⟩ := bc4_ BK115.out; obtain ⟨hcz34_0, hcz34_1, hcz34_2, hcz34_3, hcz34_4, hfz34_0, hfz34_1, hfz34_2, hfz34_3, hfz34_4⟩ := bc5_ BK111.out))
     try simp only [i64_w]
     refine bodyPost_ret (results_cell_row rfl _ _ gb111 30 #[.int .i64 0, .int .i64 (wrap64 (rd l0 1)), .int .i64 (wrap64 (rd l0 2)), .int .i64 t117, .slice none 0 0] (0, 0) _ rfl (by (with_reducible repeat (first | refine blk_drewN ?_ _ | refine blk_drew ?_ | refine blk_alloc ?_ _)); refine bp5_ (cs := #[.int .i64 0, .int .i64 0, .int .i64 0, .int .i64 0, .slice none 0 0]) ?_ rfl; exact bl_ BK111.out) Try.underlying30 rfl (by kernel_rfl)) rfl ?_; exact ⟨_, eq_a, by first | exact Kd.R_nil _ _ _ _ _ | exact Kd.N_nil _ _ _ _ _ | exact Kd.V_nil _ _ _ _ _ | exact Kd.Q_nil _ _ _ _ _ | exact Kd.S_nil _ _ _ _ _, below_a⟩
    ·
     replace c22 := Bool.eq_false_iff.mpr c22; subst c22; have H1 : (some (3, 0, 0, 0, ([] : List Int))) = some (r1, r2, r3, r4, r5) := by rw [if_neg (show ¬ (false = true) by decide)] at H; exact H
     clear H; have H := H1; clear H1; simp only [Option.some.injEq, Prod.mk.injEq] at H; obtain ⟨rfl, rfl, rfl, rfl, rfl⟩ := H
     go_enter Try.func25, Try.ntmps25
     try go_wp2_with (first | ((with_reducible refine gate_dst (N := 2) rfl ?_); refine bx_ 2 (#[.int .i64 0, .int .i64 0, .int .i64 0, .int .i64 0, .slice none 0 0]) 30 rfl rfl ?hr ?_; (case hr => go_simp <;> rfl); intro gb111 hg w35 hbox hb; have n0_ := bs_ hb; have BK111 := A_ (hbox); have GW111 := gw_ (w := w) hg; replace HB := n0_; clear n0_; clear hb hbox hg; have p112 : 0 ≤ (0 : Int) := (by omega); have q112 : 0 < (l0.length : Int) := od_; obtain ⟨ad112, e112, hx112_0⟩ := Kd.at_int HR0.out 0 p112 q112; cases e112; have qi112 : (0 < l0.length) = True := eq_true (by omega); (try rw [show ((0 : Int)).toNat = 0 from rfl] at hx112_0); (try rw [Addr.add_zero'] at hx112_0); replace hx112_0 := hc_ HB hx112_0; replace p112 := eq_true p112; replace q112 := eq_true q112))
     replace BK111 := A_ (blk_drew BK111.out); replace HB := A_ (below_drew1 HB.out); have p113 : 0 ≤ (1 : Int) := (by omega); have q113 : 1 < (l0.length : Int) := od_; obtain ⟨ad113, e113, hx113_0⟩ := Kd.at_int HR0.out 1 p113 q113; have hw113_0 := hx113_0; (try rw [show ((1 : Int)).toNat = 1 from rfl] at hw113_0); (try rw [show 1 * 1 = 1 from rfl] at hw113_0); (try simp only [Nat.reduceMul, Nat.reduceEqDiff, Go.Addr.add, ↓reduceIte] at hw113_0); obtain rfl : ad112 = ad113 := (by injection e113); (try simp only [show (1 : Int).toNat = 1 from rfl, Nat.reduceMul, Nat.reduceEqDiff, Go.Addr.add, ↓reduceIte] at hx113_0); have qi113 : (1 < l0.length) = True := eq_true (by omega); (try rw [show ((1 : Int)).toNat = 1 from rfl] at hx113_0); replace hx113_0 := hc_ HB hx113_0; replace p113 := eq_true p113; replace q113 := eq_true q113; have p114 : 0 ≤ (2 : Int) := (by omega); have q114 : 2 < (l0.length : Int) := od_; obtain ⟨ad114, e114, hx114_0⟩ := Kd.at_int HR0.out 2 p114 q114; have hw114_0 := hx114_0; (try rw [show ((2 : Int)).toNat = 2 from rfl] at hw114_0); (try rw [show 2 * 1 = 2 from rfl] at hw114_0); (try simp only [Nat.reduceMul, Nat.reduceEqDiff, Go.Addr.add, ↓reduceIte] at hw114_0); obtain rfl : ad112 = ad114 := (by injection e114); (try simp only [show (2 : Int).toNat = 2 from rfl, Nat.reduceMul, Nat.reduceEqDiff, Go.Addr.add, ↓reduceIte] at hx114_0); have qi114 : (2 < l0.length) = True := eq_true (by omega); (try rw [show ((2 : Int)).toNat = 2 from rfl] at hx114_0); replace hx114_0 := hc_ HB hx114_0; replace p114 := eq_true p114; replace q114 := eq_true q114; refine start_ (n := 11) (S := fun w' => w'.cell? ⟨ad112.block, ad112.off + 1, none⟩ = some (.int .u8 (rd l0 1)) ∧ w'.cell? ⟨ad112.block, ad112.off + 2, none⟩ = some (.int .u8 (rd l0 2))) (ds := []) (rl_ [0, 11]) (by kernel_rfl) rfl rfl ⟨((HB.out.cell (World.block_lt_of_cell? w _ hw113_0)).trans hw113_0), ((HB.out.cell (World.block_lt_of_cell? w _ hw114_0)).trans hw114_0)⟩ (fun hHeld => ?_); refine with_tabW spec_ReadHead.tab5 spec_ReadHead.bits5 (fun HT_ HW_ => ?_); generalize w35.drew = w36 at BK111 HB hx113_0 hx114_0 hHeld ⊢; refine pw_ 0 13 ?_ (rl_ [1, 10]) HT_ rfl rfl (by kernel_rfl) ?_ ?_ ?_ ?_; rotate_left; (intro w'; go_simp; with_reducible rfl); rotate_left; (simp only [P4_]; rfl)
     refine pw_ 1 14 ?_ (rl_ [2, 9]) HT_ rfl rfl (by kernel_rfl) ?_ ?_ ?_ ?_; rotate_left; (intro w'; go_simp; with_reducible rfl); rotate_left; (simp only [P4_]; rfl)
     refine pw_ 4 17 ?_ (rl_ [2, 2, 1, 6]) HT_ rfl rfl (by kernel_rfl) ?_ ?_ ?_ ?_; rotate_left; (intro w'; go_simp; with_reducible rfl); rotate_left; (simp only [P4_]; rfl)
     refine pw_ 5 18 ?_ (rl_ [2, 2, 2, 5]) HT_ rfl rfl (by kernel_rfl) ?_ ?_ ?_ ?_; rotate_left; (intro w'; go_simp; with_reducible rfl); rotate_left; (simp only [P4_]; rfl)
     refine take_ (i := 2) (N := some 15) (v := ?_) (a' := ?_) (rl_ [3, 1, 2, 5]) rfl rfl (take_ofW HT_.out HW_.out (by kernel_rfl)) (fun _ _ _ h => h) (Or.inl ⟨by rfl, ?_⟩) hHeld ?_ ?_; rotate_left; (rintro w' ⟨s0, s1⟩; go_simp; with_reducible rfl); rotate_left; (simp only [P4_]; rfl)
     refine pw_ 3 16 ?_ (rl_ [6, 5]) HT_ rfl rfl (by kernel_rfl) ?_ ?_ ?_ ?_; rotate_left; (intro w'; go_simp; with_reducible rfl); rotate_left; (simp only [P4_]; rfl)
     refine take_ (i := 6) (N := some 19) (v := ?_) (a' := ?_) (rl_ [7, 4]) rfl rfl (take_ofW HT_.out HW_.out (by kernel_rfl)) (fun _ _ _ h => h) (Or.inl ⟨by rfl, ?_⟩) hHeld ?_ ?_; rotate_left; (rintro w' ⟨s0, s1⟩; go_simp; with_reducible rfl); rotate_left; (simp only [P4_]; rfl)
     refine pw_ 7 20 ?_ (rl_ [8, 3]) HT_ rfl rfl (by kernel_rfl) ?_ ?_ ?_ ?_; rotate_left; (intro w'; go_simp; with_reducible rfl); rotate_left; (simp only [P4_]; rfl)
     refine pw_ 8 21 ?_ (rl_ [9, 2]) HT_ rfl rfl (by kernel_rfl) ?_ ?_ ?_ ?_; rotate_left; (intro w'; go_simp; with_reducible rfl); rotate_left; (simp only [P4_]; rfl)
     refine one_ (i := 9) (N := some 3) (rl_ [10, 1]) rfl rfl (one_of HT_.out (by kernel_rfl)) (by decide) (fun K hK => ?_); refine box_step ?hg (N := 3) ?hd (cs := #[.int .i64 0, .int .i64 0, .int .i64 0, .slice none 0 0]) (t := 28) ?hr ?_; (case hd => rfl); (case hg => rfl); (case hr => go_simp <;> rfl); intro gb115 hg w37 hbox hb; have n0_ := bw_ gb111 hb; have n1_ := bs_ hb; have BK115 := A_ (hbox); have GW115 := gw_ (w := w) hg; have NB111_115 := bn_ gb111 hg; have NB115_111 := bm2_ gb111 hg; replace BK111 := n0_; replace HB := n1_; clear n0_ n1_ hb hbox hg; refine hK.out _ _ ⟨((HB.out.cell (World.block_lt_of_cell? w _ hw113_0)).trans hw113_0), ((HB.out.cell (World.block_lt_of_cell? w _ hw114_0)).trans hw114_0)⟩ (fun hHeld => ?_); clear hK K; refine norm_ (a' := ?_) ?_ ?_; rotate_left
     ·
      show Act.put _ (some 3) _ = _; simp only [P4_]; rfl
     refine one_ (i := 10) (N := none) (rl_ [11]) rfl rfl (one_of HT_.out (by kernel_rfl)) (by decide) (fun K hK => ?_); have hs38 : w37.cell? ⟨gb115, 0, none⟩ = some (.int .i64 0) := (blk_cell BK115.out 0).trans rfl; have hfs38 := blk_frozen BK115.out 0; have hns38_0 := NB111_115.out; have hms38_0 := NB115_111.out; have hs39 : w37.cell? ⟨gb115, 1, none⟩ = some (.int .i64 0) := (blk_cell BK115.out 1).trans rfl; have hfs39 := blk_frozen BK115.out 1; have hns39_0 := NB111_115.out; have hms39_0 := NB115_111.out; have hs40 : w37.cell? ⟨gb115, 2, none⟩ = some (.int .i64 0) := (blk_cell BK115.out 2).trans rfl; have hfs40 := blk_frozen BK115.out 2; have hns40_0 := NB111_115.out; have hms40_0 := NB115_111.out; have hs41 : w37.cell? ⟨gb115, 3, none⟩ = some (.slice none 0 0) := (blk_cell BK115.out 3).trans rfl; have hfs41 := blk_frozen BK115.out 3; have hns41_0 := NB111_115.out; have hms41_0 := NB115_111.out; refine skip_ (w1 := ?_) (by rfl) rfl ?_ ?_; rotate_left
     ·
      go_simp
      rfl
     refine hK.out _ _ ⟨((cell_far (p := ⟨gb115, _, none⟩) (by first | exact nf_ hw113_0 GW115.out | (rw [add_block]; exact nf_ hw113_0 GW115.out) | (show (Addr.add _ _).block ≠ _; rw [add_block]; exact nf_ hw113_0 GW115.out) | (dsimp only; exact nf_ hw113_0 GW115.out)) _).trans (((cell_far (p := ⟨gb115, _, none⟩) (by first | exact nf_ hw113_0 GW115.out | (rw [add_block]; exact nf_ hw113_0 GW115.out) | (show (Addr.add _ _).block ≠ _; rw [add_block]; exact nf_ hw113_0 GW115.out) | (dsimp only; exact nf_ hw113_0 GW115.out)) _).trans (((cell_far (p := ⟨gb115, _, none⟩) (by first | exact nf_ hw113_0 GW115.out | (rw [add_block]; exact nf_ hw113_0 GW115.out) | (show (Addr.add _ _).block ≠ _; rw [add_block]; exact nf_ hw113_0 GW115.out) | (dsimp only; exact nf_ hw113_0 GW115.out)) _).trans (((cell_far (p := ⟨gb115, _, none⟩) (by first | exact nf_ hw113_0 GW115.out | (rw [add_block]; exact nf_ hw113_0 GW115.out) | (show (Addr.add _ _).block ≠ _; rw [add_block]; exact nf_ hw113_0 GW115.out) | (dsimp only; exact nf_ hw113_0 GW115.out)) _).trans (hHeld.1)))))))), ((cell_far (p := ⟨gb115, _, none⟩) (by first | exact nf_ hw114_0 GW115.out | (rw [add_block]; exact nf_ hw114_0 GW115.out) | (show (Addr.add _ _).block ≠ _; rw [add_block]; exact nf_ hw114_0 GW115.out) | (dsimp only; exact nf_ hw114_0 GW115.out)) _).trans (((cell_far (p := ⟨gb115, _, none⟩) (by first | exact nf_ hw114_0 GW115.out | (rw [add_block]; exact nf_ hw114_0 GW115.out) | (show (Addr.add _ _).block ≠ _; rw [add_block]; exact nf_ hw114_0 GW115.out) | (dsimp only; exact nf_ hw114_0 GW115.out)) _).trans (((cell_far (p := ⟨gb115, _, none⟩) (by first | exact nf_ hw114_0 GW115.out | (rw [add_block]; exact nf_ hw114_0 GW115.out) | (show (Addr.add _ _).block ≠ _; rw [add_block]; exact nf_ hw114_0 GW115.out) | (dsimp only; exact nf_ hw114_0 GW115.out)) _).trans (((cell_far (p := ⟨gb115, _, none⟩) (by first | exact nf_ hw114_0 GW115.out | (rw [add_block]; exact nf_ hw114_0 GW115.out) | (show (Addr.add _ _).block ≠ _; rw [add_block]; exact nf_ hw114_0 GW115.out) | (dsimp only; exact nf_ hw114_0 GW115.out)) _).trans (hHeld.2))))))))⟩ (fun hHeld => ?_); clear hK K; refine done_ (done_of HT_.out (by kernel_rfl)) ?_; have p116 : 0 ≤ (3 : Int) := (by omega); have q116 : 3 < (l0.length : Int) := od_; obtain ⟨ad116, e116, hx116_0⟩ := Kd.at_int HR0.out 3 p116 q116; obtain rfl : ad112 = ad116 := (by injection e116); (try simp only [show (3 : Int).toNat = 3 from rfl, Nat.reduceMul, Nat.reduceEqDiff, Go.Addr.add, ↓reduceIte] at hx116_0); have qi116 : (3 < l0.length) = True := eq_true (by omega); (try rw [show ((3 : Int)).toNat = 3 from rfl] at hx116_0); have hn116_0 : ad112.block ≠ gb115 := Nat.ne_of_lt (Nat.lt_of_lt_of_le (by have := World.block_lt_of_cell? _ _ hx116_0; first | rwa [add_block] at this | exact this) GW115.out); have hn116_1 : ad112.block ≠ gb115 := Nat.ne_of_lt (Nat.lt_of_lt_of_le (by have := World.block_lt_of_cell? _ _ hx116_0; first | rwa [add_block] at this | exact this) GW115.out); have hn116_2 : ad112.block ≠ gb115 := Nat.ne_of_lt (Nat.lt_of_lt_of_le (by have := World.block_lt_of_cell? _ _ hx116_0; first | rwa [add_block] at this | exact this) GW115.out); have hn116_3 : ad112.block ≠ gb115 := Nat.ne_of_lt (Nat.lt_of_lt_of_le (by have := World.block_lt_of_cell? _ _ hx116_0; first | rwa [add_block] at this | exact this) GW115.out); replace hx116_0 := hc_ HB hx116_0; replace hx116_0 := (cell_far (p := ⟨gb115, 0, none⟩) (by first | (rw [add_block]; exact hn116_0) | (show (Addr.add _ _).block ≠ _; rw [add_block]; exact hn116_0) | exact hn116_0) (.int .i64 (wrap64 (rd l0 1)))).trans hx116_0; replace hx116_0 := (cell_far (p := ⟨gb115, 1, none⟩) (by first | (rw [add_block]; exact hn116_1) | (show (Addr.add _ _).block ≠ _; rw [add_block]; exact hn116_1) | exact hn116_1) (.int .i64 (wrap64 (rd l0 2)))).trans hx116_0; replace hx116_0 := (cell_far (p := ⟨gb115, 2, none⟩) (by first | (rw [add_block]; exact hn116_2) | (show (Addr.add _ _).block ≠ _; rw [add_block]; exact hn116_2) | exact hn116_2) (.int .i64 0)).trans hx116_0; replace hx116_0 := (cell_far (p := ⟨gb115, 3, none⟩) (by first | (rw [add_block]; exact hn116_3) | (show (Addr.add _ _).block ≠ _; rw [add_block]; exact hn116_3) | exact hn116_3) (.slice none 0 0)).trans hx116_0; clear hn116_0 hn116_1 hn116_2 hn116_3; replace p116 := eq_true p116; replace q116 := eq_true q116
     try go_wp2_with (first | ((with_reducible refine gate_callee (f := 65) rfl ?_); refine goesL_ (some 28) rfl rfl Try.func65 (by kernel_rfl) rfl #[.slice (some ad112) l0.length c0, .int .i64 3, .int .i64 8] rfl args_a ?_; (with_reducible refine (spec_l1Read.calls k _ _ l0 3 8 t117 _ ?side1 ?side2 A20.out).mono ?_); (case side1 => exact Kd.C_below HR0.out below_a); (case side2 => exact HC0.out); rintro e w' ⟨rfl, ⟨nd, rfl⟩⟩; refine ⟨_, rfl, ?_⟩; have hnb42 := NB115_111.out; have hnc42 := NB111_115.out; obtain ⟨hcz43_0, hcz43_1, hcz43_2, hcz43_3, hfz43_0, hfz43_1, hfz43_2, hfz43_3⟩ := bc4_ BK115.out) | (go_at_call 66; (refine (spec_l5Head.calls _ (wrap64 (rd l0 1)) (wrap64 (rd l0 2)) t117 none 0 [] false _ ?side1 ?side2 ?side3 ?side4 ?side5 ?side6 A21.out).mono ?_); (case side1 => exact Kd.C_nil _ _); (case side2 => exact Nat.le_refl _); (case side3 => exact (blk_cell (cs := #[.int .i64 (wrap64 (rd l0 1)), .int .i64 (wrap64 (rd l0 2)), .int .i64 t117, .slice none 0 0]) (t := 28) (by (with_reducible repeat (first | refine blk_drewN ?_ _ | refine blk_drew ?_ | refine blk_alloc ?_ _)); refine blk_put (cs := #[.int .i64 (wrap64 (rd l0 1)), .int .i64 (wrap64 (rd l0 2)), .int .i64 0, .slice none 0 0]) ?_ 2 _ rfl; refine blk_put (cs := #[.int .i64 (wrap64 (rd l0 1)), .int .i64 (wrap64 (rd l0 2)), .int .i64 0, .slice none 0 0]) ?_ 3 _ rfl; refine blk_put (cs := #[.int .i64 (wrap64 (rd l0 1)), .int .i64 (wrap64 (rd l0 2)), .int .i64 0, .slice none 0 0]) ?_ 2 _ rfl; refine blk_put (cs := #[.int .i64 (wrap64 (rd l0 1)), .int .i64 0, .int .i64 0, .slice none 0 0]) ?_ 1 _ rfl; refine blk_put (cs := #[.int .i64 0, .int .i64 0, .int .i64 0, .slice none 0 0]) ?_ 0 _ rfl; exact bl_ BK115.out) 0).trans rfl); (case side4 => exact (blk_cell (cs := #[.int .i64 (wrap64 (rd l0 1)), .int .i64 (wrap64 (rd l0 2)), .int .i64 t117, .slice none 0 0]) (t := 28) (by (with_reducible repeat (first | refine blk_drewN ?_ _ | refine blk_drew ?_ | refine blk_alloc ?_ _)); refine blk_put (cs := #[.int .i64 (wrap64 (rd l0 1)), .int .i64 (wrap64 (rd l0 2)), .int .i64 0, .slice none 0 0]) ?_ 2 _ rfl; refine blk_put (cs := #[.int .i64 (wrap64 (rd l0 1)), .int .i64 (wrap64 (rd l0 2)), .int .i64 0, .slice none 0 0]) ?_ 3 _ rfl; refine blk_put (cs := #[.int .i64 (wrap64 (rd l0 1)), .int .i64 (wrap64 (rd l0 2)), .int .i64 0, .slice none 0 0]) ?_ 2 _ rfl; refine blk_put (cs := #[.int .i64 (wrap64 (rd l0 1)), .int .i64 0, .int .i64 0, .slice none 0 0]) ?_ 1 _ rfl; refine blk_put (cs := #[.int .i64 0, .int .i64 0, .int .i64 0, .slice none 0 0]) ?_ 0 _ rfl; exact bl_ BK115.out) 1).trans rfl); (case side5 => exact (blk_cell (cs := #[.int .i64 (wrap64 (rd l0 1)), .int .i64 (wrap64 (rd l0 2)), .int .i64 t117, .slice none 0 0]) (t := 28) (by (with_reducible repeat (first | refine blk_drewN ?_ _ | refine blk_drew ?_ | refine blk_alloc ?_ _)); refine blk_put (cs := #[.int .i64 (wrap64 (rd l0 1)), .int .i64 (wrap64 (rd l0 2)), .int .i64 0, .slice none 0 0]) ?_ 2 _ rfl; refine blk_put (cs := #[.int .i64 (wrap64 (rd l0 1)), .int .i64 (wrap64 (rd l0 2)), .int .i64 0, .slice none 0 0]) ?_ 3 _ rfl; refine blk_put (cs := #[.int .i64 (wrap64 (rd l0 1)), .int .i64 (wrap64 (rd l0 2)), .int .i64 0, .slice none 0 0]) ?_ 2 _ rfl; refine blk_put (cs := #[.int .i64 (wrap64 (rd l0 1)), .int .i64 0, .int .i64 0, .slice none 0 0]) ?_ 1 _ rfl; refine blk_put (cs := #[.int .i64 0, .int .i64 0, .int .i64 0, .slice none 0 0]) ?_ 0 _ rfl; exact bl_ BK115.out) 2).trans rfl); (case side6 => exact (blk_cell (cs := #[.int .i64 (wrap64 (rd l0 1)), .int .i64 (wrap64 (rd l0 2)), .int .i64 t117, .slice none 0 0]) (t := 28) (by (with_reducible repeat (first | refine blk_drewN ?_ _ | refine blk_drew ?_ | refine blk_alloc ?_ _)); refine blk_put (cs := #[.int .i64 (wrap64 (rd l0 1)), .int .i64 (wrap64 (rd l0 2)), .int .i64 0, .slice none 0 0]) ?_ 2 _ rfl; refine blk_put (cs := #[.int .i64 (wrap64 (rd l0 1)), .int .i64 (wrap64 (rd l0 2)), .int .i64 0, .slice none 0 0]) ?_ 3 _ rfl; refine blk_put (cs := #[.int .i64 (wrap64 (rd l0 1)), .int .i64 (wrap64 (rd l0 2)), .int .i64 0, .slice none 0 0]) ?_ 2 _ rfl; refine blk_put (cs := #[.int .i64 (wrap64 (rd l0 1)), .int .i64 0, .int .i64 0, .slice none 0 0]) ?_ 1 _ rfl; refine blk_put (cs := #[.int .i64 0, .int .i64 0, .int .i64 0, .slice none 0 0]) ?_ 0 _ rfl; exact bl_ BK115.out) 3).trans rfl); rintro e w44 ⟨rfl, hb⟩; have n0_ := bw_ gb111 hb; replace BK115 := A_ (blk_below (g := gb115) (o := .cells #[.int .i64 (wrap64 (rd l0 1)), .int .i64 (wrap64 (rd l0 2)), .int .i64 t117, .slice none 0 0] 28 (0, 0)) (by (with_reducible repeat (first | refine blk_drewN ?_ _ | refine blk_drew ?_ | refine blk_alloc ?_ _)); refine blk_put (cs := #[.int .i64 (wrap64 (rd l0 1)), .int .i64 (wrap64 (rd l0 2)), .int .i64 0, .slice none 0 0]) ?_ 2 _ rfl; refine blk_put (cs := #[.int .i64 (wrap64 (rd l0 1)), .int .i64 (wrap64 (rd l0 2)), .int .i64 0, .slice none 0 0]) ?_ 3 _ rfl; refine blk_put (cs := #[.int .i64 (wrap64 (rd l0 1)), .int .i64 (wrap64 (rd l0 2)), .int .i64 0, .slice none 0 0]) ?_ 2 _ rfl; refine blk_put (cs := #[.int .i64 (wrap64 (rd l0 1)), .int .i64 0, .int .i64 0, .slice none 0 0]) ?_ 1 _ rfl; refine blk_put (cs := #[.int .i64 0, .int .i64 0, .int .i64 0, .slice none 0 0]) ?_ 0 _ rfl; exact bl_ BK115.out) hb); replace HB := bs_ hb; replace BK111 := n0_; clear n0_; (try clear hb); obtain ⟨hcz45_0, hcz45_1, hcz45_2, hcz45_3, hcz45_4, hfz45_0, hfz45_1, hfz45_2, hfz45_3, hfz45_4⟩ := bc5_ BK111.out))
     refine bodyPost_ret (results_cell_row rfl _ _ gb111 30 #[.int .i64 3, .int .i64 0, .int .i64 0, .int .i64 0, .slice none 0 0] (0, 0) _ rfl (by (with_reducible repeat (first | refine blk_drewN ?_ _ | refine blk_drew ?_ | refine blk_alloc ?_ _)); refine bp5_ (cs := #[.int .i64 0, .int .i64 0, .int .i64 0, .int .i64 0, .slice none 0 0]) ?_ rfl; exact bl_ BK111.out) Try.underlying30 rfl (by kernel_rfl)) rfl ?_; exact ⟨_, eq_a, by first | exact Kd.R_nil _ _ _ _ _ | exact Kd.N_nil _ _ _ _ _ | exact Kd.V_nil _ _ _ _ _ | exact Kd.Q_nil _ _ _ _ _ | exact Kd.S_nil _ _ _ _ _, below_a⟩
  ·
   rw [if_neg c6] at H; have c6b0 : ((rd l0 0) == 1) = false := beq_eq_false_iff_ne.mpr c6; have c6b1 : ((rd l0 0) != 1) = true := bne_iff_ne.mpr c6; simp only [Option.some.injEq, Prod.mk.injEq] at H; obtain ⟨rfl, rfl, rfl, rfl, rfl⟩ := H
   go_enter Try.func25, Try.ntmps25
   go_wp2_with (first | ((with_reducible refine gate_dst (N := 2) rfl ?_); refine bx_ 2 (#[.int .i64 0, .int .i64 0, .int .i64 0, .int .i64 0, .slice none 0 0]) 30 rfl rfl ?hr ?_; (case hr => go_simp <;> rfl); intro gb111 hg w46 hbox hb; have n0_ := bs_ hb; have BK111 := A_ (hbox); have GW111 := gw_ (w := w) hg; replace HB := n0_; clear n0_; clear hb hbox hg; have p112 : 0 ≤ (0 : Int) := (by omega); have q112 : 0 < (l0.length : Int) := od_; obtain ⟨ad112, e112, hx112_0⟩ := Kd.at_int HR0.out 0 p112 q112; cases e112; have qi112 : (0 < l0.length) = True := eq_true (by omega); (try rw [show ((0 : Int)).toNat = 0 from rfl] at hx112_0); (try rw [Addr.add_zero'] at hx112_0); replace hx112_0 := hc_ HB hx112_0; replace p112 := eq_true p112; replace q112 := eq_true q112; obtain ⟨hcz47_0, hcz47_1, hcz47_2, hcz47_3, hcz47_4, hfz47_0, hfz47_1, hfz47_2, hfz47_3, hfz47_4⟩ := bc5_ BK111.out))
   refine bodyPost_ret (results_cell_row rfl _ _ gb111 30 #[.int .i64 1, .int .i64 0, .int .i64 0, .int .i64 0, .slice none 0 0] (0, 0) _ rfl (by (with_reducible repeat (first | refine blk_drewN ?_ _ | refine blk_drew ?_ | refine blk_alloc ?_ _)); refine bp5_ (cs := #[.int .i64 0, .int .i64 0, .int .i64 0, .int .i64 0, .slice none 0 0]) ?_ rfl; exact bl_ BK111.out) Try.underlying30 rfl (by kernel_rfl)) rfl ?_; exact ⟨_, eq_a, by first | exact Kd.R_nil _ _ _ _ _ | exact Kd.N_nil _ _ _ _ _ | exact Kd.V_nil _ _ _ _ _ | exact Kd.Q_nil _ _ _ _ _ | exact Kd.S_nil _ _ _ _ _, below_a⟩
def spec_l4Find.l0 : Nat → Int → Int → Int → List (S59) → Option (Int)
 | 0, _, _, _, _ => none
 | k + 1, x1, x5, x1000, x1001 => if x5 < (x1001.length : Int) then (if 0 ≤ x5 then (if ((rd_T59 x1001 x5).f0) = x1 then (some x5) else (spec_l4Find.l0 k x1 (wrap64 (x5 + 1)) x1000 x1001)) else (none)) else (some (-1))
def spec_l4Find.f (k : Nat) (a0_0 : Int) (l0_1 : List (S59)) (a1 : Int) : Option (Int) := spec_l4Find.l0 k a1 0 a0_0 l0_1
theorem spec_l4Find.calls (k : Nat) (p : Addr) (a0_0 : Int) (A0_1 : Option Addr) (c0_1 : Nat) (l0_1 : List (S59)) (a1 : Int) (r : Int) (w : World) (hr0_1 : Kd.C k59 w A0_1 l0_1.length l0_1) (hc0_1 : l0_1.length ≤ c0_1) (hxp_0 : w.cell? p = some (.int .i64 a0_0)) (hxp_1 : w.cell? ⟨p.block, p.off + 1, none⟩ = some (.slice A0_1 l0_1.length c0_1)) (h : spec_l4Find.f k a0_0 l0_1 a1 = some r) :
  Calls Try.prog 35 #[.pointer (some p), .int .i64 a1] w fun e w' => e = .returned (.int .i64 r) ∧ Below w.heap.size w w' := by
 have HXP_0 := A_ hxp_0
 have HXP_1 := A_ hxp_1
 have HLP := A_ (show p.block < w.heap.size from World.block_lt_of_cell? w _ hxp_0)
 clear hxp_0 hxp_1
 have HR0_1 := A_ hr0_1
 have HC0_1 := A_ hc0_1
 clear hr0_1 hc0_1
 have HB := A_ (Below.refl w.heap.size w)
 have H : (spec_l4Find.l0 k a1 0 a0_0 l0_1) = some r := h
 clear h
 have H' := A_ H
 clear H
 go_enter Try.func35, Try.ntmps35
 go_wp2
 go_loopg [5] k (fun kq v5 w' => ∃ (x5_1 : Int), v5 = .int .i64 x5_1 ∧ Aside0 (spec_l4Find.l0 kq a1 x5_1 a0_0 l0_1 = some r) ∧ Aside0 (kq ≤ k) ∧ Aside0 (Below w.heap.size w w'))
 case atStart => exact ⟨(0), eq_b, H', ⟨Nat.le_refl _⟩, ⟨below_a⟩⟩
 case round =>
  clear H'
  try clear p2
  obtain ⟨x5_1, rfl, HA, HK1, HB⟩ := hrel
  cases gk with
  | zero => exact absurd HA.out (by simp [spec_l4Find.l0])
  | succ k1 =>
   have H := HA.out; clear HA; simp only [spec_l4Find.l0] at H
   by_cases c3 : x5_1 < (l0_1.length : Int)
   ·
    rw [if_pos c3] at H; have c3b0 : decide (x5_1 < (l0_1.length : Int)) = true := decide_eq_true c3; clear c3
    by_cases c4 : 0 ≤ x5_1
    rotate_left
    · rw [if_neg c4] at H; exact absurd H (by simp)
    rw [if_pos c4] at H; have c4b0 : decide (0 ≤ x5_1) = true := decide_eq_true c4; clear c4
    by_cases c5 : ((rd_T59 l0_1 x5_1).f0) = a1
    ·
     rw [if_pos c5] at H; have c5b0 : (((rd_T59 l0_1 x5_1).f0) == a1) = true := beq_iff_eq.mpr c5; have c5b1 : (((rd_T59 l0_1 x5_1).f0) != a1) = false := bne_eq_false_iff_eq.mpr c5; clear c5; obtain rfl := Option.some.inj H; have hcz6_0 : wr.cell? p = some (.int .i64 a0_0) := (HB.out.cell (p := p) HLP.out).trans HXP_0.out; have hcz6_1 : wr.cell? ⟨p.block, p.off + 1, none⟩ = some (.slice A0_1 l0_1.length c0_1) := (HB.out.cell (p := ⟨p.block, p.off + 1, none⟩) HLP.out).trans HXP_1.out; have p119 : 0 ≤ (x5_1 : Int) := od_; have q119 : x5_1 < (l0_1.length : Int) := od_; obtain ⟨ad119, A119_1, c119_1, e119, hx119_0, hx119_1, hl119_1, hi119_1⟩ := at_T59 HR0_1.out x5_1 p119 q119
     cases e119
     replace hx119_0 := hc_ HB hx119_0; replace hx119_1 := hc_ HB hx119_1; have HR119_1 := A_ hi119_1; have HC119_1 := A_ hl119_1; clear hi119_1 hl119_1; replace p119 := eq_true p119; replace q119 := eq_true q119
     go_wp2
     go_ret
     exact ⟨eq_a, below_a⟩
    ·
     rw [if_neg c5] at H; have c5b0 : (((rd_T59 l0_1 x5_1).f0) == a1) = false := beq_eq_false_iff_ne.mpr c5; have c5b1 : (((rd_T59 l0_1 x5_1).f0) != a1) = true := bne_iff_ne.mpr c5; have H' := A_ H; clear H; have hcz7_0 : wr.cell? p = some (.int .i64 a0_0) := (HB.out.cell (p := p) HLP.out).trans HXP_0.out; have hcz7_1 : wr.cell? ⟨p.block, p.off + 1, none⟩ = some (.slice A0_1 l0_1.length c0_1) := (HB.out.cell (p := ⟨p.block, p.off + 1, none⟩) HLP.out).trans HXP_1.out; have p119 : 0 ≤ (x5_1 : Int) := od_; have q119 : x5_1 < (l0_1.length : Int) := od_; obtain ⟨ad119, A119_1, c119_1, e119, hx119_0, hx119_1, hl119_1, hi119_1⟩ := at_T59 HR0_1.out x5_1 p119 q119
     cases e119
     replace hx119_0 := hc_ HB hx119_0; replace hx119_1 := hc_ HB hx119_1; have HR119_1 := A_ hi119_1; have HC119_1 := A_ hl119_1; clear hi119_1 hl119_1; replace p119 := eq_true p119; replace q119 := eq_true q119
     go_wp2
     go_roundg k1
     case measure => have := HK1.out; omega
     case rel => exact ⟨(wrap64 (x5_1 + 1)), eq_b, H', ⟨by have := HK1.out; omega⟩, ⟨below_a⟩⟩
   ·
    rw [if_neg c3] at H; have c3b0 : decide (x5_1 < (l0_1.length : Int)) = false := decide_eq_false c3; clear c3; obtain rfl := Option.some.inj H; have hcz8_0 : wr.cell? p = some (.int .i64 a0_0) := (HB.out.cell (p := p) HLP.out).trans HXP_0.out; have hcz8_1 : wr.cell? ⟨p.block, p.off + 1, none⟩ = some (.slice A0_1 l0_1.length c0_1) := (HB.out.cell (p := ⟨p.block, p.off + 1, none⟩) HLP.out).trans HXP_1.out
    go_wp2
    go_ret
    exact ⟨eq_a, below_a⟩
def spec_l4Key.f (a0_0 : Int) (l0_1 : List Int) : Option (Int) := (spec_l1In.f a0_0 1 255).bind fun t120 => (if t120 = true then (if (l0_1.length : Int) = 16 then (some 0) else (some 2)) else (some 3))
theorem spec_l4Key.calls (p : Addr) (a0_0 : Int) (A0_1 : Option Addr) (c0_1 : Nat) (l0_1 : List Int) (r : Int) (w : World) (hr0_1 : Kd.C (Kd.int .u8) w A0_1 l0_1.length l0_1) (hc0_1 : l0_1.length ≤ c0_1) (hxp_0 : w.cell? p = some (.int .i64 a0_0)) (hxp_1 : w.cell? ⟨p.block, p.off + 1, none⟩ = some (.slice A0_1 l0_1.length c0_1)) (h : spec_l4Key.f a0_0 l0_1 = some r) :
  Calls Try.prog 73 #[.pointer (some p)] w fun e w' => e = .returned (.int .i64 r) ∧ Below w.heap.size w w' := by
 have HXP_0 := A_ hxp_0
 have HXP_1 := A_ hxp_1
 have HLP := A_ (show p.block < w.heap.size from World.block_lt_of_cell? w _ hxp_0)
 clear hxp_0 hxp_1
 have HR0_1 := A_ hr0_1
 have HC0_1 := A_ hc0_1
 clear hr0_1 hc0_1
 have HB := A_ (Below.refl w.heap.size w)
 have H : ((spec_l1In.f a0_0 1 255).bind fun t120 => (if t120 = true then (if (l0_1.length : Int) = 16 then (some 0) else (some 2)) else (some 3))) = some r := h
 clear h
 obtain ⟨t120, A20, H⟩ := bi_ H
 replace H : (if t120 = true then (if (l0_1.length : Int) = 16 then (some 0) else (some 2)) else (some 3)) = some r := H
 have A2 := A_ A20
 clear A20
 by_cases c3 : t120 = true
 ·
  subst c3; have H1 : (if (l0_1.length : Int) = 16 then (some 0) else (some 2)) = some r := by rw [if_pos rfl] at H; exact H
  clear H; have H := H1; clear H1
  by_cases c4 : (l0_1.length : Int) = 16
  ·
   rw [if_pos c4] at H; have c4b0 : ((l0_1.length : Int) == 16) = true := beq_iff_eq.mpr c4; have c4b1 : ((l0_1.length : Int) != 16) = false := bne_eq_false_iff_eq.mpr c4; clear c4; obtain rfl := Option.some.inj H; have hcz5_0 : w.cell? p = some (.int .i64 a0_0) := (HB.out.cell (p := p) HLP.out).trans HXP_0.out; have hcz5_1 : w.cell? ⟨p.block, p.off + 1, none⟩ = some (.slice A0_1 l0_1.length c0_1) := (HB.out.cell (p := ⟨p.block, p.off + 1, none⟩) HLP.out).trans HXP_1.out
   go_enter Try.func73, Try.ntmps73
   go_wp2_with (first | ((with_reducible refine gate_callee (f := 95) rfl ?_); refine goesL_ (some 7) rfl rfl Try.func95 (by kernel_rfl) rfl #[.int .i64 a0_0, .int .i64 1, .int .i64 255] rfl args_a ?_; (with_reducible refine (spec_l1In.calls a0_0 1 255 true _ A2.out).mono ?_); rintro e w' ⟨rfl, ⟨nd, rfl⟩⟩; refine ⟨_, rfl, ?_⟩))
   go_ret
   exact ⟨eq_a, below_a⟩
  ·
   rw [if_neg c4] at H; have c4b0 : ((l0_1.length : Int) == 16) = false := beq_eq_false_iff_ne.mpr c4; have c4b1 : ((l0_1.length : Int) != 16) = true := bne_iff_ne.mpr c4; obtain rfl := Option.some.inj H; have hcz6_0 : w.cell? p = some (.int .i64 a0_0) := (HB.out.cell (p := p) HLP.out).trans HXP_0.out; have hcz6_1 : w.cell? ⟨p.block, p.off + 1, none⟩ = some (.slice A0_1 l0_1.length c0_1) := (HB.out.cell (p := ⟨p.block, p.off + 1, none⟩) HLP.out).trans HXP_1.out
   go_enter Try.func73, Try.ntmps73
   go_wp2_with (first | ((with_reducible refine gate_callee (f := 95) rfl ?_); refine goesL_ (some 7) rfl rfl Try.func95 (by kernel_rfl) rfl #[.int .i64 a0_0, .int .i64 1, .int .i64 255] rfl args_a ?_; (with_reducible refine (spec_l1In.calls a0_0 1 255 true _ A2.out).mono ?_); rintro e w' ⟨rfl, ⟨nd, rfl⟩⟩; refine ⟨_, rfl, ?_⟩))
   go_ret
   exact ⟨eq_a, below_a⟩
 ·
  replace c3 := Bool.eq_false_iff.mpr c3; subst c3; have H1 : (some 3) = some r := by rw [if_neg (show ¬ (false = true) by decide)] at H; exact H
  clear H; have H := H1; clear H1; obtain rfl := Option.some.inj H; have hcz7_0 : w.cell? p = some (.int .i64 a0_0) := (HB.out.cell (p := p) HLP.out).trans HXP_0.out; have hcz7_1 : w.cell? ⟨p.block, p.off + 1, none⟩ = some (.slice A0_1 l0_1.length c0_1) := (HB.out.cell (p := ⟨p.block, p.off + 1, none⟩) HLP.out).trans HXP_1.out
  go_enter Try.func73, Try.ntmps73
  go_wp2_with (first | ((with_reducible refine gate_callee (f := 95) rfl ?_); refine goesL_ (some 7) rfl rfl Try.func95 (by kernel_rfl) rfl #[.int .i64 a0_0, .int .i64 1, .int .i64 255] rfl args_a ?_; (with_reducible refine (spec_l1In.calls a0_0 1 255 false _ A2.out).mono ?_); rintro e w' ⟨rfl, ⟨nd, rfl⟩⟩; refine ⟨_, rfl, ?_⟩))
  go_ret
  exact ⟨eq_a, below_a⟩
end Go.Proofs.Ytiioiohdifkbgaa.MFnExactOpenLetter
