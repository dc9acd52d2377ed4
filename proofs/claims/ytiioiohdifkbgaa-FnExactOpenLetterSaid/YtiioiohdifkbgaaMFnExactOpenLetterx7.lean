-- Laid by a program of this session (the kit's print, turned where it falls short; the texts of functions that it does not take are proved by hand).
import Derived.Test.YtiioiohdifkbgaaMFnExactOpenLetterx0
import Derived.Test.YtiioiohdifkbgaaMFnExactOpenLetterx3
import Derived.Test.YtiioiohdifkbgaaMFnExactOpenLetterx6
namespace Go.Proofs.Ytiioiohdifkbgaa.MFnExactOpenLetter
open Go.RowKit Go.Proofs.YtiioiohdifkbgaaW.PrintWords Go.Proofs.YtiioiohdifkbgaaW.PrintLast Go.Proofs.YtiioiohdifkbgaaW.PrintMore
set_option maxHeartbeats 8000000
set_option maxRecDepth 100000
attribute [local go_sem] max2_int min2_int max_two min_two max_three min_three max_four min_four   -- for this text's walks alone
set_option linter.unusedVariables false
set_option linter.unusedSimpArgs false
attribute [local go_sem] isSome_setCell
def laws_toRing.f (k : Nat) (a0_0 : Int) (l0_1 : List (S100)) : Option (Int × (List (S59))) := (laws_toKeyS.f k l0_1).bind fun t333 => (some (a0_0, t333))
theorem laws_toRing.calls (k : Nat) (a0_0 : Int) (A0_1 : Option Addr) (c0_1 : Nat) (l0_1 : List (S100)) (r1 : Int) (r2 : List (S59)) (w : World) (hr0_1 : Kd.C k100 w A0_1 l0_1.length l0_1) (hc0_1 : l0_1.length ≤ c0_1) (h : laws_toRing.f k a0_0 l0_1 = some (r1, r2)) :
  Calls Try.prog 7 #[.agg #[.int .i64 a0_0, .slice A0_1 l0_1.length c0_1]] w fun e w' => ∃ v1_ : Value, e = .returned (.agg #[.int .i64 r1, v1_]) ∧ Kd.S k59 59 w' w.heap.size (fun _ => True) v1_ r2 ∧ Below w.heap.size w w' := by
 have hu24 := Try.underlying24
 have hu34 := Try.underlying34
 have HR0_1 := A_ hr0_1
 have HC0_1 := A_ hc0_1
 clear hr0_1 hc0_1
 have HB := A_ (Below.refl w.heap.size w)
 have H : ((laws_toKeyS.f k l0_1).bind fun t333 => (some (a0_0, t333))) = some (r1, r2) := h
 clear h
 obtain ⟨t333, A20, H⟩ := bi_ H
 replace H : (some (a0_0, t333)) = some (r1, r2) := H
 have A2 := A_ A20
 clear A20
 simp only [Option.some.injEq, Prod.mk.injEq] at H
 obtain ⟨rfl, rfl⟩ := H
 go_enter Try.func7, Try.ntmps7
 go_wp2_with (first | ((with_reducible refine gate_dst (N := 1) rfl ?_); refine bx_ 1 (#[.int .i64 a0_0, .slice A0_1 l0_1.length c0_1]) 24 rfl rfl ?hr ?_; (case hr => go_simp <;> rfl); intro gb330 hg w3 hbox hb; have n0_ := bs_ hb; have BK330 := A_ (hbox); have GW330 := gw_ (w := w) hg; replace HB := n0_; clear n0_; clear hb hbox hg) | ((with_reducible refine gate_dst (N := 2) rfl ?_); refine bx_ 2 (#[.int .i64 0, .slice none 0 0]) 34 rfl rfl ?hr ?_; (case hr => go_simp <;> rfl); intro gb331 hg w4 hbox hb; have n0_ := bw_ gb330 hb; have n1_ := bs_ hb; have BK331 := A_ (hbox); have GW331 := gw_ (w := w) hg; have NB330_331 := bn_ gb330 hg; have NB331_330 := bm2_ gb330 hg; replace BK330 := n0_; replace HB := n1_; clear n0_ n1_; clear hb hbox hg) | ((with_reducible refine gate_dst (N := 3) rfl ?_); refine bx_ 3 (#[.int .i64 0, .slice none 0 0]) 34 rfl rfl ?hr ?_; (case hr => go_simp <;> rfl); intro gb332 hg w5 hbox hb; have n0_ := bw_ gb330 hb; have n1_ := bw_ gb331 hb; have n2_ := bs_ hb; have BK332 := A_ (hbox); have GW332 := gw_ (w := w) hg; have NB330_332 := bn_ gb330 hg; have NB332_330 := bm2_ gb330 hg; have NB331_332 := bn_ gb331 hg; have NB332_331 := bm2_ gb331 hg; replace BK330 := n0_; replace BK331 := n1_; replace HB := n2_; clear n0_ n1_ n2_; clear hb hbox hg; have hnb6 := NB330_331.out; have hnc6 := NB331_330.out; have hnb7 := NB330_332.out; have hnc7 := NB332_330.out; obtain ⟨hcz8_0, hcz8_1, hfz8_0, hfz8_1⟩ := bc2_ BK330.out; have hnb9 := NB332_331.out; have hnc9 := NB331_332.out; obtain ⟨hcz10_0, hcz10_1, hfz10_0, hfz10_1⟩ := bc2_ BK332.out) | ((with_reducible refine gate_callee (f := 39) rfl ?_); refine goesL_ (some 9) rfl rfl Try.func39 (by kernel_rfl) rfl #[.slice A0_1 l0_1.length c0_1] rfl args_a ?_; (with_reducible refine (laws_toKeyS.calls k _ _ l0_1 t333 _ ?side1 ?side2 A2.out).mono ?_); (case side1 => exact Kd.C_below HR0_1.out below_a); (case side2 => exact HC0_1.out); rintro e w11 ⟨v334, rfl, ho0, hb⟩; refine ⟨_, rfl, ?_⟩; have HO335 := A_ (Kd.S_lower ho0 (below_size below_a)); replace BK330 := bw_ gb330 hb; replace BK331 := bw_ gb331 hb; replace BK332 := A_ (blk_below (g := gb332) (o := .cells #[.int .i64 a0_0, .slice none 0 0] 34 (0, 0)) blk_a hb); replace HB := bs_ hb; (try clear hb ho0); obtain ⟨Ao12, co12, eo12⟩ := Kd.S_slice HO335.out; subst eo12; obtain ⟨hcz13_0, hcz13_1, hfz13_0, hfz13_1⟩ := bc2_ BK332.out; obtain ⟨hcz14_0, hcz14_1, hfz14_0, hfz14_1⟩ := bc2_ BK331.out))
 refine bodyPost_ret (results_cell_row rfl _ _ gb331 34 #[.int .i64 a0_0, .slice Ao12 t333.length co12] (0, 0) _ rfl blk_a Try.underlying34 rfl (by kernel_rfl)) rfl ?_
 exact ⟨_, eq_a, by (with_reducible repeat (first | apply Kd.S_alloc | apply Kd.S_drewN | apply Kd.S_drew)); exact Kd.S_mono (Kd.S_far (p := ⟨gb331, 1, none⟩) (Kd.S_far (p := ⟨gb331, 0, none⟩) (Kd.S_far (p := ⟨gb332, 1, none⟩) (Kd.S_types (Kd.S_types HO335.out BK332.out (by decide)) BK331.out (by decide)) (fun _ hk => hk.1.2) (.slice Ao12 t333.length co12)) (fun _ hk => hk.2) (.int .i64 a0_0)) (fun _ hk => hk.2) (.slice Ao12 t333.length co12)) (fun _ hk => trivial), below_a⟩
def impl_in.f (a0 : Int) (a1 : Int) (a2 : Int) : Option (Bool) := if a0 ≥ a1 then (some (decide (a0 ≤ a2))) else (some false)
theorem impl_in.calls (a0 : Int) (a1 : Int) (a2 : Int) (r : Bool) (w : World) (h : impl_in.f a0 a1 a2 = some r) :
  Calls Try.prog 68 #[.int .i64 a0, .int .i64 a1, .int .i64 a2] w fun e w' => e = .returned (.bool r) ∧ Drawn0 w w' := by
 have H : (if a0 ≥ a1 then (some (decide (a0 ≤ a2))) else (some false)) = some r := h
 clear h
 by_cases c4 : a0 ≥ a1
 ·
  rw [if_pos c4] at H; have c4b0 : decide (a1 ≤ a0) = true := decide_eq_true c4; clear c4; obtain rfl := Option.some.inj H
  go_enter Try.func68, Try.ntmps68
  go_wp2
  go_ret
  exact ⟨eq_b, by repeat (first | exact Drawn0.refl _ | apply Drawn0.step)⟩
 ·
  rw [if_neg c4] at H; have c4b0 : decide (a1 ≤ a0) = false := decide_eq_false c4; clear c4; obtain rfl := Option.some.inj H
  go_enter Try.func68, Try.ntmps68
  go_wp2
  go_ret
  exact ⟨eq_b, by repeat (first | exact Drawn0.refl _ | apply Drawn0.step)⟩
def impl_isKeyId.f (a0 : Int) : Option (Bool) := (impl_in.f a0 1 255).bind fun t336 => (some t336)
theorem impl_isKeyId.calls (a0 : Int) (r : Bool) (w : World) (h : impl_isKeyId.f a0 = some r) :
  Calls Try.prog 67 #[.int .i64 a0] w fun e w' => e = .returned (.bool r) ∧ Drawn0 w w' := by
 have H : ((impl_in.f a0 1 255).bind fun t336 => (some t336)) = some r := h
 clear h
 obtain ⟨t336, A20, H⟩ := bi_ H
 replace H : (some t336) = some r := H
 have A2 := A_ A20
 clear A20
 obtain rfl := Option.some.inj H
 go_enter Try.func67, Try.ntmps67
 go_wp2_with (first | ((with_reducible refine gate_callee (f := 68) rfl ?_); refine goesL_ (some 4) rfl rfl Try.func68 (by kernel_rfl) rfl #[.int .i64 a0, .int .i64 1, .int .i64 255] rfl args_a ?_; (with_reducible refine (impl_in.calls a0 1 255 t336 _ A2.out).mono ?_); rintro e w' ⟨rfl, ⟨nd, rfl⟩⟩; refine ⟨_, rfl, ?_⟩))
 go_ret
 exact ⟨eq_b, by repeat (first | exact Drawn0.refl _ | apply Drawn0.step)⟩
def impl_LetterFault.j0 : Nat → Bool → Int → Int → Int → List Int → Option (Int)
 | 0, _, _, _, _, _ => none
 | k + 1, x3, x338000, x338001, x338002, x338003 => if x3 = true then (some 3) else (if (x338003.length : Int) > 300 then (some 2) else (some 0))
def impl_LetterFault.f (k : Nat) (a0_0 : Int) (a0_1 : Int) (a0_2 : Int) (l0_3 : List Int) : Option (Int) := (impl_isKeyId.f a0_0).bind fun t338 => (if t338 = true then ((impl_in.f a0_1 0 15).bind fun t339 => (if t339 = true then ((impl_in.f a0_2 0 1000000000).bind fun t340 => (impl_LetterFault.j0 k (!t340) a0_0 a0_1 a0_2 l0_3)) else (impl_LetterFault.j0 k true a0_0 a0_1 a0_2 l0_3))) else (impl_LetterFault.j0 k true a0_0 a0_1 a0_2 l0_3))
theorem impl_LetterFault.calls (k : Nat) (a0_0 : Int) (a0_1 : Int) (a0_2 : Int) (A0_3 : Option Addr) (c0_3 : Nat) (l0_3 : List Int) (r : Int) (w : World) (hr0_3 : Kd.C (Kd.int .u8) w A0_3 l0_3.length l0_3) (hc0_3 : l0_3.length ≤ c0_3) (h : impl_LetterFault.f k a0_0 a0_1 a0_2 l0_3 = some r) :
  Calls Try.prog 26 #[.agg #[.int .i64 a0_0, .int .i64 a0_1, .int .i64 a0_2, .slice A0_3 l0_3.length c0_3]] w fun e w' => e = .returned (.int .i64 r) ∧ Below w.heap.size w w' := by
 have hu28 := Try.underlying28
 have HR0_3 := A_ hr0_3
 have HC0_3 := A_ hc0_3
 clear hr0_3 hc0_3
 have HB := A_ (Below.refl w.heap.size w)
 have H : ((impl_isKeyId.f a0_0).bind fun t338 => (if t338 = true then ((impl_in.f a0_1 0 15).bind fun t339 => (if t339 = true then ((impl_in.f a0_2 0 1000000000).bind fun t340 => (impl_LetterFault.j0 k (!t340) a0_0 a0_1 a0_2 l0_3)) else (impl_LetterFault.j0 k true a0_0 a0_1 a0_2 l0_3))) else (impl_LetterFault.j0 k true a0_0 a0_1 a0_2 l0_3))) = some r := h
 clear h
 have HC2 := A_ H
 clear H
 go_enter Try.func26, Try.ntmps26
 go_upto_region 1 with (first | ((with_reducible refine gate_dst (N := 1) rfl ?_); refine bx_ 1 (#[.int .i64 a0_0, .int .i64 a0_1, .int .i64 a0_2, .slice A0_3 l0_3.length c0_3]) 28 rfl rfl ?hr ?_; (case hr => go_simp <;> rfl); intro gb337 hg w3 hbox hb; have n0_ := bs_ hb; have BK337 := A_ (hbox); have GW337 := gw_ (w := w) hg; replace HB := n0_; clear n0_; clear hb hbox hg))
 (try simp only [Act.put, List.setIfInBounds_toArray, List.set_cons_zero, List.set_cons_succ])
 go_cut [3] (fun v3 wc => ∃ (kq : Nat) (x3_1 : Bool), v3 = .bool x3_1 ∧ Aside0 (impl_LetterFault.j0 kq x3_1 a0_0 a0_1 a0_2 l0_3 = some r) ∧ Aside0 (kq ≤ k) ∧ Aside0 (wc.heap[gb337]? = some (.cells #[.int .i64 a0_0, .int .i64 a0_1, .int .i64 a0_2, (.slice A0_3 l0_3.length c0_3)] 28 (0, 0))) ∧ Aside0 (Below w.heap.size w wc))
 case first =>
  have H := HC2.out; clear HC2; obtain ⟨t338, A40, H⟩ := bi_ H; (try dsimp only at H); have A4 := A_ A40; clear A40
  by_cases c5 : t338 = true
  ·
   subst c5; have H1 : ((impl_in.f a0_1 0 15).bind fun t339 => (if t339 = true then ((impl_in.f a0_2 0 1000000000).bind fun t340 => (impl_LetterFault.j0 k (!t340) a0_0 a0_1 a0_2 l0_3)) else (impl_LetterFault.j0 k true a0_0 a0_1 a0_2 l0_3))) = some r := by rw [if_pos rfl] at H; exact H
   clear H; have H := H1; clear H1; obtain ⟨t339, A60, H⟩ := bi_ H; (try dsimp only at H); have A6 := A_ A60; clear A60
   by_cases c7 : t339 = true
   ·
    subst c7; have H1 : ((impl_in.f a0_2 0 1000000000).bind fun t340 => (impl_LetterFault.j0 k (!t340) a0_0 a0_1 a0_2 l0_3)) = some r := by rw [if_pos rfl] at H; exact H
    clear H; have H := H1; clear H1; obtain ⟨t340, A80, H⟩ := bi_ H; replace H : (impl_LetterFault.j0 k (!t340) a0_0 a0_1 a0_2 l0_3) = some r := H; have A8 := A_ A80; clear A80; have H' := A_ H; clear H; obtain ⟨hcz9_0, hcz9_1, hcz9_2, hcz9_3, hfz9_0, hfz9_1, hfz9_2, hfz9_3⟩ := bc4_ BK337.out
    go_wp2_with (first | ((with_reducible refine gate_callee (f := 67) rfl ?_); refine goesL_ (some 6) rfl rfl Try.func67 (by kernel_rfl) rfl #[.int .i64 a0_0] rfl args_a ?_; (with_reducible refine (impl_isKeyId.calls a0_0 true _ A4.out).mono ?_); rintro e w' ⟨rfl, ⟨nd, rfl⟩⟩; refine ⟨_, rfl, ?_⟩) | (go_at_call 68; (with_reducible refine (impl_in.calls a0_1 0 15 true _ A6.out).mono ?_); rintro e w' ⟨rfl, ⟨nd, rfl⟩⟩) | (go_at_call 68; (with_reducible refine (impl_in.calls a0_2 0 1000000000 t340 _ A8.out).mono ?_); rintro e w' ⟨rfl, ⟨nd, rfl⟩⟩))
    go_meet
    case rel => exact ⟨_, (!t340), eq_b, H', ⟨by first | omega | exact Nat.le_refl _⟩, ⟨blk_a⟩, ⟨below_a⟩⟩
   ·
    replace c7 := Bool.eq_false_iff.mpr c7; subst c7; have H1 : (impl_LetterFault.j0 k true a0_0 a0_1 a0_2 l0_3) = some r := by rw [if_neg (show ¬ (false = true) by decide)] at H; exact H
    clear H; have H := H1; clear H1; have H' := A_ H; clear H; obtain ⟨hcz10_0, hcz10_1, hcz10_2, hcz10_3, hfz10_0, hfz10_1, hfz10_2, hfz10_3⟩ := bc4_ BK337.out
    go_wp2_with (first | ((with_reducible refine gate_callee (f := 67) rfl ?_); refine goesL_ (some 6) rfl rfl Try.func67 (by kernel_rfl) rfl #[.int .i64 a0_0] rfl args_a ?_; (with_reducible refine (impl_isKeyId.calls a0_0 true _ A4.out).mono ?_); rintro e w' ⟨rfl, ⟨nd, rfl⟩⟩; refine ⟨_, rfl, ?_⟩) | (go_at_call 68; (with_reducible refine (impl_in.calls a0_1 0 15 false _ A6.out).mono ?_); rintro e w' ⟨rfl, ⟨nd, rfl⟩⟩))
    go_meet
    case rel => exact ⟨_, (true), eq_b, H', ⟨by first | omega | exact Nat.le_refl _⟩, ⟨blk_a⟩, ⟨below_a⟩⟩
  ·
   replace c5 := Bool.eq_false_iff.mpr c5; subst c5; have H1 : (impl_LetterFault.j0 k true a0_0 a0_1 a0_2 l0_3) = some r := by rw [if_neg (show ¬ (false = true) by decide)] at H; exact H
   clear H; have H := H1; clear H1; have H' := A_ H; clear H; obtain ⟨hcz11_0, hcz11_1, hcz11_2, hcz11_3, hfz11_0, hfz11_1, hfz11_2, hfz11_3⟩ := bc4_ BK337.out
   go_wp2_with (first | ((with_reducible refine gate_callee (f := 67) rfl ?_); refine goesL_ (some 6) rfl rfl Try.func67 (by kernel_rfl) rfl #[.int .i64 a0_0] rfl args_a ?_; (with_reducible refine (impl_isKeyId.calls a0_0 false _ A4.out).mono ?_); rintro e w' ⟨rfl, ⟨nd, rfl⟩⟩; refine ⟨_, rfl, ?_⟩))
   go_meet
   case rel => exact ⟨_, (true), eq_b, H', ⟨by first | omega | exact Nat.le_refl _⟩, ⟨blk_a⟩, ⟨below_a⟩⟩
 case rest =>
  clear HC2
  try clear c2
  try clear p2
  try clear c5
  try clear c6
  try clear c7
  try clear hcz10_0 hcz10_1 hcz10_2 hcz10_3
  try clear hcz11_0 hcz11_1 hcz11_2 hcz11_3
  try clear hcz9_0 hcz9_1 hcz9_2 hcz9_3
  try clear hfz10_0 hfz10_1 hfz10_2 hfz10_3
  try clear hfz11_0 hfz11_1 hfz11_2 hfz11_3
  try clear hfz9_0 hfz9_1 hfz9_2 hfz9_3
  obtain ⟨kq, x3_1, rfl, HA, HJ1, BK337, HB⟩ := hcut
  cases kq with
  | zero => exact absurd HA.out (by simp [impl_LetterFault.j0])
  | succ kj1 =>
   have H := HA.out; clear HA; simp only [impl_LetterFault.j0] at H
   by_cases c12 : x3_1 = true
   ·
    subst c12; have H1 : (some 3) = some r := by rw [if_pos rfl] at H; exact H
    clear H; have H := H1; clear H1; obtain rfl := Option.some.inj H
    go_wp2
    go_ret
    exact ⟨eq_a, below_a⟩
   ·
    replace c12 := Bool.eq_false_iff.mpr c12; subst c12; have H1 : (if (l0_3.length : Int) > 300 then (some 2) else (some 0)) = some r := by rw [if_neg (show ¬ (false = true) by decide)] at H; exact H
    clear H; have H := H1; clear H1
    by_cases c13 : (l0_3.length : Int) > 300
    ·
     rw [if_pos c13] at H; have c13b0 : decide (300 < (l0_3.length : Int)) = true := decide_eq_true c13; have c13b1 : decide (300 < l0_3.length) = true := decide_eq_true (by omega); clear c13; obtain rfl := Option.some.inj H; obtain ⟨hcz14_0, hcz14_1, hcz14_2, hcz14_3, hfz14_0, hfz14_1, hfz14_2, hfz14_3⟩ := bc4_ BK337.out
     go_wp2
     go_ret
     exact ⟨eq_a, below_a⟩
    ·
     rw [if_neg c13] at H; have c13b0 : decide (300 < (l0_3.length : Int)) = false := decide_eq_false c13; have c13b1 : decide (300 < l0_3.length) = false := decide_eq_false (by omega); clear c13; obtain rfl := Option.some.inj H; obtain ⟨hcz15_0, hcz15_1, hcz15_2, hcz15_3, hfz15_0, hfz15_1, hfz15_2, hfz15_3⟩ := bc4_ BK337.out
     go_wp2
     go_ret
     exact ⟨eq_a, below_a⟩
def impl_noInt.f (a0 : Int) : Option (Int × Int) := some (a0, 0)
theorem impl_noInt.calls (a0 : Int) (r1 : Int) (r2 : Int) (w : World) (h : impl_noInt.f a0 = some (r1, r2)) :
  Calls Try.prog 93 #[.int .i64 a0] w fun e w' => e = .returned (.agg #[.int .i64 r1, .int .i64 r2]) ∧ Below w.heap.size w w' := by
 have hu90 := Try.underlying90
 have HB := A_ (Below.refl w.heap.size w)
 have H : (some (a0, 0)) = some (r1, r2) := h
 clear h
 simp only [Option.some.injEq, Prod.mk.injEq] at H
 obtain ⟨rfl, rfl⟩ := H
 go_enter Try.func93, Try.ntmps93
 go_wp2_with (first | ((with_reducible refine gate_dst (N := 2) rfl ?_); refine bx_ 2 (#[.int .i64 0, .int .i64 0]) 90 rfl rfl ?hr ?_; (case hr => go_simp <;> rfl); intro gb341 hg w2 hbox hb; have n0_ := bs_ hb; have BK341 := A_ (hbox); have GW341 := gw_ (w := w) hg; replace HB := n0_; clear n0_; clear hb hbox hg; obtain ⟨hcz3_0, hcz3_1, hfz3_0, hfz3_1⟩ := bc2_ BK341.out))
 refine bodyPost_ret (results_cell_row rfl _ _ gb341 90 #[.int .i64 a0, .int .i64 0] (0, 0) _ rfl blk_a Try.underlying90 rfl (by kernel_rfl)) rfl ?_
 exact ⟨eq_a, below_a⟩
mutual
def impl_ReadWord.j0 : Nat → List Int → Int → Int → Bool → Option (Int × Int)
 | 0, _, _, _, _ => none
 | k + 1, x0, x1, x2, x30 => if x30 = true then ((impl_noInt.f 3).bind fun bt344 => (some (bt344.1, bt344.2))) else (if 0 ≤ x1 then (if x1 ≤ (wrap64 (x1 + x2)) then (if (wrap64 (x1 + x2)) ≤ (x0.length : Int) then (impl_ReadWord.l0 k 0 ((x0.take ((wrap64 (x1 + x2)) : Int).toNat).drop (x1 : Int).toNat) (((x0.take ((wrap64 (x1 + x2)) : Int).toNat).drop (x1 : Int).toNat).length : Int) 0) else (none)) else (none)) else (none))
def impl_ReadWord.l0 : Nat → Int → List Int → Int → Int → Option (Int × Int)
 | 0, _, _, _, _ => none
 | k + 1, x7, x37, x38, x39 => if x39 < x38 then (if 0 ≤ x39 then (if x39 < (x37.length : Int) then (impl_ReadWord.l0 k (Go.bits .or .u64 (IntKind.u64.wrap (x7 * 256)) (IntKind.u64.wrap (rd x37 x39))) x37 x38 (wrap64 (x39 + 1))) else (none)) else (none)) else (if x7 > 9223372036854775807 then ((impl_noInt.f 1).bind fun bt348 => (some (bt348.1, bt348.2))) else (some (0, wrap64 (x7))))
end
def impl_ReadWord.f (k : Nat) (l0 : List Int) (a1 : Int) (a2 : Int) : Option (Int × Int) := (impl_in.f a2 1 8).bind fun t343 => (if t343 = true then (if a1 < 0 then (impl_ReadWord.j0 k l0 a1 a2 true) else (if a1 > (l0.length : Int) then (impl_ReadWord.j0 k l0 a1 a2 true) else (impl_ReadWord.j0 k l0 a1 a2 (decide ((wrap64 ((l0.length : Int) - a1)) < a2))))) else (impl_ReadWord.j0 k l0 a1 a2 true))
theorem impl_ReadWord.calls (k : Nat) (A0 : Option Addr) (c0 : Nat) (l0 : List Int) (a1 : Int) (a2 : Int) (r1 : Int) (r2 : Int) (w : World) (hr0 : Kd.C (Kd.int .u8) w A0 l0.length l0) (hc0 : l0.length ≤ c0) (h : impl_ReadWord.f k l0 a1 a2 = some (r1, r2)) :
  Calls Try.prog 62 #[.slice A0 l0.length c0, .int .i64 a1, .int .i64 a2] w fun e w' => e = .returned (.agg #[.int .i64 r1, .int .i64 r2]) ∧ Below w.heap.size w w' := by
 have hu90 := Try.underlying90
 have HR0 := A_ hr0
 have HC0 := A_ hc0
 clear hr0 hc0
 have HB := A_ (Below.refl w.heap.size w)
 have H : ((impl_in.f a2 1 8).bind fun t343 => (if t343 = true then (if a1 < 0 then (impl_ReadWord.j0 k l0 a1 a2 true) else (if a1 > (l0.length : Int) then (impl_ReadWord.j0 k l0 a1 a2 true) else (impl_ReadWord.j0 k l0 a1 a2 (decide ((wrap64 ((l0.length : Int) - a1)) < a2))))) else (impl_ReadWord.j0 k l0 a1 a2 true))) = some (r1, r2) := h
 clear h
 have HC4 := A_ H
 clear H
 go_enter Try.func62, Try.ntmps62
 go_upto_region 1 with (first | ((with_reducible refine gate_dst (N := 6) rfl ?_); (try (refine gate_guard (by rfl) ?_; dsimp only)); refine bx_ 6 (#[.int .i64 0, .int .i64 0]) 90 rfl rfl ?hr ?_; (case hr => go_simp <;> rfl); intro gb342 hg w5 hbox hb; have n0_ := bs_ hb; have BK342 := A_ (hbox); have GW342 := gw_ (w := w) hg; replace HB := n0_; clear n0_; clear hb hbox hg))
 (try simp only [Act.put, List.setIfInBounds_toArray, List.set_cons_zero, List.set_cons_succ])
 go_cut [30] (fun v30 wc => ∃ (kq : Nat) (x30_3 : Bool), v30 = .bool x30_3 ∧ Aside0 (impl_ReadWord.j0 kq l0 a1 a2 x30_3 = some (r1, r2)) ∧ Aside0 (kq ≤ k) ∧ Aside0 (wc.heap[gb342]? = some (.cells #[.int .i64 0, .int .i64 0] 90 (0, 0))) ∧ Aside0 (Below w.heap.size w wc))
 case first =>
  have H := HC4.out; clear HC4; obtain ⟨t343, A60, H⟩ := bi_ H; (try dsimp only at H); have A6 := A_ A60; clear A60
  by_cases c7 : t343 = true
  ·
   subst c7; have H1 : (if a1 < 0 then (impl_ReadWord.j0 k l0 a1 a2 true) else (if a1 > (l0.length : Int) then (impl_ReadWord.j0 k l0 a1 a2 true) else (impl_ReadWord.j0 k l0 a1 a2 (decide ((wrap64 ((l0.length : Int) - a1)) < a2))))) = some (r1, r2) := by rw [if_pos rfl] at H; exact H
   clear H; have H := H1; clear H1
   by_cases c8 : a1 < 0
   ·
    rw [if_pos c8] at H; have c8b0 : decide (a1 < 0) = true := decide_eq_true c8; clear c8; (first | rw [c8b0] | (simp only [i64_w, i32_w]; rw [c8b0]) | skip); have H' := A_ H; clear H
    go_wp2_with (first | ((with_reducible refine gate_callee (f := 68) rfl ?_); refine goesL_ (some 11) rfl rfl Try.func68 (by kernel_rfl) rfl #[.int .i64 a2, .int .i64 1, .int .i64 8] rfl args_a ?_; (with_reducible refine (impl_in.calls a2 1 8 true _ A6.out).mono ?_); rintro e w' ⟨rfl, ⟨nd, rfl⟩⟩; refine ⟨_, rfl, ?_⟩))
    go_meet
    case rel => exact ⟨_, (true), eq_b, H', ⟨by first | omega | exact Nat.le_refl _⟩, ⟨blk_a⟩, ⟨below_a⟩⟩
   ·
    rw [if_neg c8] at H; have c8b0 : decide (a1 < 0) = false := decide_eq_false c8; clear c8; (first | rw [c8b0] | (simp only [i64_w, i32_w]; rw [c8b0]) | skip)
    by_cases c9 : a1 > (l0.length : Int)
    ·
     rw [if_pos c9] at H; have c9b0 : decide ((l0.length : Int) < a1) = true := decide_eq_true c9; clear c9; have H' := A_ H; clear H
     go_wp2_with (first | ((with_reducible refine gate_callee (f := 68) rfl ?_); refine goesL_ (some 11) rfl rfl Try.func68 (by kernel_rfl) rfl #[.int .i64 a2, .int .i64 1, .int .i64 8] rfl args_a ?_; (with_reducible refine (impl_in.calls a2 1 8 true _ A6.out).mono ?_); rintro e w' ⟨rfl, ⟨nd, rfl⟩⟩; refine ⟨_, rfl, ?_⟩))
     go_meet
     case rel => exact ⟨_, (true), eq_b, H', ⟨by first | omega | exact Nat.le_refl _⟩, ⟨blk_a⟩, ⟨below_a⟩⟩
    ·
     rw [if_neg c9] at H; have c9b0 : decide ((l0.length : Int) < a1) = false := decide_eq_false c9; clear c9; have H' := A_ H; clear H
     go_wp2_with (first | ((with_reducible refine gate_callee (f := 68) rfl ?_); refine goesL_ (some 11) rfl rfl Try.func68 (by kernel_rfl) rfl #[.int .i64 a2, .int .i64 1, .int .i64 8] rfl args_a ?_; (with_reducible refine (impl_in.calls a2 1 8 true _ A6.out).mono ?_); rintro e w' ⟨rfl, ⟨nd, rfl⟩⟩; refine ⟨_, rfl, ?_⟩))
     go_meet
     case rel => exact ⟨_, (decide ((wrap64 ((l0.length : Int) - a1)) < a2)), eq_b, H', ⟨by first | omega | exact Nat.le_refl _⟩, ⟨blk_a⟩, ⟨below_a⟩⟩
  ·
   replace c7 := Bool.eq_false_iff.mpr c7; subst c7; have H1 : (impl_ReadWord.j0 k l0 a1 a2 true) = some (r1, r2) := by rw [if_neg (show ¬ (false = true) by decide)] at H; exact H
   clear H; have H := H1; clear H1; have H' := A_ H; clear H
   go_wp2_with (first | ((with_reducible refine gate_callee (f := 68) rfl ?_); refine goesL_ (some 11) rfl rfl Try.func68 (by kernel_rfl) rfl #[.int .i64 a2, .int .i64 1, .int .i64 8] rfl args_a ?_; (with_reducible refine (impl_in.calls a2 1 8 false _ A6.out).mono ?_); rintro e w' ⟨rfl, ⟨nd, rfl⟩⟩; refine ⟨_, rfl, ?_⟩))
   go_meet
   case rel => exact ⟨_, (true), eq_b, H', ⟨by first | omega | exact Nat.le_refl _⟩, ⟨blk_a⟩, ⟨below_a⟩⟩
 case rest =>
  clear HC4
  try clear p2
  try clear c6
  try clear p6
  try clear c7
  try clear c8 c8b0
  try clear c9 c9b0
  obtain ⟨kq, x30_3, rfl, HA, HJ3, BK342, HB⟩ := hcut
  cases kq with
  | zero => exact absurd HA.out (by simp [impl_ReadWord.j0])
  | succ kj3 =>
   have H := HA.out; clear HA; simp only [impl_ReadWord.j0] at H
   by_cases c10 : x30_3 = true
   ·
    subst c10; have H1 : ((impl_noInt.f 3).bind fun bt344 => (some (bt344.1, bt344.2))) = some (r1, r2) := by rw [if_pos rfl] at H; exact H
    clear H; have H := H1; clear H1; obtain ⟨⟨t344, t345⟩, A110, H⟩ := bi_ H; replace H : (some (t344, t345)) = some (r1, r2) := H; have A11 := A_ A110; clear A110; simp only [Option.some.injEq, Prod.mk.injEq] at H; obtain ⟨rfl, rfl⟩ := H
    go_wp2_with (first | ((with_reducible refine gate_callee (f := 93) rfl ?_); refine goesL_ (some 31) rfl rfl Try.func93 (by kernel_rfl) rfl #[.int .i64 3] rfl args_a ?_; (with_reducible refine (impl_noInt.calls 3 t344 t345 _ A11.out).mono ?_); rintro e w12 ⟨rfl, hb⟩; refine ⟨_, rfl, ?_⟩; replace BK342 := bw_ gb342 hb; replace HB := bs_ hb; (try clear hb); obtain ⟨hcz13_0, hcz13_1, hfz13_0, hfz13_1⟩ := bc2_ BK342.out))
    refine bodyPost_ret (results_cell_row rfl _ _ gb342 90 #[.int .i64 t344, .int .i64 t345] (0, 0) _ rfl blk_a Try.underlying90 rfl (by kernel_rfl)) rfl ?_; exact ⟨eq_a, below_a⟩
   ·
    replace c10 := Bool.eq_false_iff.mpr c10; subst c10; have H1 : (if 0 ≤ a1 then (if a1 ≤ (wrap64 (a1 + a2)) then (if (wrap64 (a1 + a2)) ≤ (l0.length : Int) then (impl_ReadWord.l0 kj3 0 ((l0.take ((wrap64 (a1 + a2)) : Int).toNat).drop (a1 : Int).toNat) (((l0.take ((wrap64 (a1 + a2)) : Int).toNat).drop (a1 : Int).toNat).length : Int) 0) else (none)) else (none)) else (none)) = some (r1, r2) := by rw [if_neg (show ¬ (false = true) by decide)] at H; exact H
    clear H; have H := H1; clear H1
    by_cases c14 : 0 ≤ a1
    rotate_left
    · rw [if_neg c14] at H; exact absurd H (by simp)
    rw [if_pos c14] at H; have c14b0 := eq_true c14; have c14b1 : decide (0 ≤ a1) = true := decide_eq_true c14; clear c14
    by_cases c15 : a1 ≤ (wrap64 (a1 + a2))
    rotate_left
    · rw [if_neg c15] at H; exact absurd H (by simp)
    rw [if_pos c15] at H; have c15b0 := eq_true c15; have c15b1 : decide (a1 ≤ (wrap64 (a1 + a2))) = true := decide_eq_true c15
    by_cases c16 : (wrap64 (a1 + a2)) ≤ (l0.length : Int)
    rotate_left
    · rw [if_neg c16] at H; exact absurd H (by simp)
    rw [if_pos c16] at H; have c16b0 := eq_true c16; have c16b1 : decide ((wrap64 (a1 + a2)) ≤ (l0.length : Int)) = true := decide_eq_true c16; have H' := A_ H; clear H; obtain ⟨i017, hi017, _, hsz17, _⟩ := info_parts info5; obtain ⟨A17, hcut17, hA17, hC17⟩ := print_mid_of (P := Try.prog) (Value.int .u8) 0 25 5 .i64 .i64 Try.underlying25 hi017 hsz17 A0 c0 l0 a1 (wrap64 (a1 + a2)) od_ (by first | omega | exact od_) od_ HC0.out; have HR346 := A_ (Kd.C_of_reads (h1 := fun _ => rfl) (hA17 _ (Kd.reads_of_C HR0.out))); have HC346 := A_ hC17; clear hA17 hC17 hi017 hsz17; have HLN346 := A_ (show ((l0.take ((wrap64 (a1 + a2)) : Int).toNat).drop (a1 : Int).toNat).length = (wrap64 (a1 + a2)).toNat - a1.toNat from by have h_ : ((wrap64 (a1 + a2)) : Int) ≤ (l0.length : Int) := od_; rw [List.length_drop, List.length_take]; omega)
    go_wp2
    go_loopg [7, 39] kj3 (fun kq v7 v39 w' => ∃ (x7_2 : Int) (x39_2 : Int), v7 = .int .u64 x7_2 ∧ v39 = .int .i64 x39_2 ∧ Aside0 (impl_ReadWord.l0 kq x7_2 ((l0.take ((wrap64 (a1 + a2)) : Int).toNat).drop (a1 : Int).toNat) (((l0.take ((wrap64 (a1 + a2)) : Int).toNat).drop (a1 : Int).toNat).length : Int) x39_2 = some (r1, r2)) ∧ Aside0 (kq ≤ kj3) ∧ Aside0 (w'.heap[gb342]? = some (.cells #[.int .i64 0, .int .i64 0] 90 (0, 0))) ∧ Aside0 (Below w.heap.size w w'))
    case atStart => exact ⟨(0), (0), eq_b, eq_b, H', ⟨Nat.le_refl _⟩, ⟨blk_a⟩, ⟨below_a⟩⟩
    case round =>
     clear H'
     try clear c1
     try clear p2 p2
     try clear c6
     try clear p6 p6
     try clear c7
     try clear c8 c8b0
     try clear c9 c9b0
     try clear c10
     try clear c14 c14b0 c14b1
     try clear c15 c15b0 c15b1
     try clear c16 c16b0 c16b1
     try clear hcz13_0 hcz13_1
     try clear hfz13_0 hfz13_1
     obtain ⟨x7_2, x39_2, rfl, rfl, HA, HK2, BK342, HB⟩ := hrel
     cases gk with
     | zero => exact absurd HA.out (by simp [impl_ReadWord.l0])
     | succ k2 =>
      have H := HA.out; clear HA; simp only [impl_ReadWord.l0] at H
      by_cases c18 : x39_2 < (((l0.take ((wrap64 (a1 + a2)) : Int).toNat).drop (a1 : Int).toNat).length : Int)
      ·
       rw [if_pos c18] at H; have c18b0 : decide (x39_2 < (((l0.take ((wrap64 (a1 + a2)) : Int).toNat).drop (a1 : Int).toNat).length : Int)) = true := decide_eq_true c18; (try (have c18b1 : decide (x39_2 < (((wrap64 (a1 + a2)).toNat - a1.toNat : Nat) : Int)) = true := by rw [← HLN346.out]; exact decide_eq_true c18)); (try (have c18b2 : (x39_2 < (((wrap64 (a1 + a2)).toNat - a1.toNat : Nat) : Int)) = True := by rw [← HLN346.out]; exact eq_true (of_decide_eq_true (decide_eq_true c18)))); (try (have c18b3 : decide (x39_2 < (((l0.take ((IntKind.i64.wrap (a1 + a2)) : Int).toNat).drop (a1 : Int).toNat).length : Int)) = true := by simp only [i64_w]; exact decide_eq_true c18)); clear c18
       by_cases c19 : 0 ≤ x39_2
       rotate_left
       · rw [if_neg c19] at H; exact absurd H (by simp)
       rw [if_pos c19] at H; have c19b0 : decide (0 ≤ x39_2) = true := decide_eq_true c19; clear c19
       by_cases c20 : x39_2 < (((l0.take ((wrap64 (a1 + a2)) : Int).toNat).drop (a1 : Int).toNat).length : Int)
       rotate_left
       · rw [if_neg c20] at H; exact absurd H (by simp)
       rw [if_pos c20] at H; have c20b0 : decide (x39_2 < (((l0.take ((wrap64 (a1 + a2)) : Int).toNat).drop (a1 : Int).toNat).length : Int)) = true := decide_eq_true c20; (try (have c20b1 : decide (x39_2 < (((wrap64 (a1 + a2)).toNat - a1.toNat : Nat) : Int)) = true := by rw [← HLN346.out]; exact decide_eq_true c20)); (try (have c20b2 : (x39_2 < (((wrap64 (a1 + a2)).toNat - a1.toNat : Nat) : Int)) = True := by rw [← HLN346.out]; exact eq_true (of_decide_eq_true (decide_eq_true c20)))); (try (have c20b3 : decide (x39_2 < (((l0.take ((IntKind.i64.wrap (a1 + a2)) : Int).toNat).drop (a1 : Int).toNat).length : Int)) = true := by simp only [i64_w]; exact decide_eq_true c20)); clear c20; have H' := A_ H; clear H; have p347 : 0 ≤ (x39_2 : Int) := od_; have q347 : x39_2 < (((l0.take ((wrap64 (a1 + a2)) : Int).toNat).drop (a1 : Int).toNat).length : Int) := od_; obtain ⟨ad347, e347, hx347_0⟩ := Kd.at_int HR346.out x39_2 p347 q347
       cases e347
       replace hx347_0 := hc_ HB hx347_0; replace p347 := eq_true p347; replace q347 := eq_true q347
       go_wp2
       go_roundg k2
       case measure => have := HJ3.out; have := HK2.out; omega
       case rel => exact ⟨(Go.bits .or .u64 (IntKind.u64.wrap (x7_2 * 256)) (IntKind.u64.wrap (rd ((l0.take ((wrap64 (a1 + a2)) : Int).toNat).drop (a1 : Int).toNat) x39_2))), (wrap64 (x39_2 + 1)), eq_b, eq_b, H', ⟨by have := HJ3.out; have := HK2.out; omega⟩, ⟨blk_a⟩, ⟨below_a⟩⟩
      ·
       rw [if_neg c18] at H; have c18b0 : decide (x39_2 < (((l0.take ((wrap64 (a1 + a2)) : Int).toNat).drop (a1 : Int).toNat).length : Int)) = false := decide_eq_false c18; (try (have c18b1 : decide (x39_2 < (((wrap64 (a1 + a2)).toNat - a1.toNat : Nat) : Int)) = false := by rw [← HLN346.out]; exact decide_eq_false c18)); (try (have c18b2 : (x39_2 < (((wrap64 (a1 + a2)).toNat - a1.toNat : Nat) : Int)) = False := by rw [← HLN346.out]; exact eq_false (of_decide_eq_false (decide_eq_false c18)))); (try (have c18b3 : decide (x39_2 < (((l0.take ((IntKind.i64.wrap (a1 + a2)) : Int).toNat).drop (a1 : Int).toNat).length : Int)) = false := by simp only [i64_w]; exact decide_eq_false c18)); clear c18
       by_cases c21 : x7_2 > 9223372036854775807
       ·
        rw [if_pos c21] at H; have c21b0 : decide (9223372036854775807 < x7_2) = true := decide_eq_true c21; clear c21; obtain ⟨⟨t348, t349⟩, A220, H⟩ := bi_ H; replace H : (some (t348, t349)) = some (r1, r2) := H; have A22 := A_ A220; clear A220; simp only [Option.some.injEq, Prod.mk.injEq] at H; obtain ⟨rfl, rfl⟩ := H
        go_wp2_with (first | ((with_reducible refine gate_callee (f := 93) rfl ?_); refine goesL_ (some 51) rfl rfl Try.func93 (by kernel_rfl) rfl #[.int .i64 1] rfl args_a ?_; (with_reducible refine (impl_noInt.calls 1 t348 t349 _ A22.out).mono ?_); rintro e w23 ⟨rfl, hb⟩; refine ⟨_, rfl, ?_⟩; replace BK342 := bw_ gb342 hb; replace HB := bs_ hb; (try clear hb); obtain ⟨hcz24_0, hcz24_1, hfz24_0, hfz24_1⟩ := bc2_ BK342.out))
        refine bodyPost_ret (results_cell_row rfl _ _ gb342 90 #[.int .i64 t348, .int .i64 t349] (0, 0) _ rfl blk_a Try.underlying90 rfl (by kernel_rfl)) rfl ?_; exact ⟨eq_a, below_a⟩
       ·
        rw [if_neg c21] at H; have c21b0 : decide (9223372036854775807 < x7_2) = false := decide_eq_false c21; clear c21; simp only [Option.some.injEq, Prod.mk.injEq] at H; obtain ⟨rfl, rfl⟩ := H; obtain ⟨hcz25_0, hcz25_1, hfz25_0, hfz25_1⟩ := bc2_ BK342.out
        go_wp2
        try simp only [i64_w]
        refine bodyPost_ret (results_cell_row rfl _ _ gb342 90 #[.int .i64 0, .int .i64 (wrap64 (x7_2))] (0, 0) _ rfl blk_a Try.underlying90 rfl (by kernel_rfl)) rfl ?_; exact ⟨eq_a, below_a⟩
def impl_ReadHead.f (k : Nat) (l0 : List Int) : Option (Int × Int × Int × Int × List Int) := if (l0.length : Int) < 11 then (some (2, 0, 0, 0, ([] : List Int))) else (if 0 < (l0.length : Int) then (if (rd l0 0) = 1 then ((impl_ReadWord.f k l0 3 8).bind fun bt352 => (if 1 < (l0.length : Int) then (if 2 < (l0.length : Int) then (if bt352.1 = 0 then ((impl_LetterFault.f k (wrap64 (rd l0 1)) (wrap64 (rd l0 2)) bt352.2 ([] : List Int)).bind fun t358 => (if t358 = 0 then (some (0, wrap64 (rd l0 1), wrap64 (rd l0 2), bt352.2, ([] : List Int))) else (some (3, 0, 0, 0, ([] : List Int))))) else (some (3, 0, 0, 0, ([] : List Int)))) else (none)) else (none))) else (some (1, 0, 0, 0, ([] : List Int)))) else (none))
def impl_ReadHead.T6 : Bool × List (List Nat × List Nat) := (true, [([], []), ([0], [0]), ([1], [1]), ([2], [2]), ([], []), ([4], [4]), ([5], [5]), ([6], [6]), ([], []), ([8], [8]), ([3, 7, 9], [3, 7, 9]), ([], []), ([11, 10, 0, 1, 2, 3, 4, 5, 6, 7, 8, 9, 10, 11], [10, 11])])
def impl_ReadHead.B6 : List Nat := [0, 1, 3, 7, 0, 16, 48, 112, 0, 256, 1023, 0, 4095]
theorem impl_ReadHead.tab6 : rtab .any (opsOf Try.f22 6) = impl_ReadHead.T6 := by kernel_rfl
theorem impl_ReadHead.bits6 : waitsOk impl_ReadHead.T6.2 impl_ReadHead.B6 = true := by kernel_rfl
theorem impl_ReadHead.calls (k : Nat) (A0 : Option Addr) (c0 : Nat) (l0 : List Int) (r1 : Int) (r2 : Int) (r3 : Int) (r4 : Int) (r5 : List Int) (w : World) (hr0 : Kd.C (Kd.int .u8) w A0 l0.length l0) (hc0 : l0.length ≤ c0) (h : impl_ReadHead.f k l0 = some (r1, r2, r3, r4, r5)) :
  Calls Try.prog 22 #[.slice A0 l0.length c0] w fun e w' => ∃ v4_ : Value, e = .returned (.agg #[.int .i64 r1, .int .i64 r2, .int .i64 r3, .int .i64 r4, v4_]) ∧ Kd.R (Kd.int .u8) 5 w' w.heap.size (fun _ => True) v4_ r5 ∧ Below w.heap.size w w' := by
 have hu30 := Try.underlying30
 have hu90 := Try.underlying90
 have hu28 := Try.underlying28
 have HR0 := A_ hr0
 have HC0 := A_ hc0
 clear hr0 hc0
 have HB := A_ (Below.refl w.heap.size w)
 have H : (if (l0.length : Int) < 11 then (some (2, 0, 0, 0, ([] : List Int))) else (if 0 < (l0.length : Int) then (if (rd l0 0) = 1 then ((impl_ReadWord.f k l0 3 8).bind fun bt352 => (if 1 < (l0.length : Int) then (if 2 < (l0.length : Int) then (if bt352.1 = 0 then ((impl_LetterFault.f k (wrap64 (rd l0 1)) (wrap64 (rd l0 2)) bt352.2 ([] : List Int)).bind fun t358 => (if t358 = 0 then (some (0, wrap64 (rd l0 1), wrap64 (rd l0 2), bt352.2, ([] : List Int))) else (some (3, 0, 0, 0, ([] : List Int))))) else (some (3, 0, 0, 0, ([] : List Int)))) else (none)) else (none))) else (some (1, 0, 0, 0, ([] : List Int)))) else (none))) = some (r1, r2, r3, r4, r5) := h
 clear h
 by_cases c2 : (l0.length : Int) < 11
 ·
  rw [if_pos c2] at H; have c2b0 : decide ((l0.length : Int) < 11) = true := decide_eq_true c2; have c2b1 : decide (l0.length < 11) = true := decide_eq_true (by omega); clear c2; simp only [Option.some.injEq, Prod.mk.injEq] at H; obtain ⟨rfl, rfl, rfl, rfl, rfl⟩ := H
  go_enter Try.func22, Try.ntmps22
  go_wp2_with (first | ((with_reducible refine gate_dst (N := 2) rfl ?_); refine bx_ 2 (#[.int .i64 0, .int .i64 0, .int .i64 0, .int .i64 0, .slice none 0 0]) 30 rfl rfl ?hr ?_; (case hr => go_simp <;> rfl); intro gb350 hg w3 hbox hb; have n0_ := bs_ hb; have BK350 := A_ (hbox); have GW350 := gw_ (w := w) hg; replace HB := n0_; clear n0_; clear hb hbox hg; obtain ⟨hcz4_0, hcz4_1, hcz4_2, hcz4_3, hcz4_4, hfz4_0, hfz4_1, hfz4_2, hfz4_3, hfz4_4⟩ := bc5_ BK350.out))
  refine bodyPost_ret (results_cell_row rfl _ _ gb350 30 #[.int .i64 2, .int .i64 0, .int .i64 0, .int .i64 0, .slice none 0 0] (0, 0) _ rfl (by (with_reducible repeat (first | refine blk_drewN ?_ _ | refine blk_drew ?_ | refine blk_alloc ?_ _)); refine bp5_ (cs := #[.int .i64 0, .int .i64 0, .int .i64 0, .int .i64 0, .slice none 0 0]) ?_ rfl; exact bl_ BK350.out) Try.underlying30 rfl (by kernel_rfl)) rfl ?_; exact ⟨_, eq_a, by first | exact Kd.R_nil _ _ _ _ _ | exact Kd.N_nil _ _ _ _ _ | exact Kd.V_nil _ _ _ _ _ | exact Kd.Q_nil _ _ _ _ _ | exact Kd.S_nil _ _ _ _ _, below_a⟩
 ·
  rw [if_neg c2] at H; have c2b0 : decide ((l0.length : Int) < 11) = false := decide_eq_false c2; have c2b1 : decide (l0.length < 11) = false := decide_eq_false (by omega); clear c2
  by_cases c5 : 0 < (l0.length : Int)
  rotate_left
  · rw [if_neg c5] at H; exact absurd H (by simp)
  rw [if_pos c5] at H; have c5b0 : decide (0 < (l0.length : Int)) = true := decide_eq_true c5; have c5b1 : decide (0 < l0.length) = true := decide_eq_true (by omega); clear c5
  by_cases c6 : (rd l0 0) = 1
  ·
   rw [if_pos c6] at H; have c6b0 : ((rd l0 0) == 1) = true := beq_iff_eq.mpr c6; have c6b1 : ((rd l0 0) != 1) = false := bne_eq_false_iff_eq.mpr c6; clear c6; obtain ⟨⟨t352, t353⟩, A70, H⟩ := bi_ H; (try dsimp only at H); have A7 := A_ A70; clear A70
   by_cases c8 : 1 < (l0.length : Int)
   rotate_left
   · rw [if_neg c8] at H; exact absurd H (by simp)
   rw [if_pos c8] at H; have c8b0 : decide (1 < (l0.length : Int)) = true := decide_eq_true c8; have c8b1 : decide (1 < l0.length) = true := decide_eq_true (by omega); clear c8
   by_cases c9 : 2 < (l0.length : Int)
   rotate_left
   · rw [if_neg c9] at H; exact absurd H (by simp)
   rw [if_pos c9] at H; have c9b0 : decide (2 < (l0.length : Int)) = true := decide_eq_true c9; have c9b1 : decide (2 < l0.length) = true := decide_eq_true (by omega); clear c9
   by_cases c10 : t352 = 0
   ·
    rw [if_pos c10] at H; have c10b0 : (t352 == 0) = true := beq_iff_eq.mpr c10; have c10b1 : (t352 != 0) = false := bne_eq_false_iff_eq.mpr c10; clear c10; obtain ⟨t358, A110, H⟩ := bi_ H; (try dsimp only at H); have A11 := A_ A110; clear A110
    by_cases c12 : t358 = 0
    ·
     rw [if_pos c12] at H; have c12b0 : (t358 == 0) = true := beq_iff_eq.mpr c12; have c12b1 : (t358 != 0) = false := bne_eq_false_iff_eq.mpr c12; clear c12; simp only [Option.some.injEq, Prod.mk.injEq] at H; obtain ⟨rfl, rfl, rfl, rfl, rfl⟩ := H
     go_enter Try.func22, Try.ntmps22
     try go_wp2_with (first | ((with_reducible refine gate_dst (N := 2) rfl ?_); refine bx_ 2 (#[.int .i64 0, .int .i64 0, .int .i64 0, .int .i64 0, .slice none 0 0]) 30 rfl rfl ?hr ?_; (case hr => go_simp <;> rfl); intro gb350 hg w13 hbox hb; have n0_ := bs_ hb; have BK350 := A_ (hbox); have GW350 := gw_ (w := w) hg; replace HB := n0_; clear n0_; clear hb hbox hg; have p351 : 0 ≤ (0 : Int) := (by omega); have q351 : 0 < (l0.length : Int) := od_; obtain ⟨ad351, e351, hx351_0⟩ := Kd.at_int HR0.out 0 p351 q351; cases e351; have qi351 : (0 < l0.length) = True := eq_true (by omega); (try rw [show ((0 : Int)).toNat = 0 from rfl] at hx351_0); (try rw [Addr.add_zero'] at hx351_0); replace hx351_0 := hc_ HB hx351_0; replace p351 := eq_true p351; replace q351 := eq_true q351) | ((with_reducible refine gate_callee (f := 62) rfl ?_); refine goesL_ (some 17) rfl rfl Try.func62 (by kernel_rfl) rfl #[.slice (some ad351) l0.length c0, .int .i64 3, .int .i64 8] rfl args_a ?_; (with_reducible refine (impl_ReadWord.calls k _ _ l0 3 8 t352 t353 _ ?side1 ?side2 A7.out).mono ?_); (case side1 => exact ca_ (Kd.C_below HR0.out HB.out)); (case side2 => exact HC0.out); rintro e w14 ⟨rfl, hb⟩; refine ⟨_, rfl, ?_⟩; replace BK350 := bw_ gb350 hb; replace HB := bs_ hb; (try clear hb)) | ((with_reducible refine gate_dst (N := 3) rfl ?_); refine bx_ 3 (#[.int .i64 0, .int .i64 0]) 90 rfl rfl ?hr ?_; (case hr => go_simp <;> rfl); intro gb354 hg w15 hbox hb; have n0_ := bw_ gb350 hb; have n1_ := bs_ hb; have BK354 := A_ (hbox); have GW354 := gw_ (w := w) hg; have NB350_354 := bn_ gb350 hg; have NB354_350 := bm2_ gb350 hg; replace BK350 := n0_; replace HB := n1_; clear n0_ n1_; clear hb hbox hg; have hnb16 := NB354_350.out; have hnc16 := NB350_354.out; obtain ⟨hcz17_0, hcz17_1, hfz17_0, hfz17_1⟩ := bc2_ BK354.out))
     generalize hW_ : ((w15.setCell ⟨gb354, 0, none⟩ (.int .i64 t352)).setCell ⟨gb354, 1, none⟩ (.int .i64 t353)) = w18 at ⊢; have n0_ : Aside0 (w18.heap[gb350]? = some (.cells #[.int .i64 0, .int .i64 0, .int .i64 0, .int .i64 0, .slice none 0 0] 30 (0, 0))) := hW_ ▸ ⟨blk_a⟩; have n1_ : Aside0 (w18.heap[gb354]? = some (.cells #[.int .i64 t352, .int .i64 t353] 90 (0, 0))) := hW_ ▸ ⟨blk_a⟩; have n2_ : Aside0 (Below w.heap.size w w18) := hW_ ▸ ⟨below_a⟩; skip; clear hW_; have BK350 := n0_; have BK354 := n1_; have HB := n2_; clear n0_ n1_ n2_; replace BK350 := A_ (blk_drew BK350.out); replace BK354 := A_ (blk_drew BK354.out); replace HB := A_ (below_drew1 HB.out); have p355 : 0 ≤ (1 : Int) := (by omega); have q355 : 1 < (l0.length : Int) := od_; obtain ⟨ad355, e355, hx355_0⟩ := Kd.at_int HR0.out 1 p355 q355; have hw355_0 := hx355_0; (try rw [show ((1 : Int)).toNat = 1 from rfl] at hw355_0); (try rw [show 1 * 1 = 1 from rfl] at hw355_0); (try simp only [Nat.reduceMul, Nat.reduceEqDiff, Go.Addr.add, ↓reduceIte] at hw355_0); obtain rfl : ad351 = ad355 := (by injection e355); (try simp only [show (1 : Int).toNat = 1 from rfl, Nat.reduceMul, Nat.reduceEqDiff, Go.Addr.add, ↓reduceIte] at hx355_0); have qi355 : (1 < l0.length) = True := eq_true (by omega); (try rw [show ((1 : Int)).toNat = 1 from rfl] at hx355_0); replace hx355_0 := hc_ HB hx355_0; replace p355 := eq_true p355; replace q355 := eq_true q355; have p356 : 0 ≤ (2 : Int) := (by omega); have q356 : 2 < (l0.length : Int) := od_; obtain ⟨ad356, e356, hx356_0⟩ := Kd.at_int HR0.out 2 p356 q356; have hw356_0 := hx356_0; (try rw [show ((2 : Int)).toNat = 2 from rfl] at hw356_0); (try rw [show 2 * 1 = 2 from rfl] at hw356_0); (try simp only [Nat.reduceMul, Nat.reduceEqDiff, Go.Addr.add, ↓reduceIte] at hw356_0); obtain rfl : ad351 = ad356 := (by injection e356); (try simp only [show (2 : Int).toNat = 2 from rfl, Nat.reduceMul, Nat.reduceEqDiff, Go.Addr.add, ↓reduceIte] at hx356_0); have qi356 : (2 < l0.length) = True := eq_true (by omega); (try rw [show ((2 : Int)).toNat = 2 from rfl] at hx356_0); replace hx356_0 := hc_ HB hx356_0; replace p356 := eq_true p356; replace q356 := eq_true q356; refine start_ (n := 13) (S := fun w' => w'.cell? ⟨gb354, 0, none⟩ = some (.int .i64 t352) ∧ w'.cell? ⟨gb354, 1, none⟩ = some (.int .i64 t353) ∧ w'.cell? ⟨ad351.block, ad351.off + 1, none⟩ = some (.int .u8 (rd l0 1)) ∧ w'.cell? ⟨ad351.block, ad351.off + 2, none⟩ = some (.int .u8 (rd l0 2))) (ds := []) (rl_ [0, 13]) (by kernel_rfl) rfl rfl ⟨(blk_cell BK354.out 0).trans rfl, (blk_cell BK354.out 1).trans rfl, ((HB.out.cell (World.block_lt_of_cell? w _ hw355_0)).trans hw355_0), ((HB.out.cell (World.block_lt_of_cell? w _ hw356_0)).trans hw356_0)⟩ (fun hHeld => ?_); refine with_tabW impl_ReadHead.tab6 impl_ReadHead.bits6 (fun HT_ HW_ => ?_); generalize w18.drew = w19 at BK350 BK354 HB hx355_0 hx356_0 hHeld ⊢; refine pw_ 0 18 ?_ (rl_ [1, 12]) HT_ rfl rfl (by kernel_rfl) ?_ ?_ ?_ ?_; rotate_left; (intro w'; go_simp; with_reducible rfl); rotate_left; (simp only [P4_]; rfl)
     refine pw_ 1 19 ?_ (rl_ [2, 11]) HT_ rfl rfl (by kernel_rfl) ?_ ?_ ?_ ?_; rotate_left; (intro w'; go_simp; with_reducible rfl); rotate_left; (simp only [P4_]; rfl)
     refine pw_ 4 22 ?_ (rl_ [2, 2, 1, 8]) HT_ rfl rfl (by kernel_rfl) ?_ ?_ ?_ ?_; rotate_left; (intro w'; go_simp; with_reducible rfl); rotate_left; (simp only [P4_]; rfl)
     refine pw_ 5 23 ?_ (rl_ [2, 2, 2, 7]) HT_ rfl rfl (by kernel_rfl) ?_ ?_ ?_ ?_; rotate_left; (intro w'; go_simp; with_reducible rfl); rotate_left; (simp only [P4_]; rfl)
     refine pw_ 8 26 ?_ (rl_ [2, 2, 2, 2, 1, 4]) HT_ rfl rfl (by kernel_rfl) ?_ ?_ ?_ ?_; rotate_left; (intro w'; go_simp; with_reducible rfl); rotate_left; (simp only [P4_]; rfl)
     refine take_ (i := 2) (N := some 20) (v := ?_) (a' := ?_) (rl_ [3, 1, 2, 2, 1, 4]) rfl rfl (take_ofW HT_.out HW_.out (by kernel_rfl)) (fun _ _ _ h => h) (Or.inl ⟨by rfl, ?_⟩) hHeld ?_ ?_; rotate_left; (rintro w' ⟨s0, s1, s2, s3⟩; go_simp; with_reducible rfl); rotate_left; (simp only [P4_]; rfl)
     refine pw_ 3 21 ?_ (rl_ [6, 2, 1, 4]) HT_ rfl rfl (by kernel_rfl) ?_ ?_ ?_ ?_; rotate_left; (intro w'; go_simp; with_reducible rfl); rotate_left; (simp only [P4_]; rfl)
     refine take_ (i := 6) (N := some 24) (v := ?_) (a' := ?_) (rl_ [7, 1, 1, 4]) rfl rfl (take_ofW HT_.out HW_.out (by kernel_rfl)) (fun _ _ _ h => h) (Or.inl ⟨by rfl, ?_⟩) hHeld ?_ ?_; rotate_left; (rintro w' ⟨s0, s1, s2, s3⟩; go_simp; with_reducible rfl); rotate_left; (simp only [P4_]; rfl)
     refine pw_ 7 25 ?_ (rl_ [9, 4]) HT_ rfl rfl (by kernel_rfl) ?_ ?_ ?_ ?_; rotate_left; (intro w'; go_simp; with_reducible rfl); rotate_left; (simp only [P4_]; rfl)
     refine take_ (i := 9) (N := some 27) (v := ?_) (a' := ?_) (rl_ [10, 3]) rfl rfl (take_ofW HT_.out HW_.out (by kernel_rfl)) (fun _ _ _ h => h) (Or.inl ⟨by rfl, ?_⟩) hHeld ?_ ?_; rotate_left; (rintro w' ⟨s0, s1, s2, s3⟩; go_simp; with_reducible rfl); rotate_left; (simp only [P4_]; rfl)
     refine pw_ 10 28 ?_ (rl_ [11, 2]) HT_ rfl rfl (by kernel_rfl) ?_ ?_ ?_ ?_; rotate_left; (intro w'; go_simp; with_reducible rfl); rotate_left; (simp only [P4_]; rfl)
     refine one_ (i := 11) (N := some 4) (rl_ [12, 1]) rfl rfl (one_of HT_.out (by kernel_rfl)) (by decide) (fun K hK => ?_); refine box_step ?hg (N := 4) ?hd (cs := #[.int .i64 0, .int .i64 0, .int .i64 0, .slice none 0 0]) (t := 28) ?hr ?_; (case hd => rfl); (case hg => rfl); (case hr => go_simp <;> rfl); intro gb357 hg w20 hbox hb; have n0_ := bw_ gb350 hb; have n1_ := bw_ gb354 hb; have n2_ := bs_ hb; have BK357 := A_ (hbox); have GW357 := gw_ (w := w) hg; have NB350_357 := bn_ gb350 hg; have NB357_350 := bm2_ gb350 hg; have NB354_357 := bn_ gb354 hg; have NB357_354 := bm2_ gb354 hg; replace BK350 := n0_; replace BK354 := n1_; replace HB := n2_; clear n0_ n1_ n2_ hb hbox hg; refine hK.out _ _ ⟨(blk_cell BK354.out 0).trans rfl, (blk_cell BK354.out 1).trans rfl, ((HB.out.cell (World.block_lt_of_cell? w _ hw355_0)).trans hw355_0), ((HB.out.cell (World.block_lt_of_cell? w _ hw356_0)).trans hw356_0)⟩ (fun hHeld => ?_); clear hK K; refine norm_ (a' := ?_) ?_ ?_; rotate_left
     ·
      show Act.put _ (some 4) _ = _; simp only [P4_]; rfl
     refine one_ (i := 12) (N := none) (rl_ [13]) rfl rfl (one_of HT_.out (by kernel_rfl)) (by decide) (fun K hK => ?_); have hs21 : w20.cell? ⟨gb357, 0, none⟩ = some (.int .i64 0) := (blk_cell BK357.out 0).trans rfl; have hfs21 := blk_frozen BK357.out 0; have hns21_0 := NB350_357.out; have hns21_1 := NB354_357.out; have hms21_0 := NB357_350.out; have hms21_1 := NB357_354.out; have hs22 : w20.cell? ⟨gb357, 1, none⟩ = some (.int .i64 0) := (blk_cell BK357.out 1).trans rfl; have hfs22 := blk_frozen BK357.out 1; have hns22_0 := NB350_357.out; have hns22_1 := NB354_357.out; have hms22_0 := NB357_350.out; have hms22_1 := NB357_354.out; have hs23 : w20.cell? ⟨gb357, 2, none⟩ = some (.int .i64 0) := (blk_cell BK357.out 2).trans rfl; have hfs23 := blk_frozen BK357.out 2; have hns23_0 := NB350_357.out; have hns23_1 := NB354_357.out; have hms23_0 := NB357_350.out; have hms23_1 := NB357_354.out; have hs24 : w20.cell? ⟨gb357, 3, none⟩ = some (.slice none 0 0) := (blk_cell BK357.out 3).trans rfl; have hfs24 := blk_frozen BK357.out 3; have hns24_0 := NB350_357.out; have hns24_1 := NB354_357.out; have hms24_0 := NB357_350.out; have hms24_1 := NB357_354.out; refine skip_ (w1 := ?_) (by rfl) rfl ?_ ?_; rotate_left
     ·
      go_simp
      rfl
     refine hK.out _ _ ⟨((far4_ NB354_357.out).trans (hHeld.1)), ((far4_ NB354_357.out).trans (hHeld.2.1)), ((cell_far (p := ⟨gb357, _, none⟩) (by first | exact nf_ hw355_0 GW357.out | (rw [add_block]; exact nf_ hw355_0 GW357.out) | (show (Addr.add _ _).block ≠ _; rw [add_block]; exact nf_ hw355_0 GW357.out) | (dsimp only; exact nf_ hw355_0 GW357.out)) _).trans (((cell_far (p := ⟨gb357, _, none⟩) (by first | exact nf_ hw355_0 GW357.out | (rw [add_block]; exact nf_ hw355_0 GW357.out) | (show (Addr.add _ _).block ≠ _; rw [add_block]; exact nf_ hw355_0 GW357.out) | (dsimp only; exact nf_ hw355_0 GW357.out)) _).trans (((cell_far (p := ⟨gb357, _, none⟩) (by first | exact nf_ hw355_0 GW357.out | (rw [add_block]; exact nf_ hw355_0 GW357.out) | (show (Addr.add _ _).block ≠ _; rw [add_block]; exact nf_ hw355_0 GW357.out) | (dsimp only; exact nf_ hw355_0 GW357.out)) _).trans (((cell_far (p := ⟨gb357, _, none⟩) (by first | exact nf_ hw355_0 GW357.out | (rw [add_block]; exact nf_ hw355_0 GW357.out) | (show (Addr.add _ _).block ≠ _; rw [add_block]; exact nf_ hw355_0 GW357.out) | (dsimp only; exact nf_ hw355_0 GW357.out)) _).trans (hHeld.2.2.1)))))))), ((cell_far (p := ⟨gb357, _, none⟩) (by first | exact nf_ hw356_0 GW357.out | (rw [add_block]; exact nf_ hw356_0 GW357.out) | (show (Addr.add _ _).block ≠ _; rw [add_block]; exact nf_ hw356_0 GW357.out) | (dsimp only; exact nf_ hw356_0 GW357.out)) _).trans (((cell_far (p := ⟨gb357, _, none⟩) (by first | exact nf_ hw356_0 GW357.out | (rw [add_block]; exact nf_ hw356_0 GW357.out) | (show (Addr.add _ _).block ≠ _; rw [add_block]; exact nf_ hw356_0 GW357.out) | (dsimp only; exact nf_ hw356_0 GW357.out)) _).trans (((cell_far (p := ⟨gb357, _, none⟩) (by first | exact nf_ hw356_0 GW357.out | (rw [add_block]; exact nf_ hw356_0 GW357.out) | (show (Addr.add _ _).block ≠ _; rw [add_block]; exact nf_ hw356_0 GW357.out) | (dsimp only; exact nf_ hw356_0 GW357.out)) _).trans (((cell_far (p := ⟨gb357, _, none⟩) (by first | exact nf_ hw356_0 GW357.out | (rw [add_block]; exact nf_ hw356_0 GW357.out) | (show (Addr.add _ _).block ≠ _; rw [add_block]; exact nf_ hw356_0 GW357.out) | (dsimp only; exact nf_ hw356_0 GW357.out)) _).trans (hHeld.2.2.2))))))))⟩ (fun hHeld => ?_); clear hK K; refine done_ (done_of HT_.out (by kernel_rfl)) ?_; have hnb25 := NB354_357.out; have hnc25 := NB357_354.out; obtain ⟨hcz26_0, hcz26_1, hfz26_0, hfz26_1⟩ := bc2_ BK354.out; have hnb27 := NB357_350.out; have hnc27 := NB350_357.out; obtain ⟨hcz28_0, hcz28_1, hcz28_2, hcz28_3, hfz28_0, hfz28_1, hfz28_2, hfz28_3⟩ := bc4_ BK357.out
     try go_wp2_with (first | (go_at_call 26; (refine (impl_LetterFault.calls k (wrap64 (rd l0 1)) (wrap64 (rd l0 2)) t353 _ _ ([] : List Int) t358 _ ?side1 ?side2 A11.out).mono ?_); (case side1 => exact Kd.C_nil _ _); (case side2 => exact Nat.le_refl _); rintro e w29 ⟨rfl, hb⟩; have n0_ := bw_ gb350 hb; have n1_ := bw_ gb354 hb; replace BK357 := A_ (blk_below (g := gb357) (o := .cells #[.int .i64 (wrap64 (rd l0 1)), .int .i64 (wrap64 (rd l0 2)), .int .i64 t353, .slice none 0 0] 28 (0, 0)) (by (with_reducible repeat (first | refine blk_drewN ?_ _ | refine blk_drew ?_ | refine blk_alloc ?_ _)); refine blk_put (cs := #[.int .i64 (wrap64 (rd l0 1)), .int .i64 (wrap64 (rd l0 2)), .int .i64 t353, .slice none 0 0]) ?_ 3 _ rfl; refine blk_put (cs := #[.int .i64 (wrap64 (rd l0 1)), .int .i64 (wrap64 (rd l0 2)), .int .i64 0, .slice none 0 0]) ?_ 2 _ rfl; refine blk_put (cs := #[.int .i64 (wrap64 (rd l0 1)), .int .i64 0, .int .i64 0, .slice none 0 0]) ?_ 1 _ rfl; refine blk_put (cs := #[.int .i64 0, .int .i64 0, .int .i64 0, .slice none 0 0]) ?_ 0 _ rfl; exact bl_ BK357.out) hb); replace HB := bs_ hb; replace BK350 := n0_; replace BK354 := n1_; clear n0_ n1_; (try clear hb); obtain ⟨hcz30_0, hcz30_1, hcz30_2, hcz30_3, hfz30_0, hfz30_1, hfz30_2, hfz30_3⟩ := bc4_ BK357.out; obtain ⟨hcz31_0, hcz31_1, hcz31_2, hcz31_3, hcz31_4, hfz31_0, hfz31_1, hfz31_2, hfz31_3, hfz31_4⟩ := bc5_ BK350.out))
     try simp only [i64_w]
     refine bodyPost_ret (results_cell_row rfl _ _ gb350 30 #[.int .i64 0, .int .i64 (wrap64 (rd l0 1)), .int .i64 (wrap64 (rd l0 2)), .int .i64 t353, .slice none 0 0] (0, 0) _ rfl (by (with_reducible repeat (first | refine blk_drewN ?_ _ | refine blk_drew ?_ | refine blk_alloc ?_ _)); refine bp5_ (cs := #[.int .i64 0, .int .i64 0, .int .i64 0, .int .i64 0, .slice none 0 0]) ?_ rfl; exact bl_ BK350.out) Try.underlying30 rfl (by kernel_rfl)) rfl ?_; exact ⟨_, eq_a, by first | exact Kd.R_nil _ _ _ _ _ | exact Kd.N_nil _ _ _ _ _ | exact Kd.V_nil _ _ _ _ _ | exact Kd.Q_nil _ _ _ _ _ | exact Kd.S_nil _ _ _ _ _, below_a⟩
    ·
     rw [if_neg c12] at H; have c12b0 : (t358 == 0) = false := beq_eq_false_iff_ne.mpr c12; have c12b1 : (t358 != 0) = true := bne_iff_ne.mpr c12; simp only [Option.some.injEq, Prod.mk.injEq] at H; obtain ⟨rfl, rfl, rfl, rfl, rfl⟩ := H
     go_enter Try.func22, Try.ntmps22
     try go_wp2_with (first | ((with_reducible refine gate_dst (N := 2) rfl ?_); refine bx_ 2 (#[.int .i64 0, .int .i64 0, .int .i64 0, .int .i64 0, .slice none 0 0]) 30 rfl rfl ?hr ?_; (case hr => go_simp <;> rfl); intro gb350 hg w32 hbox hb; have n0_ := bs_ hb; have BK350 := A_ (hbox); have GW350 := gw_ (w := w) hg; replace HB := n0_; clear n0_; clear hb hbox hg; have p351 : 0 ≤ (0 : Int) := (by omega); have q351 : 0 < (l0.length : Int) := od_; obtain ⟨ad351, e351, hx351_0⟩ := Kd.at_int HR0.out 0 p351 q351; cases e351; have qi351 : (0 < l0.length) = True := eq_true (by omega); (try rw [show ((0 : Int)).toNat = 0 from rfl] at hx351_0); (try rw [Addr.add_zero'] at hx351_0); replace hx351_0 := hc_ HB hx351_0; replace p351 := eq_true p351; replace q351 := eq_true q351) | ((with_reducible refine gate_callee (f := 62) rfl ?_); refine goesL_ (some 17) rfl rfl Try.func62 (by kernel_rfl) rfl #[.slice (some ad351) l0.length c0, .int .i64 3, .int .i64 8] rfl args_a ?_; (with_reducible refine (impl_ReadWord.calls k _ _ l0 3 8 t352 t353 _ ?side1 ?side2 A7.out).mono ?_); (case side1 => exact ca_ (Kd.C_below HR0.out HB.out)); (case side2 => exact HC0.out); rintro e w33 ⟨rfl, hb⟩; refine ⟨_, rfl, ?_⟩; replace BK350 := bw_ gb350 hb; replace HB := bs_ hb; (try clear hb)) | ((with_reducible refine gate_dst (N := 3) rfl ?_); refine bx_ 3 (#[.int .i64 0, .int .i64 0]) 90 rfl rfl ?hr ?_; (case hr => go_simp <;> rfl); intro gb354 hg w34 hbox hb; have n0_ := bw_ gb350 hb; have n1_ := bs_ hb; have BK354 := A_ (hbox); have GW354 := gw_ (w := w) hg; have NB350_354 := bn_ gb350 hg; have NB354_350 := bm2_ gb350 hg; replace BK350 := n0_; replace HB := n1_; clear n0_ n1_; clear hb hbox hg; have hnb35 := NB354_350.out; have hnc35 := NB350_354.out; obtain ⟨hcz36_0, hcz36_1, hfz36_0, hfz36_1⟩ := bc2_ BK354.out))
     generalize hW_ : ((w34.setCell ⟨gb354, 0, none⟩ (.int .i64 t352)).setCell ⟨gb354, 1, none⟩ (.int .i64 t353)) = w37 at ⊢; have n0_ : Aside0 (w37.heap[gb350]? = some (.cells #[.int .i64 0, .int .i64 0, .int .i64 0, .int .i64 0, .slice none 0 0] 30 (0, 0))) := hW_ ▸ ⟨blk_a⟩; have n1_ : Aside0 (w37.heap[gb354]? = some (.cells #[.int .i64 t352, .int .i64 t353] 90 (0, 0))) := hW_ ▸ ⟨blk_a⟩; have n2_ : Aside0 (Below w.heap.size w w37) := hW_ ▸ ⟨below_a⟩; skip; clear hW_; have BK350 := n0_; have BK354 := n1_; have HB := n2_; clear n0_ n1_ n2_; replace BK350 := A_ (blk_drew BK350.out); replace BK354 := A_ (blk_drew BK354.out); replace HB := A_ (below_drew1 HB.out); have p355 : 0 ≤ (1 : Int) := (by omega); have q355 : 1 < (l0.length : Int) := od_; obtain ⟨ad355, e355, hx355_0⟩ := Kd.at_int HR0.out 1 p355 q355; have hw355_0 := hx355_0; (try rw [show ((1 : Int)).toNat = 1 from rfl] at hw355_0); (try rw [show 1 * 1 = 1 from rfl] at hw355_0); (try simp only [Nat.reduceMul, Nat.reduceEqDiff, Go.Addr.add, ↓reduceIte] at hw355_0); obtain rfl : ad351 = ad355 := (by injection e355); (try simp only [show (1 : Int).toNat = 1 from rfl, Nat.reduceMul, Nat.reduceEqDiff, Go.Addr.add, ↓reduceIte] at hx355_0); have qi355 : (1 < l0.length) = True := eq_true (by omega); (try rw [show ((1 : Int)).toNat = 1 from rfl] at hx355_0); replace hx355_0 := hc_ HB hx355_0; replace p355 := eq_true p355; replace q355 := eq_true q355; have p356 : 0 ≤ (2 : Int) := (by omega); have q356 : 2 < (l0.length : Int) := od_; obtain ⟨ad356, e356, hx356_0⟩ := Kd.at_int HR0.out 2 p356 q356; have hw356_0 := hx356_0; (try rw [show ((2 : Int)).toNat = 2 from rfl] at hw356_0); (try rw [show 2 * 1 = 2 from rfl] at hw356_0); (try simp only [Nat.reduceMul, Nat.reduceEqDiff, Go.Addr.add, ↓reduceIte] at hw356_0); obtain rfl : ad351 = ad356 := (by injection e356); (try simp only [show (2 : Int).toNat = 2 from rfl, Nat.reduceMul, Nat.reduceEqDiff, Go.Addr.add, ↓reduceIte] at hx356_0); have qi356 : (2 < l0.length) = True := eq_true (by omega); (try rw [show ((2 : Int)).toNat = 2 from rfl] at hx356_0); replace hx356_0 := hc_ HB hx356_0; replace p356 := eq_true p356; replace q356 := eq_true q356; refine start_ (n := 13) (S := fun w' => w'.cell? ⟨gb354, 0, none⟩ = some (.int .i64 t352) ∧ w'.cell? ⟨gb354, 1, none⟩ = some (.int .i64 t353) ∧ w'.cell? ⟨ad351.block, ad351.off + 1, none⟩ = some (.int .u8 (rd l0 1)) ∧ w'.cell? ⟨ad351.block, ad351.off + 2, none⟩ = some (.int .u8 (rd l0 2))) (ds := []) (rl_ [0, 13]) (by kernel_rfl) rfl rfl ⟨(blk_cell BK354.out 0).trans rfl, (blk_cell BK354.out 1).trans rfl, ((HB.out.cell (World.block_lt_of_cell? w _ hw355_0)).trans hw355_0), ((HB.out.cell (World.block_lt_of_cell? w _ hw356_0)).trans hw356_0)⟩ (fun hHeld => ?_); refine with_tabW impl_ReadHead.tab6 impl_ReadHead.bits6 (fun HT_ HW_ => ?_); generalize w37.drew = w38 at BK350 BK354 HB hx355_0 hx356_0 hHeld ⊢; refine pw_ 0 18 ?_ (rl_ [1, 12]) HT_ rfl rfl (by kernel_rfl) ?_ ?_ ?_ ?_; rotate_left; (intro w'; go_simp; with_reducible rfl); rotate_left; (simp only [P4_]; rfl)
     refine pw_ 1 19 ?_ (rl_ [2, 11]) HT_ rfl rfl (by kernel_rfl) ?_ ?_ ?_ ?_; rotate_left; (intro w'; go_simp; with_reducible rfl); rotate_left; (simp only [P4_]; rfl)
     refine pw_ 4 22 ?_ (rl_ [2, 2, 1, 8]) HT_ rfl rfl (by kernel_rfl) ?_ ?_ ?_ ?_; rotate_left; (intro w'; go_simp; with_reducible rfl); rotate_left; (simp only [P4_]; rfl)
     refine pw_ 5 23 ?_ (rl_ [2, 2, 2, 7]) HT_ rfl rfl (by kernel_rfl) ?_ ?_ ?_ ?_; rotate_left; (intro w'; go_simp; with_reducible rfl); rotate_left; (simp only [P4_]; rfl)
     refine pw_ 8 26 ?_ (rl_ [2, 2, 2, 2, 1, 4]) HT_ rfl rfl (by kernel_rfl) ?_ ?_ ?_ ?_; rotate_left; (intro w'; go_simp; with_reducible rfl); rotate_left; (simp only [P4_]; rfl)
     refine take_ (i := 2) (N := some 20) (v := ?_) (a' := ?_) (rl_ [3, 1, 2, 2, 1, 4]) rfl rfl (take_ofW HT_.out HW_.out (by kernel_rfl)) (fun _ _ _ h => h) (Or.inl ⟨by rfl, ?_⟩) hHeld ?_ ?_; rotate_left; (rintro w' ⟨s0, s1, s2, s3⟩; go_simp; with_reducible rfl); rotate_left; (simp only [P4_]; rfl)
     refine pw_ 3 21 ?_ (rl_ [6, 2, 1, 4]) HT_ rfl rfl (by kernel_rfl) ?_ ?_ ?_ ?_; rotate_left; (intro w'; go_simp; with_reducible rfl); rotate_left; (simp only [P4_]; rfl)
     refine take_ (i := 6) (N := some 24) (v := ?_) (a' := ?_) (rl_ [7, 1, 1, 4]) rfl rfl (take_ofW HT_.out HW_.out (by kernel_rfl)) (fun _ _ _ h => h) (Or.inl ⟨by rfl, ?_⟩) hHeld ?_ ?_; rotate_left; (rintro w' ⟨s0, s1, s2, s3⟩; go_simp; with_reducible rfl); rotate_left; (simp only [P4_]; rfl)
     refine pw_ 7 25 ?_ (rl_ [9, 4]) HT_ rfl rfl (by kernel_rfl) ?_ ?_ ?_ ?_; rotate_left; (intro w'; go_simp; with_reducible rfl); rotate_left; (simp only [P4_]; rfl)
     refine take_ (i := 9) (N := some 27) (v := ?_) (a' := ?_) (rl_ [10, 3]) rfl rfl (take_ofW HT_.out HW_.out (by kernel_rfl)) (fun _ _ _ h => h) (Or.inl ⟨by rfl, ?_⟩) hHeld ?_ ?_; rotate_left; (rintro w' ⟨s0, s1, s2, s3⟩; go_simp; with_reducible rfl); rotate_left; (simp only [P4_]; rfl)
     refine pw_ 10 28 ?_ (rl_ [11, 2]) HT_ rfl rfl (by kernel_rfl) ?_ ?_ ?_ ?_; rotate_left; (intro w'; go_simp; with_reducible rfl); rotate_left; (simp only [P4_]; rfl)
     refine one_ (i := 11) (N := some 4) (rl_ [12, 1]) rfl rfl (one_of HT_.out (by kernel_rfl)) (by decide) (fun K hK => ?_); refine box_step ?hg (N := 4) ?hd (cs := #[.int .i64 0, .int .i64 0, .int .i64 0, .slice none 0 0]) (t := 28) ?hr ?_; (case hd => rfl); (case hg => rfl); (case hr => go_simp <;> rfl); intro gb357 hg w39 hbox hb; have n0_ := bw_ gb350 hb; have n1_ := bw_ gb354 hb; have n2_ := bs_ hb; have BK357 := A_ (hbox); have GW357 := gw_ (w := w) hg; have NB350_357 := bn_ gb350 hg; have NB357_350 := bm2_ gb350 hg; have NB354_357 := bn_ gb354 hg; have NB357_354 := bm2_ gb354 hg; replace BK350 := n0_; replace BK354 := n1_; replace HB := n2_; clear n0_ n1_ n2_ hb hbox hg; refine hK.out _ _ ⟨(blk_cell BK354.out 0).trans rfl, (blk_cell BK354.out 1).trans rfl, ((HB.out.cell (World.block_lt_of_cell? w _ hw355_0)).trans hw355_0), ((HB.out.cell (World.block_lt_of_cell? w _ hw356_0)).trans hw356_0)⟩ (fun hHeld => ?_); clear hK K; refine norm_ (a' := ?_) ?_ ?_; rotate_left
     ·
      show Act.put _ (some 4) _ = _; simp only [P4_]; rfl
     refine one_ (i := 12) (N := none) (rl_ [13]) rfl rfl (one_of HT_.out (by kernel_rfl)) (by decide) (fun K hK => ?_); have hs40 : w39.cell? ⟨gb357, 0, none⟩ = some (.int .i64 0) := (blk_cell BK357.out 0).trans rfl; have hfs40 := blk_frozen BK357.out 0; have hns40_0 := NB350_357.out; have hns40_1 := NB354_357.out; have hms40_0 := NB357_350.out; have hms40_1 := NB357_354.out; have hs41 : w39.cell? ⟨gb357, 1, none⟩ = some (.int .i64 0) := (blk_cell BK357.out 1).trans rfl; have hfs41 := blk_frozen BK357.out 1; have hns41_0 := NB350_357.out; have hns41_1 := NB354_357.out; have hms41_0 := NB357_350.out; have hms41_1 := NB357_354.out; have hs42 : w39.cell? ⟨gb357, 2, none⟩ = some (.int .i64 0) := (blk_cell BK357.out 2).trans rfl; have hfs42 := blk_frozen BK357.out 2; have hns42_0 := NB350_357.out; have hns42_1 := NB354_357.out; have hms42_0 := NB357_350.out; have hms42_1 := NB357_354.out; have hs43 : w39.cell? ⟨gb357, 3, none⟩ = some (.slice none 0 0) := (blk_cell BK357.out 3).trans rfl; have hfs43 := blk_frozen BK357.out 3; have hns43_0 := NB350_357.out; have hns43_1 := NB354_357.out; have hms43_0 := NB357_350.out; have hms43_1 := NB357_354.out; refine skip_ (w1 := ?_) (by rfl) rfl ?_ ?_; rotate_left
     ·
      go_simp
      rfl
     refine hK.out _ _ ⟨((far4_ NB354_357.out).trans (hHeld.1)), ((far4_ NB354_357.out).trans (hHeld.2.1)), ((cell_far (p := ⟨gb357, _, none⟩) (by first | exact nf_ hw355_0 GW357.out | (rw [add_block]; exact nf_ hw355_0 GW357.out) | (show (Addr.add _ _).block ≠ _; rw [add_block]; exact nf_ hw355_0 GW357.out) | (dsimp only; exact nf_ hw355_0 GW357.out)) _).trans (((cell_far (p := ⟨gb357, _, none⟩) (by first | exact nf_ hw355_0 GW357.out | (rw [add_block]; exact nf_ hw355_0 GW357.out) | (show (Addr.add _ _).block ≠ _; rw [add_block]; exact nf_ hw355_0 GW357.out) | (dsimp only; exact nf_ hw355_0 GW357.out)) _).trans (((cell_far (p := ⟨gb357, _, none⟩) (by first | exact nf_ hw355_0 GW357.out | (rw [add_block]; exact nf_ hw355_0 GW357.out) | (show (Addr.add _ _).block ≠ _; rw [add_block]; exact nf_ hw355_0 GW357.out) | (dsimp only; exact nf_ hw355_0 GW357.out)) _).trans (((cell_far (p := ⟨gb357, _, none⟩) (by first | exact nf_ hw355_0 GW357.out | (rw [add_block]; exact nf_ hw355_0 GW357.out) | (show (Addr.add _ _).block ≠ _; rw [add_block]; exact nf_ hw355_0 GW357.out) | (dsimp only; exact nf_ hw355_0 GW357.out)) _).trans (hHeld.2.2.1)))))))), ((cell_far (p := ⟨gb357, _, none⟩) (by first | exact nf_ hw356_0 GW357.out | (rw [add_block]; exact nf_ hw356_0 GW357.out) | (show (Addr.add _ _).block ≠ _; rw [add_block]; exact nf_ hw356_0 GW357.out) | (dsimp only; exact nf_ hw356_0 GW357.out)) _).trans (((cell_far (p := ⟨gb357, _, none⟩) (by first | exact nf_ hw356_0 GW357.out | (rw [add_block]; exact nf_ hw356_0 GW357.out) | (show (Addr.add _ _).block ≠ _; rw [add_block]; exact nf_ hw356_0 GW357.out) | (dsimp only; exact nf_ hw356_0 GW357.out)) _).trans (((cell_far (p := ⟨gb357, _, none⟩) (by first | exact nf_ hw356_0 GW357.out | (rw [add_block]; exact nf_ hw356_0 GW357.out) | (show (Addr.add _ _).block ≠ _; rw [add_block]; exact nf_ hw356_0 GW357.out) | (dsimp only; exact nf_ hw356_0 GW357.out)) _).trans (((cell_far (p := ⟨gb357, _, none⟩) (by first | exact nf_ hw356_0 GW357.out | (rw [add_block]; exact nf_ hw356_0 GW357.out) | (show (Addr.add _ _).block ≠ _; rw [add_block]; exact nf_ hw356_0 GW357.out) | (dsimp only; exact nf_ hw356_0 GW357.out)) _).trans (hHeld.2.2.2))))))))⟩ (fun hHeld => ?_); clear hK K; refine done_ (done_of HT_.out (by kernel_rfl)) ?_; have hnb44 := NB354_357.out; have hnc44 := NB357_354.out; obtain ⟨hcz45_0, hcz45_1, hfz45_0, hfz45_1⟩ := bc2_ BK354.out; have hnb46 := NB357_350.out; have hnc46 := NB350_357.out; obtain ⟨hcz47_0, hcz47_1, hcz47_2, hcz47_3, hfz47_0, hfz47_1, hfz47_2, hfz47_3⟩ := bc4_ BK357.out
     try go_wp2_with (first | (go_at_call 26; (refine (impl_LetterFault.calls k (wrap64 (rd l0 1)) (wrap64 (rd l0 2)) t353 _ _ ([] : List Int) t358 _ ?side1 ?side2 A11.out).mono ?_); (case side1 => exact Kd.C_nil _ _); (case side2 => exact Nat.le_refl _); rintro e w48 ⟨rfl, hb⟩; have n0_ := bw_ gb350 hb; have n1_ := bw_ gb354 hb; replace BK357 := A_ (blk_below (g := gb357) (o := .cells #[.int .i64 (wrap64 (rd l0 1)), .int .i64 (wrap64 (rd l0 2)), .int .i64 t353, .slice none 0 0] 28 (0, 0)) (by (with_reducible repeat (first | refine blk_drewN ?_ _ | refine blk_drew ?_ | refine blk_alloc ?_ _)); refine blk_put (cs := #[.int .i64 (wrap64 (rd l0 1)), .int .i64 (wrap64 (rd l0 2)), .int .i64 t353, .slice none 0 0]) ?_ 3 _ rfl; refine blk_put (cs := #[.int .i64 (wrap64 (rd l0 1)), .int .i64 (wrap64 (rd l0 2)), .int .i64 0, .slice none 0 0]) ?_ 2 _ rfl; refine blk_put (cs := #[.int .i64 (wrap64 (rd l0 1)), .int .i64 0, .int .i64 0, .slice none 0 0]) ?_ 1 _ rfl; refine blk_put (cs := #[.int .i64 0, .int .i64 0, .int .i64 0, .slice none 0 0]) ?_ 0 _ rfl; exact bl_ BK357.out) hb); replace HB := bs_ hb; replace BK350 := n0_; replace BK354 := n1_; clear n0_ n1_; (try clear hb); obtain ⟨hcz49_0, hcz49_1, hcz49_2, hcz49_3, hcz49_4, hfz49_0, hfz49_1, hfz49_2, hfz49_3, hfz49_4⟩ := bc5_ BK350.out))
     refine bodyPost_ret (results_cell_row rfl _ _ gb350 30 #[.int .i64 3, .int .i64 0, .int .i64 0, .int .i64 0, .slice none 0 0] (0, 0) _ rfl (by (with_reducible repeat (first | refine blk_drewN ?_ _ | refine blk_drew ?_ | refine blk_alloc ?_ _)); refine bp5_ (cs := #[.int .i64 0, .int .i64 0, .int .i64 0, .int .i64 0, .slice none 0 0]) ?_ rfl; exact bl_ BK350.out) Try.underlying30 rfl (by kernel_rfl)) rfl ?_; exact ⟨_, eq_a, by first | exact Kd.R_nil _ _ _ _ _ | exact Kd.N_nil _ _ _ _ _ | exact Kd.V_nil _ _ _ _ _ | exact Kd.Q_nil _ _ _ _ _ | exact Kd.S_nil _ _ _ _ _, below_a⟩
   ·
    rw [if_neg c10] at H; have c10b0 : (t352 == 0) = false := beq_eq_false_iff_ne.mpr c10; have c10b1 : (t352 != 0) = true := bne_iff_ne.mpr c10; simp only [Option.some.injEq, Prod.mk.injEq] at H; obtain ⟨rfl, rfl, rfl, rfl, rfl⟩ := H
    go_enter Try.func22, Try.ntmps22
    try go_wp2_with (first | ((with_reducible refine gate_dst (N := 2) rfl ?_); refine bx_ 2 (#[.int .i64 0, .int .i64 0, .int .i64 0, .int .i64 0, .slice none 0 0]) 30 rfl rfl ?hr ?_; (case hr => go_simp <;> rfl); intro gb350 hg w50 hbox hb; have n0_ := bs_ hb; have BK350 := A_ (hbox); have GW350 := gw_ (w := w) hg; replace HB := n0_; clear n0_; clear hb hbox hg; have p351 : 0 ≤ (0 : Int) := (by omega); have q351 : 0 < (l0.length : Int) := od_; obtain ⟨ad351, e351, hx351_0⟩ := Kd.at_int HR0.out 0 p351 q351; cases e351; have qi351 : (0 < l0.length) = True := eq_true (by omega); (try rw [show ((0 : Int)).toNat = 0 from rfl] at hx351_0); (try rw [Addr.add_zero'] at hx351_0); replace hx351_0 := hc_ HB hx351_0; replace p351 := eq_true p351; replace q351 := eq_true q351) | ((with_reducible refine gate_callee (f := 62) rfl ?_); refine goesL_ (some 17) rfl rfl Try.func62 (by kernel_rfl) rfl #[.slice (some ad351) l0.length c0, .int .i64 3, .int .i64 8] rfl args_a ?_; (with_reducible refine (impl_ReadWord.calls k _ _ l0 3 8 t352 t353 _ ?side1 ?side2 A7.out).mono ?_); (case side1 => exact ca_ (Kd.C_below HR0.out HB.out)); (case side2 => exact HC0.out); rintro e w51 ⟨rfl, hb⟩; refine ⟨_, rfl, ?_⟩; replace BK350 := bw_ gb350 hb; replace HB := bs_ hb; (try clear hb)) | ((with_reducible refine gate_dst (N := 3) rfl ?_); refine bx_ 3 (#[.int .i64 0, .int .i64 0]) 90 rfl rfl ?hr ?_; (case hr => go_simp <;> rfl); intro gb354 hg w52 hbox hb; have n0_ := bw_ gb350 hb; have n1_ := bs_ hb; have BK354 := A_ (hbox); have GW354 := gw_ (w := w) hg; have NB350_354 := bn_ gb350 hg; have NB354_350 := bm2_ gb350 hg; replace BK350 := n0_; replace HB := n1_; clear n0_ n1_; clear hb hbox hg; have hnb53 := NB354_350.out; have hnc53 := NB350_354.out; obtain ⟨hcz54_0, hcz54_1, hfz54_0, hfz54_1⟩ := bc2_ BK354.out))
    generalize hW_ : ((w52.setCell ⟨gb354, 0, none⟩ (.int .i64 t352)).setCell ⟨gb354, 1, none⟩ (.int .i64 t353)) = w55 at ⊢; have n0_ : Aside0 (w55.heap[gb350]? = some (.cells #[.int .i64 0, .int .i64 0, .int .i64 0, .int .i64 0, .slice none 0 0] 30 (0, 0))) := hW_ ▸ ⟨blk_a⟩; have n1_ : Aside0 (w55.heap[gb354]? = some (.cells #[.int .i64 t352, .int .i64 t353] 90 (0, 0))) := hW_ ▸ ⟨blk_a⟩; have n2_ : Aside0 (Below w.heap.size w w55) := hW_ ▸ ⟨below_a⟩; skip; clear hW_; have BK350 := n0_; have BK354 := n1_; have HB := n2_; clear n0_ n1_ n2_; replace BK350 := A_ (blk_drew BK350.out); replace BK354 := A_ (blk_drew BK354.out); replace HB := A_ (below_drew1 HB.out); have p355 : 0 ≤ (1 : Int) := (by omega); have q355 : 1 < (l0.length : Int) := od_; obtain ⟨ad355, e355, hx355_0⟩ := Kd.at_int HR0.out 1 p355 q355; have hw355_0 := hx355_0; (try rw [show ((1 : Int)).toNat = 1 from rfl] at hw355_0); (try rw [show 1 * 1 = 1 from rfl] at hw355_0); (try simp only [Nat.reduceMul, Nat.reduceEqDiff, Go.Addr.add, ↓reduceIte] at hw355_0); obtain rfl : ad351 = ad355 := (by injection e355); (try simp only [show (1 : Int).toNat = 1 from rfl, Nat.reduceMul, Nat.reduceEqDiff, Go.Addr.add, ↓reduceIte] at hx355_0); have qi355 : (1 < l0.length) = True := eq_true (by omega); (try rw [show ((1 : Int)).toNat = 1 from rfl] at hx355_0); replace hx355_0 := hc_ HB hx355_0; replace p355 := eq_true p355; replace q355 := eq_true q355; have p356 : 0 ≤ (2 : Int) := (by omega); have q356 : 2 < (l0.length : Int) := od_; obtain ⟨ad356, e356, hx356_0⟩ := Kd.at_int HR0.out 2 p356 q356; have hw356_0 := hx356_0; (try rw [show ((2 : Int)).toNat = 2 from rfl] at hw356_0); (try rw [show 2 * 1 = 2 from rfl] at hw356_0); (try simp only [Nat.reduceMul, Nat.reduceEqDiff, Go.Addr.add, ↓reduceIte] at hw356_0); obtain rfl : ad351 = ad356 := (by injection e356); (try simp only [show (2 : Int).toNat = 2 from rfl, Nat.reduceMul, Nat.reduceEqDiff, Go.Addr.add, ↓reduceIte] at hx356_0); have qi356 : (2 < l0.length) = True := eq_true (by omega); (try rw [show ((2 : Int)).toNat = 2 from rfl] at hx356_0); replace hx356_0 := hc_ HB hx356_0; replace p356 := eq_true p356; replace q356 := eq_true q356; refine start_ (n := 13) (S := fun w' => w'.cell? ⟨gb354, 0, none⟩ = some (.int .i64 t352) ∧ w'.cell? ⟨gb354, 1, none⟩ = some (.int .i64 t353) ∧ w'.cell? ⟨ad351.block, ad351.off + 1, none⟩ = some (.int .u8 (rd l0 1)) ∧ w'.cell? ⟨ad351.block, ad351.off + 2, none⟩ = some (.int .u8 (rd l0 2))) (ds := []) (rl_ [0, 13]) (by kernel_rfl) rfl rfl ⟨(blk_cell BK354.out 0).trans rfl, (blk_cell BK354.out 1).trans rfl, ((HB.out.cell (World.block_lt_of_cell? w _ hw355_0)).trans hw355_0), ((HB.out.cell (World.block_lt_of_cell? w _ hw356_0)).trans hw356_0)⟩ (fun hHeld => ?_); refine with_tabW impl_ReadHead.tab6 impl_ReadHead.bits6 (fun HT_ HW_ => ?_); generalize w55.drew = w56 at BK350 BK354 HB hx355_0 hx356_0 hHeld ⊢; refine pw_ 0 18 ?_ (rl_ [1, 12]) HT_ rfl rfl (by kernel_rfl) ?_ ?_ ?_ ?_; rotate_left; (intro w'; go_simp; with_reducible rfl); rotate_left; (simp only [P4_]; rfl)
    refine pw_ 1 19 ?_ (rl_ [2, 11]) HT_ rfl rfl (by kernel_rfl) ?_ ?_ ?_ ?_; rotate_left; (intro w'; go_simp; with_reducible rfl); rotate_left; (simp only [P4_]; rfl)
    refine pw_ 4 22 ?_ (rl_ [2, 2, 1, 8]) HT_ rfl rfl (by kernel_rfl) ?_ ?_ ?_ ?_; rotate_left; (intro w'; go_simp; with_reducible rfl); rotate_left; (simp only [P4_]; rfl)
    refine pw_ 5 23 ?_ (rl_ [2, 2, 2, 7]) HT_ rfl rfl (by kernel_rfl) ?_ ?_ ?_ ?_; rotate_left; (intro w'; go_simp; with_reducible rfl); rotate_left; (simp only [P4_]; rfl)
    refine pw_ 8 26 ?_ (rl_ [2, 2, 2, 2, 1, 4]) HT_ rfl rfl (by kernel_rfl) ?_ ?_ ?_ ?_; rotate_left; (intro w'; go_simp; with_reducible rfl); rotate_left; (simp only [P4_]; rfl)
    refine take_ (i := 2) (N := some 20) (v := ?_) (a' := ?_) (rl_ [3, 1, 2, 2, 1, 4]) rfl rfl (take_ofW HT_.out HW_.out (by kernel_rfl)) (fun _ _ _ h => h) (Or.inl ⟨by rfl, ?_⟩) hHeld ?_ ?_; rotate_left; (rintro w' ⟨s0, s1, s2, s3⟩; go_simp; with_reducible rfl); rotate_left; (simp only [P4_]; rfl)
    refine pw_ 3 21 ?_ (rl_ [6, 2, 1, 4]) HT_ rfl rfl (by kernel_rfl) ?_ ?_ ?_ ?_; rotate_left; (intro w'; go_simp; with_reducible rfl); rotate_left; (simp only [P4_]; rfl)
    refine take_ (i := 6) (N := some 24) (v := ?_) (a' := ?_) (rl_ [7, 1, 1, 4]) rfl rfl (take_ofW HT_.out HW_.out (by kernel_rfl)) (fun _ _ _ h => h) (Or.inl ⟨by rfl, ?_⟩) hHeld ?_ ?_; rotate_left; (rintro w' ⟨s0, s1, s2, s3⟩; go_simp; with_reducible rfl); rotate_left; (simp only [P4_]; rfl)
    refine pw_ 7 25 ?_ (rl_ [9, 4]) HT_ rfl rfl (by kernel_rfl) ?_ ?_ ?_ ?_; rotate_left; (intro w'; go_simp; with_reducible rfl); rotate_left; (simp only [P4_]; rfl)
    refine take_ (i := 9) (N := some 27) (v := ?_) (a' := ?_) (rl_ [10, 3]) rfl rfl (take_ofW HT_.out HW_.out (by kernel_rfl)) (fun _ _ _ h => h) (Or.inl ⟨by rfl, ?_⟩) hHeld ?_ ?_; rotate_left; (rintro w' ⟨s0, s1, s2, s3⟩; go_simp; with_reducible rfl); rotate_left; (simp only [P4_]; rfl)
    refine pw_ 10 28 ?_ (rl_ [11, 2]) HT_ rfl rfl (by kernel_rfl) ?_ ?_ ?_ ?_; rotate_left; (intro w'; go_simp; with_reducible rfl); rotate_left; (simp only [P4_]; rfl)
    refine one_ (i := 11) (N := some 4) (rl_ [12, 1]) rfl rfl (one_of HT_.out (by kernel_rfl)) (by decide) (fun K hK => ?_); refine box_step ?hg (N := 4) ?hd (cs := #[.int .i64 0, .int .i64 0, .int .i64 0, .slice none 0 0]) (t := 28) ?hr ?_; (case hd => rfl); (case hg => rfl); (case hr => go_simp <;> rfl); intro gb357 hg w57 hbox hb; have n0_ := bw_ gb350 hb; have n1_ := bw_ gb354 hb; have n2_ := bs_ hb; have BK357 := A_ (hbox); have GW357 := gw_ (w := w) hg; have NB350_357 := bn_ gb350 hg; have NB357_350 := bm2_ gb350 hg; have NB354_357 := bn_ gb354 hg; have NB357_354 := bm2_ gb354 hg; replace BK350 := n0_; replace BK354 := n1_; replace HB := n2_; clear n0_ n1_ n2_ hb hbox hg; refine hK.out _ _ ⟨(blk_cell BK354.out 0).trans rfl, (blk_cell BK354.out 1).trans rfl, ((HB.out.cell (World.block_lt_of_cell? w _ hw355_0)).trans hw355_0), ((HB.out.cell (World.block_lt_of_cell? w _ hw356_0)).trans hw356_0)⟩ (fun hHeld => ?_); clear hK K; refine norm_ (a' := ?_) ?_ ?_; rotate_left
    ·
     show Act.put _ (some 4) _ = _; simp only [P4_]; rfl
    refine one_ (i := 12) (N := none) (rl_ [13]) rfl rfl (one_of HT_.out (by kernel_rfl)) (by decide) (fun K hK => ?_); have hs58 : w57.cell? ⟨gb357, 0, none⟩ = some (.int .i64 0) := (blk_cell BK357.out 0).trans rfl; have hfs58 := blk_frozen BK357.out 0; have hns58_0 := NB350_357.out; have hns58_1 := NB354_357.out; have hms58_0 := NB357_350.out; have hms58_1 := NB357_354.out; have hs59 : w57.cell? ⟨gb357, 1, none⟩ = some (.int .i64 0) := (blk_cell BK357.out 1).trans rfl; have hfs59 := blk_frozen BK357.out 1; have hns59_0 := NB350_357.out; have hns59_1 := NB354_357.out; have hms59_0 := NB357_350.out; have hms59_1 := NB357_354.out; have hs60 : w57.cell? ⟨gb357, 2, none⟩ = some (.int .i64 0) := (blk_cell BK357.out 2).trans rfl; have hfs60 := blk_frozen BK357.out 2; have hns60_0 := NB350_357.out; have hns60_1 := NB354_357.out; have hms60_0 := NB357_350.out; have hms60_1 := NB357_354.out; have hs61 : w57.cell? ⟨gb357, 3, none⟩ = some (.slice none 0 0) := (blk_cell BK357.out 3).trans rfl; have hfs61 := blk_frozen BK357.out 3; have hns61_0 := NB350_357.out; have hns61_1 := NB354_357.out; have hms61_0 := NB357_350.out; have hms61_1 := NB357_354.out; refine skip_ (w1 := ?_) (by rfl) rfl ?_ ?_; rotate_left
    ·
     go_simp
     rfl
    refine hK.out _ _ ⟨((far4_ NB354_357.out).trans (hHeld.1)), ((far4_ NB354_357.out).trans (hHeld.2.1)), ((cell_far (p := ⟨gb357, _, none⟩) (by first | exact nf_ hw355_0 GW357.out | (rw [add_block]; exact nf_ hw355_0 GW357.out) | (show (Addr.add _ _).block ≠ _; rw [add_block]; exact nf_ hw355_0 GW357.out) | (dsimp only; exact nf_ hw355_0 GW357.out)) _).trans (((cell_far (p := ⟨gb357, _, none⟩) (by first | exact nf_ hw355_0 GW357.out | (rw [add_block]; exact nf_ hw355_0 GW357.out) | (show (Addr.add _ _).block ≠ _; rw [add_block]; exact nf_ hw355_0 GW357.out) | (dsimp only; exact nf_ hw355_0 GW357.out)) _).trans (((cell_far (p := ⟨gb357, _, none⟩) (by first | exact nf_ hw355_0 GW357.out | (rw [add_block]; exact nf_ hw355_0 GW357.out) | (show (Addr.add _ _).block ≠ _; rw [add_block]; exact nf_ hw355_0 GW357.out) | (dsimp only; exact nf_ hw355_0 GW357.out)) _).trans (((cell_far (p := ⟨gb357, _, none⟩) (by first | exact nf_ hw355_0 GW357.out | (rw [add_block]; exact nf_ hw355_0 GW357.out) | (show (Addr.add _ _).block ≠ _; rw [add_block]; exact nf_ hw355_0 GW357.out) | (dsimp only; exact nf_ hw355_0 GW357.out)) _).trans (hHeld.2.2.1)))))))), ((cell_far (p := ⟨gb357, _, none⟩) (by first | exact nf_ hw356_0 GW357.out | (rw [add_block]; exact nf_ hw356_0 GW357.out) | (show (Addr.add _ _).block ≠ _; rw [add_block]; exact nf_ hw356_0 GW357.out) | (dsimp only; exact nf_ hw356_0 GW357.out)) _).trans (((cell_far (p := ⟨gb357, _, none⟩) (by first | exact nf_ hw356_0 GW357.out | (rw [add_block]; exact nf_ hw356_0 GW357.out) | (show (Addr.add _ _).block ≠ _; rw [add_block]; exact nf_ hw356_0 GW357.out) | (dsimp only; exact nf_ hw356_0 GW357.out)) _).trans (((cell_far (p := ⟨gb357, _, none⟩) (by first | exact nf_ hw356_0 GW357.out | (rw [add_block]; exact nf_ hw356_0 GW357.out) | (show (Addr.add _ _).block ≠ _; rw [add_block]; exact nf_ hw356_0 GW357.out) | (dsimp only; exact nf_ hw356_0 GW357.out)) _).trans (((cell_far (p := ⟨gb357, _, none⟩) (by first | exact nf_ hw356_0 GW357.out | (rw [add_block]; exact nf_ hw356_0 GW357.out) | (show (Addr.add _ _).block ≠ _; rw [add_block]; exact nf_ hw356_0 GW357.out) | (dsimp only; exact nf_ hw356_0 GW357.out)) _).trans (hHeld.2.2.2))))))))⟩ (fun hHeld => ?_); clear hK K; refine done_ (done_of HT_.out (by kernel_rfl)) ?_; have hnb62 := NB354_357.out; have hnc62 := NB357_354.out; obtain ⟨hcz63_0, hcz63_1, hfz63_0, hfz63_1⟩ := bc2_ BK354.out; have hnb64 := NB350_357.out; have hnc64 := NB357_350.out; obtain ⟨hcz65_0, hcz65_1, hcz65_2, hcz65_3, hcz65_4, hfz65_0, hfz65_1, hfz65_2, hfz65_3, hfz65_4⟩ := bc5_ BK350.out
    try go_wp2
    refine bodyPost_ret (results_cell_row rfl _ _ gb350 30 #[.int .i64 3, .int .i64 0, .int .i64 0, .int .i64 0, .slice none 0 0] (0, 0) _ rfl (by (with_reducible repeat (first | refine blk_drewN ?_ _ | refine blk_drew ?_ | refine blk_alloc ?_ _)); refine bp5_ (cs := #[.int .i64 0, .int .i64 0, .int .i64 0, .int .i64 0, .slice none 0 0]) ?_ rfl; (iterate 4 ((with_reducible repeat (first | refine blk_drewN ?_ _ | refine blk_drew ?_ | refine blk_alloc ?_ _)); refine blk_far ?_ NB350_357.out _)); exact bl_ BK350.out) Try.underlying30 rfl (by kernel_rfl)) rfl ?_; exact ⟨_, eq_a, by first | exact Kd.R_nil _ _ _ _ _ | exact Kd.N_nil _ _ _ _ _ | exact Kd.V_nil _ _ _ _ _ | exact Kd.Q_nil _ _ _ _ _ | exact Kd.S_nil _ _ _ _ _, below_a⟩
  ·
   rw [if_neg c6] at H; have c6b0 : ((rd l0 0) == 1) = false := beq_eq_false_iff_ne.mpr c6; have c6b1 : ((rd l0 0) != 1) = true := bne_iff_ne.mpr c6; simp only [Option.some.injEq, Prod.mk.injEq] at H; obtain ⟨rfl, rfl, rfl, rfl, rfl⟩ := H
   go_enter Try.func22, Try.ntmps22
   go_wp2_with (first | ((with_reducible refine gate_dst (N := 2) rfl ?_); refine bx_ 2 (#[.int .i64 0, .int .i64 0, .int .i64 0, .int .i64 0, .slice none 0 0]) 30 rfl rfl ?hr ?_; (case hr => go_simp <;> rfl); intro gb350 hg w66 hbox hb; have n0_ := bs_ hb; have BK350 := A_ (hbox); have GW350 := gw_ (w := w) hg; replace HB := n0_; clear n0_; clear hb hbox hg; have p351 : 0 ≤ (0 : Int) := (by omega); have q351 : 0 < (l0.length : Int) := od_; obtain ⟨ad351, e351, hx351_0⟩ := Kd.at_int HR0.out 0 p351 q351; cases e351; have qi351 : (0 < l0.length) = True := eq_true (by omega); (try rw [show ((0 : Int)).toNat = 0 from rfl] at hx351_0); (try rw [Addr.add_zero'] at hx351_0); replace hx351_0 := hc_ HB hx351_0; replace p351 := eq_true p351; replace q351 := eq_true q351; obtain ⟨hcz67_0, hcz67_1, hcz67_2, hcz67_3, hcz67_4, hfz67_0, hfz67_1, hfz67_2, hfz67_3, hfz67_4⟩ := bc5_ BK350.out))
   refine bodyPost_ret (results_cell_row rfl _ _ gb350 30 #[.int .i64 1, .int .i64 0, .int .i64 0, .int .i64 0, .slice none 0 0] (0, 0) _ rfl (by (with_reducible repeat (first | refine blk_drewN ?_ _ | refine blk_drew ?_ | refine blk_alloc ?_ _)); refine bp5_ (cs := #[.int .i64 0, .int .i64 0, .int .i64 0, .int .i64 0, .slice none 0 0]) ?_ rfl; exact bl_ BK350.out) Try.underlying30 rfl (by kernel_rfl)) rfl ?_; exact ⟨_, eq_a, by first | exact Kd.R_nil _ _ _ _ _ | exact Kd.N_nil _ _ _ _ _ | exact Kd.V_nil _ _ _ _ _ | exact Kd.Q_nil _ _ _ _ _ | exact Kd.S_nil _ _ _ _ _, below_a⟩
def impl_Key_fault.f (a0_0 : Int) (l0_1 : List Int) : Option (Int) := (impl_isKeyId.f a0_0).bind fun t360 => (if t360 = true then (if (l0_1.length : Int) = 16 then (some 0) else (some 2)) else (some 3))
theorem impl_Key_fault.calls (a0_0 : Int) (A0_1 : Option Addr) (c0_1 : Nat) (l0_1 : List Int) (r : Int) (w : World) (hr0_1 : Kd.C (Kd.int .u8) w A0_1 l0_1.length l0_1) (hc0_1 : l0_1.length ≤ c0_1) (h : impl_Key_fault.f a0_0 l0_1 = some r) :
  Calls Try.prog 81 #[.agg #[.int .i64 a0_0, .slice A0_1 l0_1.length c0_1]] w fun e w' => e = .returned (.int .i64 r) ∧ Below w.heap.size w w' := by
 have hu59 := Try.underlying59
 have HR0_1 := A_ hr0_1
 have HC0_1 := A_ hc0_1
 clear hr0_1 hc0_1
 have HB := A_ (Below.refl w.heap.size w)
 have H : ((impl_isKeyId.f a0_0).bind fun t360 => (if t360 = true then (if (l0_1.length : Int) = 16 then (some 0) else (some 2)) else (some 3))) = some r := h
 clear h
 obtain ⟨t360, A20, H⟩ := bi_ H
 replace H : (if t360 = true then (if (l0_1.length : Int) = 16 then (some 0) else (some 2)) else (some 3)) = some r := H
 have A2 := A_ A20
 clear A20
 by_cases c3 : t360 = true
 ·
  subst c3; have H1 : (if (l0_1.length : Int) = 16 then (some 0) else (some 2)) = some r := by rw [if_pos rfl] at H; exact H
  clear H; have H := H1; clear H1
  by_cases c4 : (l0_1.length : Int) = 16
  ·
   rw [if_pos c4] at H; have c4b0 : ((l0_1.length : Int) == 16) = true := beq_iff_eq.mpr c4; have c4b1 : ((l0_1.length : Int) != 16) = false := bne_eq_false_iff_eq.mpr c4; clear c4; obtain rfl := Option.some.inj H
   go_enter Try.func81, Try.ntmps81
   go_wp2_with (first | ((with_reducible refine gate_dst (N := 1) rfl ?_); refine bx_ 1 (#[.int .i64 a0_0, .slice A0_1 l0_1.length c0_1]) 59 rfl rfl ?hr ?_; (case hr => go_simp <;> rfl); intro gb359 hg w5 hbox hb; have n0_ := bs_ hb; have BK359 := A_ (hbox); have GW359 := gw_ (w := w) hg; replace HB := n0_; clear n0_; clear hb hbox hg; obtain ⟨hcz6_0, hcz6_1, hfz6_0, hfz6_1⟩ := bc2_ BK359.out) | ((with_reducible refine gate_callee (f := 67) rfl ?_); refine goesL_ (some 5) rfl rfl Try.func67 (by kernel_rfl) rfl #[.int .i64 a0_0] rfl args_a ?_; (with_reducible refine (impl_isKeyId.calls a0_0 true _ A2.out).mono ?_); rintro e w' ⟨rfl, ⟨nd, rfl⟩⟩; refine ⟨_, rfl, ?_⟩))
   go_ret
   exact ⟨eq_a, below_a⟩
  ·
   rw [if_neg c4] at H; have c4b0 : ((l0_1.length : Int) == 16) = false := beq_eq_false_iff_ne.mpr c4; have c4b1 : ((l0_1.length : Int) != 16) = true := bne_iff_ne.mpr c4; obtain rfl := Option.some.inj H
   go_enter Try.func81, Try.ntmps81
   go_wp2_with (first | ((with_reducible refine gate_dst (N := 1) rfl ?_); refine bx_ 1 (#[.int .i64 a0_0, .slice A0_1 l0_1.length c0_1]) 59 rfl rfl ?hr ?_; (case hr => go_simp <;> rfl); intro gb359 hg w7 hbox hb; have n0_ := bs_ hb; have BK359 := A_ (hbox); have GW359 := gw_ (w := w) hg; replace HB := n0_; clear n0_; clear hb hbox hg; obtain ⟨hcz8_0, hcz8_1, hfz8_0, hfz8_1⟩ := bc2_ BK359.out) | ((with_reducible refine gate_callee (f := 67) rfl ?_); refine goesL_ (some 5) rfl rfl Try.func67 (by kernel_rfl) rfl #[.int .i64 a0_0] rfl args_a ?_; (with_reducible refine (impl_isKeyId.calls a0_0 true _ A2.out).mono ?_); rintro e w' ⟨rfl, ⟨nd, rfl⟩⟩; refine ⟨_, rfl, ?_⟩))
   go_ret
   exact ⟨eq_a, below_a⟩
 ·
  replace c3 := Bool.eq_false_iff.mpr c3; subst c3; have H1 : (some 3) = some r := by rw [if_neg (show ¬ (false = true) by decide)] at H; exact H
  clear H; have H := H1; clear H1; obtain rfl := Option.some.inj H
  go_enter Try.func81, Try.ntmps81
  go_wp2_with (first | ((with_reducible refine gate_dst (N := 1) rfl ?_); refine bx_ 1 (#[.int .i64 a0_0, .slice A0_1 l0_1.length c0_1]) 59 rfl rfl ?hr ?_; (case hr => go_simp <;> rfl); intro gb359 hg w9 hbox hb; have n0_ := bs_ hb; have BK359 := A_ (hbox); have GW359 := gw_ (w := w) hg; replace HB := n0_; clear n0_; clear hb hbox hg; obtain ⟨hcz10_0, hcz10_1, hfz10_0, hfz10_1⟩ := bc2_ BK359.out) | ((with_reducible refine gate_callee (f := 67) rfl ?_); refine goesL_ (some 5) rfl rfl Try.func67 (by kernel_rfl) rfl #[.int .i64 a0_0] rfl args_a ?_; (with_reducible refine (impl_isKeyId.calls a0_0 false _ A2.out).mono ?_); rintro e w' ⟨rfl, ⟨nd, rfl⟩⟩; refine ⟨_, rfl, ?_⟩))
  go_ret
  exact ⟨eq_a, below_a⟩
def ixk : List S59 → Int → Int → Int
  | [], _, _ => -1
  | x :: t, a, i => if x.f0 = a then i else ixk t a (i + 1)
theorem clo104 (a x : Int) (u : Value) (hu : u.oneCell' = true) (p : Addr) (W : World) (hc : W.cell? p = some (.int .i64 a)) :
    Calls Try.prog 104 #[.agg #[.int .i64 x, u], .pointer (some p)] W fun e w' => e = .returned (.bool (x == a)) ∧ Below W.heap.size W w' := by
  have hu59 := Try.underlying59
  have HB := A_ (Below.refl W.heap.size W)
  have HC := A_ hc
  clear hc
  go_enter Try.func104, Try.ntmps104
  go_wp2_with (first | ((with_reducible refine gate_dst (N := 2) rfl ?_); refine bx_ 2 (#[.int .i64 x, u]) 59 rfl rfl ?hr ?_; (case hr => go_simp <;> rfl); intro gb2 hg w5 hbox hb; have hcp := (hb.cell (World.block_lt_of_cell? _ _ HC.out)).trans HC.out; replace HB := hb2_ hb; have BK2 := A_ (hbox); clear hb hbox hg; obtain ⟨hcz6_0, hcz6_1, hfz6_0, hfz6_1⟩ := bc2_ BK2.out))
  go_ret
  exact ⟨by simp, below_a⟩
theorem ixk_drop (l : List S59) (a : Int) (i : Nat) (h : i < l.length) : ixk (l.drop i) a i = if (rd_T59 l i).f0 = a then (i : Int) else ixk (l.drop (i + 1)) a ((i + 1 : Nat) : Int) := by
  have e : rd_T59 l (i : Int) = l[i] := by simp [rd_T59, List.getD_eq_getElem?_getD, h]
  rw [e, List.drop_eq_getElem_cons h]
  rfl
theorem ixf103 (A0 : Option Addr) (c0 : Nat) (l0 : List S59) (a : Int) (p : Addr) (w : World) (hr0 : Kd.C k59 w A0 l0.length l0) (hc0 : l0.length ≤ c0) (hn : l0.length ≤ 9223372036854775807) (hp : w.cell? p = some (.int .i64 a)) :
    Calls Try.prog 103 #[.slice A0 l0.length c0, .func (.func 104) #[] #[.pointer (some p)]] w fun e w' => e = .returned (.int .i64 (ixk l0 a 0)) ∧ Below w.heap.size w w' := by
  have hu59 := Try.underlying59
  have HR0 := A_ hr0
  have HC0 := A_ hc0
  have HP := A_ hp
  have HN := A_ hn
  have HB := A_ (Below.refl w.heap.size w)
  clear hr0 hc0 hp hn
  go_enter Try.func103, Try.ntmps103
  go_wp2
  go_loopg [8] l0.length (fun kq v8 w' => ∃ (x : Int), v8 = .int .i64 x ∧ Aside0 (0 ≤ x ∧ x ≤ (l0.length : Int)) ∧ Aside0 (kq = l0.length - x.toNat) ∧ Aside0 (ixk (l0.drop x.toNat) a x = ixk l0 a 0) ∧ Aside0 (Below w.heap.size w w'))
  case atStart => exact ⟨0, eq_b, ⟨by omega⟩, ⟨rfl⟩, ⟨rfl⟩, ⟨below_a⟩⟩
  case round =>
    obtain ⟨x, rfl, HI, HK1, HX, HB⟩ := hrel
    by_cases c4 : x < (l0.length : Int)
    · have c4b0 : decide (x < (l0.length : Int)) = true := decide_eq_true c4
      obtain ⟨k1, rfl⟩ : ∃ k1, gk = k1 + 1 := ⟨gk - 1, by have := HK1.out; have := HI.out; omega⟩
      have p103 : 0 ≤ (x : Int) := HI.out.1
      obtain ⟨ad103, A103_1, c103_1, e103, hx103_0, hx103_1, hl103_1, hi103_1⟩ := at_T59 HR0.out x p103 c4
      cases e103
      replace hx103_0 := hc_ HB hx103_0
      replace hx103_1 := hc_ HB hx103_1
      clear hi103_1 hl103_1
      have hstep := ixk_drop l0 a x.toNat (by omega)
      rw [show ((x.toNat : Nat) : Int) = x by omega, show ((x.toNat + 1 : Nat) : Int) = x + 1 by omega, HX.out] at hstep
      have HWR : Aside0 (wrap64 (x + 1) = x + 1) := ⟨by have := HI.out; have := HN.out; unfold wrap64; omega⟩
      have HT : Aside0 ((x + 1).toNat = x.toNat + 1) := ⟨by omega⟩
      have HL : Aside0 (x < (l0.length : Int)) := ⟨c4⟩
      replace p103 := eq_true p103
      have q103 := eq_true c4
      clear c4
      by_cases c5 : (rd_T59 l0 x).f0 = a
      · rw [if_pos c5] at hstep
        have HS := A_ hstep
        have c5b : ((rd_T59 l0 x).f0 == a) = true := by simp [c5]
        clear hstep c5
        go_wp2_with (go_at_call 104; (refine (clo104 a ((rd_T59 l0 x).f0) (.slice A103_1 (rd_T59 l0 x).f1.length c103_1) rfl p _ ?sc).mono ?_); (case sc => exact (HB.out.cell (World.block_lt_of_cell? _ _ HP.out)).trans HP.out); rintro e w8 ⟨rfl, hb⟩; replace HB := hb2_ hb; clear hb)
        go_ret
        exact ⟨by rw [HS.out]; rfl, below_a⟩
      · rw [if_neg c5] at hstep
        have HS := A_ hstep
        have c5b : ((rd_T59 l0 x).f0 == a) = false := by simpa using c5
        clear hstep c5
        go_wp2_with (go_at_call 104; (refine (clo104 a ((rd_T59 l0 x).f0) (.slice A103_1 (rd_T59 l0 x).f1.length c103_1) rfl p _ ?sc).mono ?_); (case sc => exact (HB.out.cell (World.block_lt_of_cell? _ _ HP.out)).trans HP.out); rintro e w8 ⟨rfl, hb⟩; replace HB := hb2_ hb; clear hb)
        go_roundg k1
        case measure => have := HK1.out; omega
        case rel => exact ⟨x + 1, by rw [HWR.out], ⟨by have := HI.out; have := HL.out; omega⟩, ⟨by rw [HT.out]; have := HK1.out; omega⟩, ⟨by rw [HT.out]; exact HS.out.symm⟩, ⟨below_a⟩⟩
    · have hge : x = l0.length := by have := HI.out; omega
      have c4b0 : decide (x < (l0.length : Int)) = false := decide_eq_false c4
      have HS := A_ (show ixk l0 a 0 = -1 from by rw [← HX.out, hge, Int.toNat_natCast, List.drop_length]; rfl)
      clear c4 hge
      go_wp2
      go_ret
      exact ⟨by rw [HS.out]; rfl, below_a⟩
theorem place82 (a0_0 : Int) (A0_1 : Option Addr) (c0_1 : Nat) (l0_1 : List (S59)) (a1 : Int) (w : World) (hr0_1 : Kd.C k59 w A0_1 l0_1.length l0_1) (hc0_1 : l0_1.length ≤ c0_1) (hn : l0_1.length ≤ 9223372036854775807) :
    Calls Try.prog 82 #[.agg #[.int .i64 a0_0, .slice A0_1 l0_1.length c0_1], .int .i64 a1] w fun e w' => e = .returned (.int .i64 (ixk l0_1 a1 0)) ∧ Below w.heap.size w w' := by
  have hu34 := Try.underlying34
  have HR := A_ hr0_1
  have HC := A_ hc0_1
  have HN := A_ hn
  have HB := A_ (Below.refl w.heap.size w)
  clear hr0_1 hc0_1 hn
  have hmf : ∀ (fn : Fn) (first cap : Array Value) (w : World), (Instr.makeFunc fn first cap).run Try.prog w = .ok (.func fn first cap) w := fun _ _ _ _ => rfl
  go_enter Try.func82, Try.ntmps82
  go_wp2_with (first | ((with_reducible refine gate_dst (N := 2) rfl ?_); refine bx_ 2 (#[.int .i64 a0_0, .slice A0_1 l0_1.length c0_1]) 34 rfl rfl ?hr ?_; (case hr => go_simp <;> rfl); intro gb2 hg w5 hbox hb; replace HB := hb2_ hb; have BK2 := A_ (hbox); clear hb hbox hg; obtain ⟨hcz6_0, hcz6_1, hfz6_0, hfz6_1⟩ := bc2_ BK2.out) | ((with_reducible refine gate_dst (N := 3) rfl ?_); refine bx_ 3 (#[.int .i64 a1]) 2 rfl rfl ?hr ?_; (case hr => go_simp <;> rfl); intro gb3 hg w7 hbox hb; replace BK2 := bw_ gb2 hb; replace HB := hb2_ hb; have BK3 := A_ (hbox); clear hb hbox hg; obtain ⟨hcz7_0, hcz7_1, hfz7_0, hfz7_1⟩ := bc2_ BK2.out) | (go_at_call 103; (refine (ixf103 A0_1 c0_1 l0_1 a1 ⟨gb3, 0, none⟩ _ ?s1 HC.out HN.out ?s2).mono ?_); (case s1 => exact Kd.C_below HR.out below_a); (case s2 => exact (blk_cell BK3.out 0).trans rfl); rintro e w8 ⟨rfl, hb⟩; replace HB := hb2_ hb; clear hb))
  go_ret
  exact ⟨rfl, below_a⟩
def impl_Ring_place.f (a0_0 : Int) (l0_1 : List (S59)) (a1 : Int) : Option Int := if l0_1.length ≤ 9223372036854775807 then some (ixk l0_1 a1 0) else none
theorem impl_Ring_place.calls (a0_0 : Int) (A0_1 : Option Addr) (c0_1 : Nat) (l0_1 : List (S59)) (a1 : Int) (r : Int) (w : World) (hr0_1 : Kd.C k59 w A0_1 l0_1.length l0_1) (hc0_1 : l0_1.length ≤ c0_1) (h : impl_Ring_place.f a0_0 l0_1 a1 = some r) :
    Calls Try.prog 82 #[.agg #[.int .i64 a0_0, .slice A0_1 l0_1.length c0_1], .int .i64 a1] w fun e w' => e = .returned (.int .i64 r) ∧ Below w.heap.size w w' := by
  unfold impl_Ring_place.f at h
  by_cases hn : l0_1.length ≤ 9223372036854775807
  · rw [if_pos hn] at h
    obtain rfl := Option.some.inj h
    exact place82 a0_0 A0_1 c0_1 l0_1 a1 w hr0_1 hc0_1 hn
  · rw [if_neg hn] at h
    cases h
end Go.Proofs.Ytiioiohdifkbgaa.MFnExactOpenLetter
