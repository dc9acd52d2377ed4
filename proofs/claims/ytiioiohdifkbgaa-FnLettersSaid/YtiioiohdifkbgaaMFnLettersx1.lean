-- Laid by a program of this session (the kit's print, turned where it falls short; the texts of functions that it does not take are proved by hand).
import Derived.Test.YtiioiohdifkbgaaMFnLettersx0
namespace Go.Proofs.Ytiioiohdifkbgaa.MFnLetters
open Go.RowKit Go.Proofs.YtiioiohdifkbgaaW.PrintWords Go.Proofs.YtiioiohdifkbgaaW.PrintLast Go.Proofs.YtiioiohdifkbgaaW.PrintMore
set_option maxHeartbeats 80000000
set_option maxRecDepth 100000
attribute [local go_sem] max2_int min2_int max_two min_two max_three min_three max_four min_four   -- for this text's walks alone
set_option linter.unusedVariables false
set_option linter.unusedSimpArgs false
attribute [local go_sem] isSome_setCell
def spec_l1Read.l0 : Nat → List Int → Int → Int → Int → Int → Option (Int)
 | 0, _, _, _, _, _ => none
 | k + 1, x0, x1, x2, x7, x8 => if x8 < x2 then (if 0 ≤ (wrap64 (x1 + x8)) then (if (wrap64 (x1 + x8)) < (x0.length : Int) then (spec_l1Read.l0 k x0 x1 x2 (wrap64 ((wrap64 (x7 * 256)) + (wrap64 (rd x0 (wrap64 (x1 + x8)))))) (wrap64 (x8 + 1))) else (none)) else (none)) else (some x7)
def spec_l1Read.f (k : Nat) (l0 : List Int) (a1 : Int) (a2 : Int) : Option (Int) := spec_l1Read.l0 k l0 a1 a2 0 0
theorem spec_l1Read.calls (k : Nat) (A0 : Option Addr) (c0 : Nat) (l0 : List Int) (a1 : Int) (a2 : Int) (r : Int) (w : World) (Ai : Kd.C (Kd.int .u8) w A0 l0.length l0) (Aj : l0.length ≤ c0) (h : spec_l1Read.f k l0 a1 a2 = some r) :
  Calls Try.prog 65 #[.slice A0 l0.length c0, .int .i64 a1, .int .i64 a2] w fun e w' => e = .returned (.int .i64 r) ∧ Drawn0 w w' := by
 have Al := A_ Ai
 have Ao := A_ Aj
 clear Ai Aj
 unfold spec_l1Read.f at h; have H := h; clear h
 have H' := A_ H
 clear H
 go_enter Try.func65, Try.ntmps65
 go_wp2
 go_loopg [7, 8] k (fun kq v7 v8 w' => ∃ (Ab : Int) (Aa : Int), v7 = .int .i64 Ab ∧ v8 = .int .i64 Aa ∧ Aside0 (spec_l1Read.l0 kq l0 a1 a2 Ab Aa = some r) ∧ Aside0 (kq ≤ k) ∧ Drawn0 w w')
 case atStart => exact ⟨(0), (0), eq_b, eq_b, H', ⟨Nat.le_refl _⟩, by repeat (first | exact Drawn0.refl _ | apply Drawn0.step)⟩
 case round =>
  clear H'
  try clear p2
  obtain ⟨Ab, Aa, rfl, rfl, HA, HK1, ⟨m1, rfl⟩⟩ := hrel
  cases gk with
  | zero => exact absurd HA.out (by simp [spec_l1Read.l0])
  | succ k1 =>
   have H := HA.out; clear HA; simp only [spec_l1Read.l0] at H
   by_cases c4 : Aa < a2
   ·
    rw [if_pos c4] at H; have Ag := decide_eq_true c4; clear c4; obtain ⟨Ae, hji5⟩ : ∃ j_ : Int, (wrap64 (a1 + Aa)) = j_ := ⟨_, rfl⟩; first | rw [hji5] at H | simp only [hji5] at H
    have hji5w : (IntKind.i64.wrap (a1 + Aa)) = Ae := (i64_w _).trans hji5
    obtain ⟨c6, H⟩ := iq_ H; have Am := decide_eq_true c6; clear c6
    obtain ⟨c7, H⟩ := iq_ H; have An := decide_eq_true c7; clear c7; have H' := A_ H; clear H; have Ac : 0 ≤ ((Ae) : Int) := od_; have Ad : (Ae) < (l0.length : Int) := od_; obtain ⟨Ak, Ah, Af⟩ := Kd.at_int Al.out (Ae) Ac Ad
    cases Ah
    replace Ac := eq_true Ac; replace Ad := eq_true Ad
    go_wp2
    go_roundg k1
    case measure => have := HK1.out; omega
    case rel => exact ⟨(wrap64 ((wrap64 (Ab * 256)) + (wrap64 (rd l0 (Ae))))), (wrap64 (Aa + 1)), (by first | rfl | (simp; done) | (simp only [← hji5] <;> (first | rfl | simp)) | (simp [*]; done)), eq_b, H', ⟨by have := HK1.out; omega⟩, by repeat (first | exact Drawn0.refl _ | apply Drawn0.step)⟩
   rw [if_neg c4] at H; have Ag := decide_eq_false c4; clear c4; obtain rfl := Option.some.inj H
   go_wp2
   go_ret
   exact ⟨eq_b, by repeat (first | exact Drawn0.refl _ | apply Drawn0.step)⟩
def spec_l1In.f (a0 : Int) (a1 : Int) (a2 : Int) : Option (Bool) := if a0 ≥ a1 then (some (decide (a0 ≤ a2))) else (some false)
theorem spec_l1In.calls (a0 : Int) (a1 : Int) (a2 : Int) (r : Bool) (w : World) (h : spec_l1In.f a0 a1 a2 = some r) :
  Calls Try.prog 95 #[.int .i64 a0, .int .i64 a1, .int .i64 a2] w fun e w' => e = .returned (.bool r) ∧ Drawn0 w w' := by
 unfold spec_l1In.f at h; have H := h; clear h
 by_cases c4 : a0 ≥ a1
 ·
  rw [if_pos c4] at H; have Aa : decide (a1 ≤ a0) = true := decide_eq_true c4; clear c4; obtain rfl := Option.some.inj H
  go_enter Try.func95, Try.ntmps95
  go_wp2
  go_ret
  exact ⟨eq_b, by repeat (first | exact Drawn0.refl _ | apply Drawn0.step)⟩
 rw [if_neg c4] at H; have Aa : decide (a1 ≤ a0) = false := decide_eq_false c4; clear c4; obtain rfl := Option.some.inj H
 go_enter Try.func95, Try.ntmps95
 go_wp2
 go_ret
 exact ⟨eq_b, by repeat (first | exact Drawn0.refl _ | apply Drawn0.step)⟩
def spec_l5Head.f (Aa : Int) (Ab : Int) (Ac : Int) (Ag : List Int) : Option (Bool) := (spec_l1In.f Aa 1 255).bind fun Ad => (if Ad = true then ((spec_l1In.f Ab 0 15).bind fun Ae => (if Ae = true then ((spec_l1In.f Ac 0 1000000000).bind fun Af => (some Af)) else (some false))) else (some false))
theorem spec_l5Head.calls (p : Addr) (Aa : Int) (Ac : Int) (Ad : Int) (Ae : Option Addr) (Af : Nat) (Ab : List Int) (r : Bool) (w : World) (Ag : Kd.C (Kd.int .u8) w Ae Ab.length Ab) (Ah : Ab.length ≤ Af) (hxp_0 : w.cell? p = some (.int .i64 Aa)) (hxp_1 : w.cell? ⟨p.block, p.off + 1, none⟩ = some (.int .i64 Ac)) (hxp_2 : w.cell? ⟨p.block, p.off + 2, none⟩ = some (.int .i64 Ad)) (hxp_3 : w.cell? ⟨p.block, p.off + 3, none⟩ = some (.slice Ae Ab.length Af)) (h : spec_l5Head.f Aa Ac Ad Ab = some r) :
  Calls Try.prog 66 #[.pointer (some p)] w fun e w' => e = .returned (.bool r) ∧ Below w.heap.size w w' := by
 have HXP_0 := A_ hxp_0
 have HXP_1 := A_ hxp_1
 have HXP_2 := A_ hxp_2
 have HXP_3 := A_ hxp_3
 have HLP := A_ (show p.block < w.heap.size from World.block_lt_of_cell? w _ hxp_0)
 clear hxp_0 hxp_1 hxp_2 hxp_3
 have Al := A_ Ag
 have Am := A_ Ah
 clear Ag Ah
 have HB := A_ (Below.refl w.heap.size w)
 unfold spec_l5Head.f at h; have H := h; clear h
 obtain ⟨Aj, An, H⟩ := bi_ H
 (try dsimp only at H)
 have A2 := A_ An
 clear An
 by_cases c3 : Aj = true
 ·
  subst c3; rw [if_pos rfl] at H; obtain ⟨Ak, A4, H⟩ := bj_ H; (try dsimp only at H)
  by_cases c5 : Ak = true
  ·
   subst c5; rw [if_pos rfl] at H; obtain ⟨Ai, A6, H⟩ := bj_ H; replace H : (some Ai) = some r := H; obtain rfl := Option.some.inj H; have hcz7_0 : w.cell? p = some (.int .i64 Aa) := (HB.out.cell (p := p) HLP.out).trans HXP_0.out; have hcz7_1 : w.cell? ⟨p.block, p.off + 1, none⟩ = some (.int .i64 Ac) := (HB.out.cell (p := ⟨p.block, p.off + 1, none⟩) HLP.out).trans HXP_1.out; have hcz7_2 : w.cell? ⟨p.block, p.off + 2, none⟩ = some (.int .i64 Ad) := (HB.out.cell (p := ⟨p.block, p.off + 2, none⟩) HLP.out).trans HXP_2.out; have hcz7_3 : w.cell? ⟨p.block, p.off + 3, none⟩ = some (.slice Ae Ab.length Af) := (HB.out.cell (p := ⟨p.block, p.off + 3, none⟩) HLP.out).trans HXP_3.out
   go_enter Try.func66, Try.ntmps66
   go_wp2_with (first | ((with_reducible refine f1_ 95 ?_); refine gl_ (some 7) Try.func95 #[.int .i64 Aa, .int .i64 1, .int .i64 255] ?_; (with_reducible refine (spec_l1In.calls Aa 1 255 true _ A2.out).mono ?_); rintro e w' ⟨rfl, ⟨nd, rfl⟩⟩; refine ⟨_, rfl, ?_⟩) | (go_at_call 95; (with_reducible refine (spec_l1In.calls Ac 0 15 true _ A4.out).mono ?_); rintro e w' ⟨rfl, ⟨nd, rfl⟩⟩) | (go_at_call 95; (with_reducible refine (spec_l1In.calls Ad 0 1000000000 Ai _ A6.out).mono ?_); rintro e w' ⟨rfl, ⟨nd, rfl⟩⟩))
   go_ret
   exact ⟨eq_a, below_a⟩
  replace c5 := Bool.eq_false_iff.mpr c5; subst c5; rw [if_neg ff_] at H; obtain rfl := Option.some.inj H; have hcz8_0 : w.cell? p = some (.int .i64 Aa) := (HB.out.cell (p := p) HLP.out).trans HXP_0.out; have hcz8_1 : w.cell? ⟨p.block, p.off + 1, none⟩ = some (.int .i64 Ac) := (HB.out.cell (p := ⟨p.block, p.off + 1, none⟩) HLP.out).trans HXP_1.out; have hcz8_2 : w.cell? ⟨p.block, p.off + 2, none⟩ = some (.int .i64 Ad) := (HB.out.cell (p := ⟨p.block, p.off + 2, none⟩) HLP.out).trans HXP_2.out; have hcz8_3 : w.cell? ⟨p.block, p.off + 3, none⟩ = some (.slice Ae Ab.length Af) := (HB.out.cell (p := ⟨p.block, p.off + 3, none⟩) HLP.out).trans HXP_3.out
  go_enter Try.func66, Try.ntmps66
  go_wp2_with (first | ((with_reducible refine f1_ 95 ?_); refine gl_ (some 7) Try.func95 #[.int .i64 Aa, .int .i64 1, .int .i64 255] ?_; (with_reducible refine (spec_l1In.calls Aa 1 255 true _ A2.out).mono ?_); rintro e w' ⟨rfl, ⟨nd, rfl⟩⟩; refine ⟨_, rfl, ?_⟩) | (go_at_call 95; (with_reducible refine (spec_l1In.calls Ac 0 15 false _ A4.out).mono ?_); rintro e w' ⟨rfl, ⟨nd, rfl⟩⟩))
  go_ret
  exact ⟨eq_a, below_a⟩
 replace c3 := Bool.eq_false_iff.mpr c3; subst c3; rw [if_neg ff_] at H; obtain rfl := Option.some.inj H; have hcz9_0 : w.cell? p = some (.int .i64 Aa) := (HB.out.cell (p := p) HLP.out).trans HXP_0.out; have hcz9_1 : w.cell? ⟨p.block, p.off + 1, none⟩ = some (.int .i64 Ac) := (HB.out.cell (p := ⟨p.block, p.off + 1, none⟩) HLP.out).trans HXP_1.out; have hcz9_2 : w.cell? ⟨p.block, p.off + 2, none⟩ = some (.int .i64 Ad) := (HB.out.cell (p := ⟨p.block, p.off + 2, none⟩) HLP.out).trans HXP_2.out; have hcz9_3 : w.cell? ⟨p.block, p.off + 3, none⟩ = some (.slice Ae Ab.length Af) := (HB.out.cell (p := ⟨p.block, p.off + 3, none⟩) HLP.out).trans HXP_3.out
 go_enter Try.func66, Try.ntmps66
 go_wp2_with (first | ((with_reducible refine f1_ 95 ?_); refine gl_ (some 7) Try.func95 #[.int .i64 Aa, .int .i64 1, .int .i64 255] ?_; (with_reducible refine (spec_l1In.calls Aa 1 255 false _ A2.out).mono ?_); rintro e w' ⟨rfl, ⟨nd, rfl⟩⟩; refine ⟨_, rfl, ?_⟩))
 go_ret
 exact ⟨eq_a, below_a⟩
def spec_ReadHead.f (k : Nat) (l0 : List Int) : Option (Int × Int × Int × Int × List Int) := if (l0.length : Int) < 11 then (some (2, 0, 0, 0, ([] : List Int))) else (if 0 < (l0.length : Int) then (if (rd l0 0) = 1 then (if 1 < (l0.length : Int) then (if 2 < (l0.length : Int) then (if 3 < (l0.length : Int) then (if (rd l0 3) > 127 then (some (3, 0, 0, 0, ([] : List Int))) else ((spec_l1Read.f k l0 3 8).bind fun Aa => ((spec_l5Head.f (wrap64 (rd l0 1)) (wrap64 (rd l0 2)) Aa ([] : List Int)).bind fun Ab => (if Ab = true then (some (0, wrap64 (rd l0 1), wrap64 (rd l0 2), Aa, ([] : List Int))) else (some (3, 0, 0, 0, ([] : List Int))))))) else (none)) else (none)) else (none)) else (some (1, 0, 0, 0, ([] : List Int)))) else (none))
def spec_ReadHead.T5 : Bool × List (List Nat × List Nat) := (true, [([], []), ([0], [0]), ([1], [1]), ([2], [2]), ([], []), ([4], [4]), ([5], [5]), ([6], [6]), ([3, 7], [3, 7]), ([], []), ([9, 8, 0, 1, 2, 3, 4, 5, 6, 7, 8, 9], [8, 9])])
def spec_ReadHead.B5 : List Nat := [0, 1, 3, 7, 0, 16, 48, 112, 255, 0, 1023]
theorem spec_ReadHead.tab5 : rtab .any (opsOf Try.f25 5) = spec_ReadHead.T5 := by kernel_rfl
theorem spec_ReadHead.bits5 : waitsOk spec_ReadHead.T5.2 spec_ReadHead.B5 = true := by kernel_rfl
theorem spec_ReadHead.calls (k : Nat) (A0 : Option Addr) (c0 : Nat) (l0 : List Int) (r1 : Int) (r2 : Int) (r3 : Int) (r4 : Int) (r5 : List Int) (w : World) (Bn : Kd.C (Kd.int .u8) w A0 l0.length l0) (Bo : l0.length ≤ c0) (h : spec_ReadHead.f k l0 = some (r1, r2, r3, r4, r5)) :
  Calls Try.prog 25 #[.slice A0 l0.length c0] w fun e w' => ∃ v4_ : Value, e = .returned (.agg #[.int .i64 r1, .int .i64 r2, .int .i64 r3, .int .i64 r4, v4_]) ∧ Kd.R (Kd.int .u8) 5 w' w.heap.size (fun _ => True) v4_ r5 ∧ Below w.heap.size w w' := by
 have hu30 := Try.underlying30
 have hu28 := Try.underlying28
 have A7 := A_ Bn
 have Bx := A_ Bo
 clear Bn Bo
 have HB := A_ (Below.refl w.heap.size w)
 unfold spec_ReadHead.f at h; have H := h; clear h
 have Bp := A_ H
 clear H
 go_enter Try.func25, Try.ntmps25
 go_upto_if 6 with (first | ((with_reducible refine d1_ 2 ?_); refine by_ 2 (#[.int .i64 0, .int .i64 0, .int .i64 0, .int .i64 0, .slice none 0 0]) 30 ?_; intro Al hg w3 hbox hb; have Ah := A_ (hbox); have Bq := gw_ (w := w) hg; replace HB := bs_ hb; clear hb hbox hg))
 (try simp only [P4_])
 have H := Bp.out
 clear Bp
 by_cases c4 : (l0.length : Int) < 11
 ·
  rw [if_pos c4] at H; have Ax := decide_eq_true c4; have Bh : decide (l0.length < 11) = true := decide_eq_true (by omega); clear c4; (first | rw [Ax] | (simp only [i64_w, i32_w]; rw [Ax]) | skip); obtain ⟨rfl, rfl, rfl, rfl, rfl⟩ := s5_ H; have := bc5_ Ah.out
  go_wp2
  refine bodyPost_ret (v := .agg #[.int .i64 2, .int .i64 0, .int .i64 0, .int .i64 0, .slice none 0 0]) ?_ rfl ?_; exact rc_ Al Try.underlying30; exact ⟨_, eq_a, by first | exact Kd.R_nil _ _ _ _ _ | exact Kd.N_nil _ _ _ _ _ | exact Kd.V_nil _ _ _ _ _ | exact Kd.Q_nil _ _ _ _ _ | exact Kd.S_nil _ _ _ _ _, below_a⟩
 rw [if_neg c4] at H; have Ax := decide_eq_false c4; have Bh : decide (l0.length < 11) = false := decide_eq_false (by omega); clear c4; (first | rw [Ax] | (simp only [i64_w, i32_w]; rw [Ax]) | skip)
 obtain ⟨c6, H⟩ := iq_ H; have Bz := decide_eq_true c6; have B0 : decide (0 < l0.length) = true := decide_eq_true (by omega); clear c6
 by_cases c7 : (rd l0 0) = 1
 ·
  rw [if_pos c7] at H; obtain ⟨Bi, Bj⟩ := be_ c7; clear c7
  obtain ⟨c8, H⟩ := iq_ H; have B3 := decide_eq_true c8; have B4 : decide (1 < l0.length) = true := decide_eq_true (by omega); clear c8
  obtain ⟨c9, H⟩ := iq_ H; have Ca := decide_eq_true c9; have Cb : decide (2 < l0.length) = true := decide_eq_true (by omega); clear c9
  obtain ⟨Br, H⟩ := iq_ H; have Bs := decide_eq_true Br; have Bt : decide (3 < l0.length) = true := decide_eq_true (by omega); clear Br; have A9 := A_ H; clear H; have Au : 0 ≤ (0 : Int) := (by omega); have Av : 0 < (l0.length : Int) := od_; obtain ⟨Ag, Ay, Af⟩ := Kd.at_int A7.out 0 Au Av
  cases Ay
  have Ba : (0 < l0.length) = True := eq_true (by omega); (try rw [show ((0 : Int)).toNat = 0 from rfl] at Af); (try rw [Addr.add_zero'] at Af); replace Af := hc_ HB Af; replace Au := eq_true Au; replace Av := eq_true Av
  try go_wp2
  replace Ah := bd_ Ah; replace HB := A_ (below_drew1 HB.out); have Az : 0 ≤ (1 : Int) := (by omega); have A1 : 1 < (l0.length : Int) := od_; obtain ⟨Bb, Bk, Ai⟩ := Kd.at_int A7.out 1 Az A1; have Aa := Ai; (try rw [show ((1 : Int)).toNat = 1 from rfl] at Aa); (try rw [show 1 * 1 = 1 from rfl] at Aa); (try simp only [Nat.reduceMul, Nat.reduceEqDiff, Go.Addr.add, ↓reduceIte] at Aa); obtain rfl : Ag = Bb := (by injection Bk); (try simp only [show (1 : Int).toNat = 1 from rfl, Nat.reduceMul, Nat.reduceEqDiff, Go.Addr.add, ↓reduceIte] at Ai); have Bu : (1 < l0.length) = True := eq_true (by omega); (try rw [show ((1 : Int)).toNat = 1 from rfl] at Ai); replace Ai := hc_ HB Ai; replace Az := eq_true Az; replace A1 := eq_true A1; have A3 : 0 ≤ (2 : Int) := (by omega); have A4 : 2 < (l0.length : Int) := od_; obtain ⟨Bc, Bl, Aj⟩ := Kd.at_int A7.out 2 A3 A4; have Ab := Aj; (try rw [show ((2 : Int)).toNat = 2 from rfl] at Ab); (try rw [show 2 * 1 = 2 from rfl] at Ab); (try simp only [Nat.reduceMul, Nat.reduceEqDiff, Go.Addr.add, ↓reduceIte] at Ab); obtain rfl : Ag = Bc := (by injection Bl); (try simp only [show (2 : Int).toNat = 2 from rfl, Nat.reduceMul, Nat.reduceEqDiff, Go.Addr.add, ↓reduceIte] at Aj); have Bv : (2 < l0.length) = True := eq_true (by omega); (try rw [show ((2 : Int)).toNat = 2 from rfl] at Aj); replace Aj := hc_ HB Aj; replace A3 := eq_true A3; replace A4 := eq_true A4; refine start_ (n := 11) (S := fun w' => w'.cell? ⟨Ag.block, Ag.off + 1, none⟩ = some (.int .u8 (rd l0 1)) ∧ w'.cell? ⟨Ag.block, Ag.off + 2, none⟩ = some (.int .u8 (rd l0 2))) (ds := []) (rl_ [0, 11]) (by kernel_rfl) rfl rfl ⟨((HB.out.cell (World.block_lt_of_cell? w _ Aa)).trans Aa), ((HB.out.cell (World.block_lt_of_cell? w _ Ab)).trans Ab)⟩ (fun hHeld => ?_); refine with_tabW spec_ReadHead.tab5 spec_ReadHead.bits5 (fun HT_ HW_ => ?_); generalize w3.drew = Ce at Ah HB Ai Aj hHeld ⊢; refine p1_ 0 (rl_ [1, 10]) HT_ ?_
  refine p1_ 1 (rl_ [2, 9]) HT_ ?_
  refine p1_ 4 (rl_ [2, 2, 1, 6]) HT_ ?_
  refine p1_ 5 (rl_ [2, 2, 2, 5]) HT_ ?_
  refine t1_ 2 (rl_ [3, 1, 2, 5]) HT_ HW_ hHeld ?_
  refine p1_ 3 (rl_ [6, 5]) HT_ ?_
  refine t1_ 6 (rl_ [7, 4]) HT_ HW_ hHeld ?_
  refine p1_ 7 (rl_ [8, 3]) HT_ ?_
  refine p1_ 8 (rl_ [9, 2]) HT_ ?_
  refine o1_ 9 (rl_ [10, 1]) HT_ fun K hK => ?_; refine b1_ 3 #[.int .i64 0, .int .i64 0, .int .i64 0, .slice none 0 0] 28 ?_; intro Ae hg Cf hbox hb; have Aw := A_ (hbox); have Ac := gw_ (w := w) hg; obtain ⟨Ak, Aq⟩ := bu_ Al hg; replace Ah := bw_ Al hb; replace HB := bs_ hb; clear hb hbox hg; refine k1_ hK ⟨((HB.out.cell (World.block_lt_of_cell? w _ Aa)).trans Aa), ((HB.out.cell (World.block_lt_of_cell? w _ Ab)).trans Ab)⟩ (fun hHeld => ?_); clear hK K; refine o1_ 10 (rl_ [11]) HT_ fun K hK => ?_; have := bc4_ Aw.out; have := nn_ Ak; refine skip_ (w1 := ?_) (by rfl) rfl ?_ ?_; rotate_left
  ·
   go_simp
   rfl
  refine hK.out _ _ ⟨((cell_far (p := ⟨Ae, _, none⟩) (by first | exact nf_ Aa Ac.out | (rw [add_block]; exact nf_ Aa Ac.out) | (show (Addr.add _ _).block ≠ _; rw [add_block]; exact nf_ Aa Ac.out) | (dsimp only; exact nf_ Aa Ac.out)) _).trans (((cell_far (p := ⟨Ae, _, none⟩) (by first | exact nf_ Aa Ac.out | (rw [add_block]; exact nf_ Aa Ac.out) | (show (Addr.add _ _).block ≠ _; rw [add_block]; exact nf_ Aa Ac.out) | (dsimp only; exact nf_ Aa Ac.out)) _).trans (((cell_far (p := ⟨Ae, _, none⟩) (by first | exact nf_ Aa Ac.out | (rw [add_block]; exact nf_ Aa Ac.out) | (show (Addr.add _ _).block ≠ _; rw [add_block]; exact nf_ Aa Ac.out) | (dsimp only; exact nf_ Aa Ac.out)) _).trans (((cell_far (p := ⟨Ae, _, none⟩) (by first | exact nf_ Aa Ac.out | (rw [add_block]; exact nf_ Aa Ac.out) | (show (Addr.add _ _).block ≠ _; rw [add_block]; exact nf_ Aa Ac.out) | (dsimp only; exact nf_ Aa Ac.out)) _).trans (hHeld.1)))))))), ((cell_far (p := ⟨Ae, _, none⟩) (by first | exact nf_ Ab Ac.out | (rw [add_block]; exact nf_ Ab Ac.out) | (show (Addr.add _ _).block ≠ _; rw [add_block]; exact nf_ Ab Ac.out) | (dsimp only; exact nf_ Ab Ac.out)) _).trans (((cell_far (p := ⟨Ae, _, none⟩) (by first | exact nf_ Ab Ac.out | (rw [add_block]; exact nf_ Ab Ac.out) | (show (Addr.add _ _).block ≠ _; rw [add_block]; exact nf_ Ab Ac.out) | (dsimp only; exact nf_ Ab Ac.out)) _).trans (((cell_far (p := ⟨Ae, _, none⟩) (by first | exact nf_ Ab Ac.out | (rw [add_block]; exact nf_ Ab Ac.out) | (show (Addr.add _ _).block ≠ _; rw [add_block]; exact nf_ Ab Ac.out) | (dsimp only; exact nf_ Ab Ac.out)) _).trans (((cell_far (p := ⟨Ae, _, none⟩) (by first | exact nf_ Ab Ac.out | (rw [add_block]; exact nf_ Ab Ac.out) | (show (Addr.add _ _).block ≠ _; rw [add_block]; exact nf_ Ab Ac.out) | (dsimp only; exact nf_ Ab Ac.out)) _).trans (hHeld.2))))))))⟩ (fun hHeld => ?_); clear hK K; refine done_ (done_of HT_.out (by kernel_rfl)) ?_; have A5 : 0 ≤ (3 : Int) := (by omega); have A6 : 3 < (l0.length : Int) := od_; obtain ⟨Bd, Bm, Ad⟩ := Kd.at_int A7.out 3 A5 A6; obtain rfl : Ag = Bd := (by injection Bm); (try simp only [show (3 : Int).toNat = 3 from rfl, Nat.reduceMul, Nat.reduceEqDiff, Go.Addr.add, ↓reduceIte] at Ad); have Bw : (3 < l0.length) = True := eq_true (by omega); (try rw [show ((3 : Int)).toNat = 3 from rfl] at Ad); have Am : Ag.block ≠ Ae := Nat.ne_of_lt (Nat.lt_of_lt_of_le (by have := World.block_lt_of_cell? _ _ Ad; first | rwa [add_block] at this | exact this) Ac.out); have An : Ag.block ≠ Ae := Nat.ne_of_lt (Nat.lt_of_lt_of_le (by have := World.block_lt_of_cell? _ _ Ad; first | rwa [add_block] at this | exact this) Ac.out); have Ao : Ag.block ≠ Ae := Nat.ne_of_lt (Nat.lt_of_lt_of_le (by have := World.block_lt_of_cell? _ _ Ad; first | rwa [add_block] at this | exact this) Ac.out); have Ap : Ag.block ≠ Ae := Nat.ne_of_lt (Nat.lt_of_lt_of_le (by have := World.block_lt_of_cell? _ _ Ad; first | rwa [add_block] at this | exact this) Ac.out); replace Ad := hc_ HB Ad; replace Ad := (cell_far (p := ⟨Ae, 0, none⟩) (by first | (rw [add_block]; exact Am) | (show (Addr.add _ _).block ≠ _; rw [add_block]; exact Am) | exact Am) (.int .i64 (wrap64 (rd l0 1)))).trans Ad; replace Ad := (cell_far (p := ⟨Ae, 1, none⟩) (by first | (rw [add_block]; exact An) | (show (Addr.add _ _).block ≠ _; rw [add_block]; exact An) | exact An) (.int .i64 (wrap64 (rd l0 2)))).trans Ad; replace Ad := (cell_far (p := ⟨Ae, 2, none⟩) (by first | (rw [add_block]; exact Ao) | (show (Addr.add _ _).block ≠ _; rw [add_block]; exact Ao) | exact Ao) (.int .i64 0)).trans Ad; replace Ad := (cell_far (p := ⟨Ae, 3, none⟩) (by first | (rw [add_block]; exact Ap) | (show (Addr.add _ _).block ≠ _; rw [add_block]; exact Ap) | exact Ap) (.slice none 0 0)).trans Ad; clear Am An Ao Ap; replace A5 := eq_true A5; replace A6 := eq_true A6
  go_upto_if 25 with (fail)
  have H := A9.out; clear A9
  by_cases A8 : (rd l0 3) > 127
  ·
   rw [if_pos A8] at H; have Ar := dt_ A8; clear A8; (first | rw [Ar] | (simp only [i64_w, i32_w]; rw [Ar]) | skip); obtain ⟨rfl, rfl, rfl, rfl, rfl⟩ := s5_ H; have := nn_ Ak; have := bc5_ Ah.out
   go_wp2
   refine bodyPost_ret (results_cell_row rfl _ _ Al 30 #[.int .i64 3, .int .i64 0, .int .i64 0, .int .i64 0, .slice none 0 0] (0, 0) _ rfl (by (with_reducible repeat (first | refine blk_drewN ?_ _ | refine blk_drew ?_ | refine blk_alloc ?_ _)); refine bp5_ (cs := #[.int .i64 0, .int .i64 0, .int .i64 0, .int .i64 0, .slice none 0 0]) ?_ rfl; (iterate 4 ((with_reducible repeat (first | refine blk_drewN ?_ _ | refine blk_drew ?_ | refine blk_alloc ?_ _)); refine blk_far ?_ Ak.out _)); exact bl_ Ah.out) Try.underlying30 rfl (by kernel_rfl)) rfl ?_; exact ⟨_, eq_a, by first | exact Kd.R_nil _ _ _ _ _ | exact Kd.N_nil _ _ _ _ _ | exact Kd.V_nil _ _ _ _ _ | exact Kd.Q_nil _ _ _ _ _ | exact Kd.S_nil _ _ _ _ _, below_a⟩
  rw [if_neg A8] at H; have Ar := df_ A8; clear A8; (first | rw [Ar] | (simp only [i64_w, i32_w]; rw [Ar]) | skip); obtain ⟨As, Cc, H⟩ := bj_ H; (try dsimp only at H); obtain ⟨Be, Cd, H⟩ := bj_ H; (try dsimp only at H); have Bf := A_ H; clear H
  go_upto_if 31 with (first | ((with_reducible refine f1_ 65 ?_); refine gl_ (some 28) Try.func65 #[.slice (some Ag) l0.length c0, .int .i64 3, .int .i64 8] ?_; (with_reducible refine (spec_l1Read.calls k _ _ l0 3 8 As _ ?_ ?_ Cc.out).mono ?_); exact Kd.C_below A7.out below_a; exact Bx.out; rintro e w' ⟨rfl, ⟨nd, rfl⟩⟩; refine ⟨_, rfl, ?_⟩; have := nn_ Aq; have := bc4_ Aw.out) | (go_at_call 66; (refine (spec_l5Head.calls _ (wrap64 (rd l0 1)) (wrap64 (rd l0 2)) As none 0 [] Be _ ?_ ?_ ?_ ?_ ?_ ?_ Cd.out).mono ?_); exact Kd.C_nil _ _; exact Nat.le_refl _; exact (blk_cell (cs := #[.int .i64 (wrap64 (rd l0 1)), .int .i64 (wrap64 (rd l0 2)), .int .i64 As, .slice none 0 0]) (t := 28) bk_a 0).trans rfl; exact (blk_cell (cs := #[.int .i64 (wrap64 (rd l0 1)), .int .i64 (wrap64 (rd l0 2)), .int .i64 As, .slice none 0 0]) (t := 28) bk_a 1).trans rfl; exact (blk_cell (cs := #[.int .i64 (wrap64 (rd l0 1)), .int .i64 (wrap64 (rd l0 2)), .int .i64 As, .slice none 0 0]) (t := 28) bk_a 2).trans rfl; exact (blk_cell (cs := #[.int .i64 (wrap64 (rd l0 1)), .int .i64 (wrap64 (rd l0 2)), .int .i64 As, .slice none 0 0]) (t := 28) bk_a 3).trans rfl; rintro e Cg ⟨rfl, hb⟩; replace Aw := A_ (blk_below (g := Ae) (o := .cells #[.int .i64 (wrap64 (rd l0 1)), .int .i64 (wrap64 (rd l0 2)), .int .i64 As, .slice none 0 0] 28 (0, 0)) bk_a hb); replace HB := bs_ hb; replace Ah := bw_ Al hb; (try clear hb)))
  (try simp only [P4_]); have H := Bf.out; clear Bf
  by_cases Bg : Be = true
  ·
   subst Bg; rw [if_pos rfl] at H; obtain ⟨rfl, rfl, rfl, rfl, rfl⟩ := s5_ H; have := nn_ Aq; have := bc4_ Aw.out; have := bc5_ Ah.out
   go_wp2
   try simp only [i64_w]
   refine bodyPost_ret (v := .agg #[.int .i64 0, .int .i64 (wrap64 (rd l0 1)), .int .i64 (wrap64 (rd l0 2)), .int .i64 As, .slice none 0 0]) ?_ rfl ?_; exact rc_ Al Try.underlying30; exact ⟨_, eq_a, by first | exact Kd.R_nil _ _ _ _ _ | exact Kd.N_nil _ _ _ _ _ | exact Kd.V_nil _ _ _ _ _ | exact Kd.Q_nil _ _ _ _ _ | exact Kd.S_nil _ _ _ _ _, below_a⟩
  replace Bg := Bool.eq_false_iff.mpr Bg; subst Bg; rw [if_neg ff_] at H; obtain ⟨rfl, rfl, rfl, rfl, rfl⟩ := s5_ H; have := nn_ Ak; have := bc5_ Ah.out
  go_wp2
  refine bodyPost_ret (v := .agg #[.int .i64 3, .int .i64 0, .int .i64 0, .int .i64 0, .slice none 0 0]) ?_ rfl ?_; exact rc_ Al Try.underlying30; exact ⟨_, eq_a, by first | exact Kd.R_nil _ _ _ _ _ | exact Kd.N_nil _ _ _ _ _ | exact Kd.V_nil _ _ _ _ _ | exact Kd.Q_nil _ _ _ _ _ | exact Kd.S_nil _ _ _ _ _, below_a⟩
 rw [if_neg c7] at H; obtain ⟨Bi, Bj⟩ := nb_ c7; obtain ⟨rfl, rfl, rfl, rfl, rfl⟩ := s5_ H; have Au : 0 ≤ (0 : Int) := (by omega); have Av : 0 < (l0.length : Int) := od_; obtain ⟨Ag, Ay, Af⟩ := Kd.at_int A7.out 0 Au Av
 cases Ay
 have Ba : (0 < l0.length) = True := eq_true (by omega); (try rw [show ((0 : Int)).toNat = 0 from rfl] at Af); (try rw [Addr.add_zero'] at Af); replace Af := hc_ HB Af; replace Au := eq_true Au; replace Av := eq_true Av; have := bc5_ Ah.out
 go_wp2
 refine bodyPost_ret (v := .agg #[.int .i64 1, .int .i64 0, .int .i64 0, .int .i64 0, .slice none 0 0]) ?_ rfl ?_; exact rc_ Al Try.underlying30; exact ⟨_, eq_a, by first | exact Kd.R_nil _ _ _ _ _ | exact Kd.N_nil _ _ _ _ _ | exact Kd.V_nil _ _ _ _ _ | exact Kd.Q_nil _ _ _ _ _ | exact Kd.S_nil _ _ _ _ _, below_a⟩
def spec_l4Find.l0 : Nat → Int → Int → Int → List (S59) → Option (Int)
 | 0, _, _, _, _ => none
 | k + 1, x1, x5, Ab, Aa => if x5 < (Aa.length : Int) then (if 0 ≤ x5 then (if ((rd_T59 Aa x5).f0) = x1 then (some x5) else (spec_l4Find.l0 k x1 (wrap64 (x5 + 1)) Ab Aa)) else (none)) else (some (-1))
def spec_l4Find.f (k : Nat) (a0_0 : Int) (l0_1 : List (S59)) (a1 : Int) : Option (Int) := spec_l4Find.l0 k a1 0 a0_0 l0_1
theorem spec_l4Find.calls (k : Nat) (p : Addr) (Ai : Int) (Aj : Option Addr) (Ak : Nat) (Ae : List (S59)) (a1 : Int) (r : Int) (w : World) (An : Kd.C k59 w Aj Ae.length Ae) (Ao : Ae.length ≤ Ak) (hxp_0 : w.cell? p = some (.int .i64 Ai)) (hxp_1 : w.cell? ⟨p.block, p.off + 1, none⟩ = some (.slice Aj Ae.length Ak)) (h : spec_l4Find.f k Ai Ae a1 = some r) :
  Calls Try.prog 35 #[.pointer (some p), .int .i64 a1] w fun e w' => e = .returned (.int .i64 r) ∧ Below w.heap.size w w' := by
 have HXP_0 := A_ hxp_0
 have HXP_1 := A_ hxp_1
 have HLP := A_ (show p.block < w.heap.size from World.block_lt_of_cell? w _ hxp_0)
 clear hxp_0 hxp_1
 have Ap := A_ An
 have Ay := A_ Ao
 clear An Ao
 have HB := A_ (Below.refl w.heap.size w)
 unfold spec_l4Find.f at h; have H := h; clear h
 have H' := A_ H
 clear H
 go_enter Try.func35, Try.ntmps35
 go_wp2
 go_loopg [5] k (fun kq v5 w' => ∃ (Af : Int), v5 = .int .i64 Af ∧ Aside0 (spec_l4Find.l0 kq a1 Af Ai Ae = some r) ∧ Aside0 (kq ≤ k) ∧ Aside0 (Below w.heap.size w w'))
 case atStart => exact ⟨(0), eq_b, H', ⟨Nat.le_refl _⟩, ⟨below_a⟩⟩
 case round =>
  clear H'
  try clear p2
  obtain ⟨Af, rfl, HA, HK1, HB⟩ := hrel
  cases gk with
  | zero => exact absurd HA.out (by simp [spec_l4Find.l0])
  | succ k1 =>
   have H := HA.out; clear HA; simp only [spec_l4Find.l0] at H
   by_cases c3 : Af < (Ae.length : Int)
   ·
    rw [if_pos c3] at H; have Av := decide_eq_true c3; clear c3
    obtain ⟨c4, H⟩ := iq_ H; have Az := decide_eq_true c4; clear c4
    by_cases c5 : ((rd_T59 Ae Af).f0) = a1
    ·
     rw [if_pos c5] at H; obtain ⟨Aw, Ax⟩ := be_ c5; clear c5; obtain rfl := Option.some.inj H; have hcz6_0 : wr.cell? p = some (.int .i64 Ai) := (HB.out.cell (p := p) HLP.out).trans HXP_0.out; have hcz6_1 : wr.cell? ⟨p.block, p.off + 1, none⟩ = some (.slice Aj Ae.length Ak) := (HB.out.cell (p := ⟨p.block, p.off + 1, none⟩) HLP.out).trans HXP_1.out; have Ag : 0 ≤ (Af : Int) := od_; have Ah : Af < (Ae.length : Int) := od_; obtain ⟨Au, Aq, Ar, As, Aa, Ab, Ac, Ad⟩ := at_T59 Ap.out Af Ag Ah
     cases As
     replace Aa := hc_ HB Aa; replace Ab := hc_ HB Ab; have Al := A_ Ad; have Am := A_ Ac; clear Ad Ac; replace Ag := eq_true Ag; replace Ah := eq_true Ah
     go_wp2
     go_ret
     exact ⟨eq_a, below_a⟩
    rw [if_neg c5] at H; obtain ⟨Aw, Ax⟩ := nb_ c5; have H' := A_ H; clear H; have hcz7_0 : wr.cell? p = some (.int .i64 Ai) := (HB.out.cell (p := p) HLP.out).trans HXP_0.out; have hcz7_1 : wr.cell? ⟨p.block, p.off + 1, none⟩ = some (.slice Aj Ae.length Ak) := (HB.out.cell (p := ⟨p.block, p.off + 1, none⟩) HLP.out).trans HXP_1.out; have Ag : 0 ≤ (Af : Int) := od_; have Ah : Af < (Ae.length : Int) := od_; obtain ⟨Au, Aq, Ar, As, Aa, Ab, Ac, Ad⟩ := at_T59 Ap.out Af Ag Ah
    cases As
    replace Aa := hc_ HB Aa; replace Ab := hc_ HB Ab; have Al := A_ Ad; have Am := A_ Ac; clear Ad Ac; replace Ag := eq_true Ag; replace Ah := eq_true Ah
    go_wp2
    go_roundg k1
    case measure => have := HK1.out; omega
    case rel => exact ⟨(wrap64 (Af + 1)), eq_b, H', ⟨by have := HK1.out; omega⟩, ⟨below_a⟩⟩
   rw [if_neg c3] at H; have Av := decide_eq_false c3; clear c3; obtain rfl := Option.some.inj H; have hcz8_0 : wr.cell? p = some (.int .i64 Ai) := (HB.out.cell (p := p) HLP.out).trans HXP_0.out; have hcz8_1 : wr.cell? ⟨p.block, p.off + 1, none⟩ = some (.slice Aj Ae.length Ak) := (HB.out.cell (p := ⟨p.block, p.off + 1, none⟩) HLP.out).trans HXP_1.out
   go_wp2
   go_ret
   exact ⟨eq_a, below_a⟩
def spec_l4Key.f (a0_0 : Int) (l0_1 : List Int) : Option (Int) := (spec_l1In.f a0_0 1 255).bind fun t114 => (if t114 = true then (if (l0_1.length : Int) = 16 then (some 0) else (some 2)) else (some 3))
theorem spec_l4Key.calls (p : Addr) (Ab : Int) (Ac : Option Addr) (Ad : Nat) (Aa : List Int) (r : Int) (w : World) (Ae : Kd.C (Kd.int .u8) w Ac Aa.length Aa) (Af : Aa.length ≤ Ad) (hxp_0 : w.cell? p = some (.int .i64 Ab)) (hxp_1 : w.cell? ⟨p.block, p.off + 1, none⟩ = some (.slice Ac Aa.length Ad)) (h : spec_l4Key.f Ab Aa = some r) :
  Calls Try.prog 73 #[.pointer (some p)] w fun e w' => e = .returned (.int .i64 r) ∧ Below w.heap.size w w' := by
 have HXP_0 := A_ hxp_0
 have HXP_1 := A_ hxp_1
 have HLP := A_ (show p.block < w.heap.size from World.block_lt_of_cell? w _ hxp_0)
 clear hxp_0 hxp_1
 have Aj := A_ Ae
 have Ak := A_ Af
 clear Ae Af
 have HB := A_ (Below.refl w.heap.size w)
 unfold spec_l4Key.f at h; have H := h; clear h
 obtain ⟨Ag, Al, H⟩ := bi_ H
 (try dsimp only at H)
 have A2 := A_ Al
 clear Al
 have Am := A_ H
 clear H
 have hcz4_0 : w.cell? p = some (.int .i64 Ab) := (HB.out.cell (p := p) HLP.out).trans HXP_0.out
 have hcz4_1 : w.cell? ⟨p.block, p.off + 1, none⟩ = some (.slice Ac Aa.length Ad) := (HB.out.cell (p := ⟨p.block, p.off + 1, none⟩) HLP.out).trans HXP_1.out
 go_enter Try.func73, Try.ntmps73
 go_upto_if 8 with (first | ((with_reducible refine f1_ 95 ?_); refine gl_ (some 7) Try.func95 #[.int .i64 Ab, .int .i64 1, .int .i64 255] ?_; (with_reducible refine (spec_l1In.calls Ab 1 255 Ag _ A2.out).mono ?_); rintro e w' ⟨rfl, ⟨nd, rfl⟩⟩; refine ⟨_, rfl, ?_⟩))
 (try simp only [P4_])
 have H := Am.out
 clear Am
 by_cases c5 : Ag = true
 ·
  subst c5; rw [if_pos rfl] at H
  by_cases c6 : (Aa.length : Int) = 16
  ·
   rw [if_pos c6] at H; obtain ⟨Ah, Ai⟩ := be_ c6; clear c6; obtain rfl := Option.some.inj H; have hcz7_0 : w.cell? p = some (.int .i64 Ab) := (HB.out.cell (p := p) HLP.out).trans HXP_0.out; have hcz7_1 : w.cell? ⟨p.block, p.off + 1, none⟩ = some (.slice Ac Aa.length Ad) := (HB.out.cell (p := ⟨p.block, p.off + 1, none⟩) HLP.out).trans HXP_1.out
   go_wp2
   go_ret
   exact ⟨eq_a, below_a⟩
  rw [if_neg c6] at H; obtain ⟨Ah, Ai⟩ := nb_ c6; obtain rfl := Option.some.inj H; have hcz8_0 : w.cell? p = some (.int .i64 Ab) := (HB.out.cell (p := p) HLP.out).trans HXP_0.out; have hcz8_1 : w.cell? ⟨p.block, p.off + 1, none⟩ = some (.slice Ac Aa.length Ad) := (HB.out.cell (p := ⟨p.block, p.off + 1, none⟩) HLP.out).trans HXP_1.out
  go_wp2
  go_ret
  exact ⟨eq_a, below_a⟩
 replace c5 := Bool.eq_false_iff.mpr c5; subst c5; rw [if_neg ff_] at H; obtain rfl := Option.some.inj H
 go_wp2
 go_ret
 exact ⟨eq_a, below_a⟩
mutual
def spec_RingFault.j0 : Nat → Bool → Int → List (S59) → Option (Int)
 | 0, _, _, _ => none
 | k + 1, x15, x116000, x116001 => if x15 = true then (some 2) else (spec_RingFault.l0 k 0 x116000 x116001)
def spec_RingFault.l0 : Nat → Int → Int → List (S59) → Option (Int)
 | 0, _, _, _ => none
 | k + 1, x3, Ab, Aa => if x3 < (Aa.length : Int) then (if 0 ≤ x3 then ((spec_l4Key.f ((rd_T59 Aa x3).f0) ((rd_T59 Aa x3).f1)).bind fun Ac => (if Ac = 0 then (spec_RingFault.l0 k (wrap64 (x3 + 1)) Ab Aa) else (some Ac))) else (none)) else (spec_RingFault.l1 k 1 Ab Aa)
def spec_RingFault.l1 : Nat → Int → Int → List (S59) → Option (Int)
 | 0, _, _, _ => none
 | k + 1, x5, Ab, Aa => if x5 < (Aa.length : Int) then (if 0 ≤ x5 then (if 0 ≤ (wrap64 (x5 - 1)) then (if (wrap64 (x5 - 1)) < (Aa.length : Int) then (if ((rd_T59 Aa x5).f0) ≤ ((rd_T59 Aa (wrap64 (x5 - 1))).f0) then (some 1) else (spec_RingFault.l1 k (wrap64 (x5 + 1)) Ab Aa)) else (none)) else (none)) else (none)) else ((spec_l4Find.f k Ab Aa Ab).bind fun Ac => (if Ac < 0 then (some 4) else (some 0)))
end
def spec_RingFault.f (k : Nat) (a0_0 : Int) (l0_1 : List (S59)) : Option (Int) := if (l0_1.length : Int) < 1 then (spec_RingFault.j0 k true a0_0 l0_1) else (spec_RingFault.j0 k (decide ((l0_1.length : Int) > 3)) a0_0 l0_1)
theorem spec_RingFault.calls (k : Nat) (Ac : Int) (Ad : Option Addr) (Ae : Nat) (Aa : List (S59)) (r : Int) (w : World) (Bm : Kd.C k59 w Ad Aa.length Aa) (Bn : Aa.length ≤ Ae) (h : spec_RingFault.f k Ac Aa = some r) :
  Calls Try.prog 34 #[.agg #[.int .i64 Ac, .slice Ad Aa.length Ae]] w fun e w' => e = .returned (.int .i64 r) ∧ Below w.heap.size w w' := by
 have hu34 := Try.underlying34
 have As := A_ Bm
 have Ba := A_ Bn
 clear Bm Bn
 have HB := A_ (Below.refl w.heap.size w)
 unfold spec_RingFault.f at h; have H := h; clear h
 have Cd := A_ H
 clear H
 go_enter Try.func34, Try.ntmps34
 go_upto_region 1 with (first | ((with_reducible refine d1_ 1 ?_); (try (refine gate_guard (by rfl) ?_; dsimp only)); refine by_ 1 (#[.int .i64 Ac, .slice Ad Aa.length Ae]) 34 ?_; intro Af hg w3 hbox hb; have Ab := A_ (hbox); have Bo := gw_ (w := w) hg; replace HB := bs_ hb; clear hb hbox hg))
 repeat (go_quiet (first | ((with_reducible refine d1_ 1 ?_); (try (refine gate_guard (by rfl) ?_; dsimp only)); refine by_ 1 (#[.int .i64 Ac, .slice Ad Aa.length Ae]) 34 ?_; intro Af hg w3 hbox hb; have Ab := A_ (hbox); have Bo := gw_ (w := w) hg; replace HB := bs_ hb; clear hb hbox hg)); go_upto_region 1 with (first | ((with_reducible refine d1_ 1 ?_); (try (refine gate_guard (by rfl) ?_; dsimp only)); refine by_ 1 (#[.int .i64 Ac, .slice Ad Aa.length Ae]) 34 ?_; intro Af hg w3 hbox hb; have Ab := A_ (hbox); have Bo := gw_ (w := w) hg; replace HB := bs_ hb; clear hb hbox hg)))
 (try simp only [P4_])
 go_cut [15] (fun Cs wc => ∃ (kq : Nat) (A7 : Bool), Cs = .bool A7 ∧ Aside0 (spec_RingFault.j0 kq A7 Ac Aa = some r) ∧ Aside0 (kq ≤ k) ∧ Aside0 (wc.heap[Af]? = some (.cells #[.int .i64 Ac, (.slice Ad Aa.length Ae)] 34 (0, 0))) ∧ Aside0 (Below w.heap.size w wc))
 case first =>
  have H := Cd.out; clear Cd
  by_cases c4 : (Aa.length : Int) < 1
  ·
   rw [if_pos c4] at H; have Ax := decide_eq_true c4; have Bd : decide (Aa.length < 1) = true := decide_eq_true (by omega); clear c4; (first | rw [Ax] | (simp only [i64_w, i32_w]; rw [Ax]) | skip); have H' := A_ H; clear H; obtain ⟨hcz5_0, hcz5_1, hfz5_0, hfz5_1⟩ := bc2_ Ab.out
   go_wp2
   repeat (go_quiet (fail); try go_wp2)
   go_meet
   case rel => exact ⟨_, (true), eq_b, H', ⟨by first | omega | exact Nat.le_refl _⟩, ⟨blk_a⟩, ⟨below_a⟩⟩
  rw [if_neg c4] at H; have Ax := decide_eq_false c4; have Bd : decide (Aa.length < 1) = false := decide_eq_false (by omega); clear c4; (first | rw [Ax] | (simp only [i64_w, i32_w]; rw [Ax]) | skip); have H' := A_ H; clear H; obtain ⟨hcz6_0, hcz6_1, hfz6_0, hfz6_1⟩ := bc2_ Ab.out
  go_wp2
  repeat (go_quiet (fail); try go_wp2)
  go_meet
  case rel => exact ⟨_, (decide ((Aa.length : Int) > 3)), eq_b, H', ⟨by first | omega | exact Nat.le_refl _⟩, ⟨blk_a⟩, ⟨below_a⟩⟩
 case rest =>
  clear Cd
  try clear p2
  try clear c3
  try clear c4 Ax Bd
  try clear hcz5_0 hcz5_1
  try clear hcz6_0 hcz6_1
  try clear hfz5_0 hfz5_1
  try clear hfz6_0 hfz6_1
  obtain ⟨kq, A7, rfl, HA, HJ1, Ab, HB⟩ := hcut
  cases kq with
  | zero => exact absurd HA.out (by simp [spec_RingFault.j0])
  | succ Ci =>
   have H := HA.out; clear HA; simp only [spec_RingFault.j0] at H
   by_cases c7 : A7 = true
   ·
    subst c7; rw [if_pos rfl] at H; obtain rfl := Option.some.inj H
    go_wp2
    repeat (go_quiet (fail); try go_wp2)
    go_ret
    exact ⟨eq_a, below_a⟩
   replace c7 := Bool.eq_false_iff.mpr c7; subst c7; rw [if_neg ff_] at H; have H' := A_ H; clear H
   go_wp2
   repeat (go_quiet (fail); try go_wp2)
   go_loopg [3] Ci (fun kq v3 w' => ∃ (Ai : Int), v3 = .int .i64 Ai ∧ Aside0 (spec_RingFault.l0 kq Ai Ac Aa = some r) ∧ Aside0 (kq ≤ Ci) ∧ Aside0 (w'.heap[Af]? = some (.cells #[.int .i64 Ac, (.slice Ad Aa.length Ae)] 34 (0, 0))) ∧ Aside0 (Below w.heap.size w w'))
   case atStart => exact ⟨(0), eq_b, H', ⟨Nat.le_refl _⟩, ⟨blk_a⟩, ⟨below_a⟩⟩
   case round =>
    clear H'
    try clear p2 p2
    try clear c3
    try clear c4 Ax Bd
    try clear c7
    try clear hcz5_0 hcz5_1
    try clear hcz6_0 hcz6_1
    try clear hfz5_0 hfz5_1
    try clear hfz6_0 hfz6_1
    obtain ⟨Ai, rfl, HA, HK2, Ab, HB⟩ := hrel
    cases gk with
    | zero => exact absurd HA.out (by simp [spec_RingFault.l0])
    | succ k2 =>
     have H := HA.out; clear HA; simp only [spec_RingFault.l0] at H
     by_cases c8 : Ai < (Aa.length : Int)
     ·
      rw [if_pos c8] at H; have B3 := decide_eq_true c8; clear c8
      obtain ⟨c9, H⟩ := iq_ H; have Ce := decide_eq_true c9; clear c9; obtain ⟨Be, Cf, H⟩ := bj_ H; (try dsimp only at H); have B4 := A_ H; clear H; obtain ⟨hcz12_0, hcz12_1, hfz12_0, hfz12_1⟩ := bc2_ Ab.out; have Bf : 0 ≤ (Ai : Int) := od_; have Bg : Ai < (Aa.length : Int) := od_; obtain ⟨Cj, A0, A1, Cg, Ag, Ah, A8, A9⟩ := at_T59 As.out Ai Bf Bg
      cases Cg
      replace Ag := hc_ HB Ag; replace Ah := hc_ HB Ah; have Av := A_ A9; have Aw := A_ A8; clear A9 A8; replace Bf := eq_true Bf; replace Bg := eq_true Bg
      go_upto_if 29 with (first | (go_at_call 73; (with_reducible refine (spec_l4Key.calls _ ((rd_T59 Aa Ai).f0) A0 A1 ((rd_T59 Aa Ai).f1) Be _ ?_ ?_ ?_ ?_ Cf.out).mono ?_); exact ca_ (Kd.C_below Av.out HB.out); exact Aw.out; exact Ag; exact Ah; rintro e Ck ⟨rfl, hb⟩; replace Ab := bw_ Af hb; replace HB := bs_ hb; (try clear hb)))
      repeat (go_quiet (first | (go_at_call 73; (with_reducible refine (spec_l4Key.calls _ ((rd_T59 Aa Ai).f0) A0 A1 ((rd_T59 Aa Ai).f1) Be _ ?_ ?_ ?_ ?_ Cf.out).mono ?_); exact ca_ (Kd.C_below Av.out HB.out); exact Aw.out; exact Ag; exact Ah; rintro e Ck ⟨rfl, hb⟩; replace Ab := bw_ Af hb; replace HB := bs_ hb; (try clear hb))); go_upto_if 29 with (first | (go_at_call 73; (with_reducible refine (spec_l4Key.calls _ ((rd_T59 Aa Ai).f0) A0 A1 ((rd_T59 Aa Ai).f1) Be _ ?_ ?_ ?_ ?_ Cf.out).mono ?_); exact ca_ (Kd.C_below Av.out HB.out); exact Aw.out; exact Ag; exact Ah; rintro e Ck ⟨rfl, hb⟩; replace Ab := bw_ Af hb; replace HB := bs_ hb; (try clear hb))))
      (try simp only [P4_]); have H := B4.out; clear B4
      by_cases Bw : Be = 0
      ·
       rw [if_pos Bw] at H; obtain ⟨Au, Bp⟩ := be_ Bw; clear Bw; (first | rw [Au] | (simp only [i64_w, i32_w]; rw [Au]) | skip); have H' := A_ H; clear H
       go_wp2
       repeat (go_quiet (fail); try go_wp2)
       go_roundg k2
       case measure => have := HJ1.out; have := HK2.out; omega
       case rel => exact ⟨(wrap64 (Ai + 1)), eq_b, H', ⟨by have := HJ1.out; have := HK2.out; omega⟩, ⟨blk_a⟩, ⟨below_a⟩⟩
      rw [if_neg Bw] at H; obtain ⟨Au, Bp⟩ := nb_ Bw; (first | rw [Au] | (simp only [i64_w, i32_w]; rw [Au]) | skip); obtain rfl := Option.some.inj H
      go_wp2
      repeat (go_quiet (fail); try go_wp2)
      go_ret
      exact ⟨eq_a, below_a⟩
     rw [if_neg c8] at H; have B3 := decide_eq_false c8; clear c8; have H' := A_ H; clear H; obtain ⟨hcz15_0, hcz15_1, hfz15_0, hfz15_1⟩ := bc2_ Ab.out
     go_wp2
     repeat (go_quiet (fail); try go_wp2)
     go_loopg [5] k2 (fun kq v5 w' => ∃ (Aj : Int), v5 = .int .i64 Aj ∧ Aside0 (spec_RingFault.l1 kq Aj Ac Aa = some r) ∧ Aside0 (kq ≤ k2) ∧ Aside0 (w'.heap[Af]? = some (.cells #[.int .i64 Ac, (.slice Ad Aa.length Ae)] 34 (0, 0))) ∧ Aside0 (Below w.heap.size w w'))
     case atStart => exact ⟨(1), eq_b, H', ⟨Nat.le_refl _⟩, ⟨blk_a⟩, ⟨below_a⟩⟩
     case round =>
      clear H'
      try clear c1
      try clear p1
      try clear q1
      try clear Cu
      try clear p2 p2
      try clear c3
      try clear c4 Ax Bd
      try clear p6
      try clear c7
      try clear c8 B3
      try clear c9 Ce
      try clear Cv
      try clear Cw
      try clear Cx
      try clear Ct
      try clear Bw Au Bp
      try clear hcz12_0 hcz12_1
      try clear hcz15_0 hcz15_1
      try clear hcz5_0 hcz5_1
      try clear hcz6_0 hcz6_1
      try clear hfz12_0 hfz12_1
      try clear hfz15_0 hfz15_1
      try clear hfz5_0 hfz5_1
      try clear hfz6_0 hfz6_1
      try clear Ag Ah
      try clear Bf
      try clear Bg
      obtain ⟨Aj, rfl, HA, HK3, Ab, HB⟩ := hrel
      cases gk with
      | zero => exact absurd HA.out (by simp [spec_RingFault.l1])
      | succ k3 =>
       have H := HA.out; clear HA; simp only [spec_RingFault.l1] at H
       by_cases Bx : Aj < (Aa.length : Int)
       ·
        rw [if_pos Bx] at H; have Ca := decide_eq_true Bx; clear Bx
        obtain ⟨Cl, H⟩ := iq_ H; have Cm := decide_eq_true Cl; clear Cl; obtain ⟨Ay, hji18⟩ : ∃ j_ : Int, (wrap64 (Aj - 1)) = j_ := ⟨_, rfl⟩; first | rw [hji18] at H | simp only [hji18] at H
        have hji18w : (IntKind.i64.wrap (Aj - 1)) = Ay := (i64_w _).trans hji18
        obtain ⟨Cn, H⟩ := iq_ H; have Co := decide_eq_true Cn; clear Cn
        obtain ⟨Cp, H⟩ := iq_ H; have Cq := decide_eq_true Cp; clear Cp
        by_cases Bz : ((rd_T59 Aa Aj).f0) ≤ ((rd_T59 Aa (Ay)).f0)
        ·
         rw [if_pos Bz] at H; have Cb := decide_eq_true Bz; clear Bz; obtain rfl := Option.some.inj H; have := bc2_ Ab.out; have A3 : 0 ≤ (Aj : Int) := od_; have A4 : Aj < (Aa.length : Int) := od_; obtain ⟨Bb, Bq, Br, Bs, Ak, Al, Am, An⟩ := at_T59 As.out Aj A3 A4
         cases Bs
         replace Ak := hc_ HB Ak; replace Al := hc_ HB Al; have Bh := A_ An; have Bi := A_ Am; clear An Am; replace A3 := eq_true A3; replace A4 := eq_true A4; have A5 : 0 ≤ ((Ay) : Int) := od_; have A6 : (Ay) < (Aa.length : Int) := od_; obtain ⟨Bc, Bt, Bu, Bv, Ao, Ap, Aq, Ar⟩ := at_T59 As.out (Ay) A5 A6; obtain rfl : Bb = Bc := (by injection Bv); replace Ao := hc_ HB Ao; replace Ap := hc_ HB Ap; have Bj := A_ Ar; have Bk := A_ Aq; clear Ar Aq; replace A5 := eq_true A5; replace A6 := eq_true A6
         go_wp2
         repeat (go_quiet (fail); try go_wp2)
         go_ret
         exact ⟨by first | rfl | (simp [errW_none, errW_some] <;> rfl) | (simp only [← hji18]; first | rfl | (simp [errW_none, errW_some] <;> rfl)) | (simp [*, errW_none, errW_some] <;> rfl), below_a⟩
        rw [if_neg Bz] at H; have Cb := decide_eq_false Bz; clear Bz; have H' := A_ H; clear H; have := bc2_ Ab.out; have A3 : 0 ≤ (Aj : Int) := od_; have A4 : Aj < (Aa.length : Int) := od_; obtain ⟨Bb, Bq, Br, Bs, Ak, Al, Am, An⟩ := at_T59 As.out Aj A3 A4
        cases Bs
        replace Ak := hc_ HB Ak; replace Al := hc_ HB Al; have Bh := A_ An; have Bi := A_ Am; clear An Am; replace A3 := eq_true A3; replace A4 := eq_true A4; have A5 : 0 ≤ ((Ay) : Int) := od_; have A6 : (Ay) < (Aa.length : Int) := od_; obtain ⟨Bc, Bt, Bu, Bv, Ao, Ap, Aq, Ar⟩ := at_T59 As.out (Ay) A5 A6; obtain rfl : Bb = Bc := (by injection Bv); replace Ao := hc_ HB Ao; replace Ap := hc_ HB Ap; have Bj := A_ Ar; have Bk := A_ Aq; clear Ar Aq; replace A5 := eq_true A5; replace A6 := eq_true A6
        go_wp2
        repeat (go_quiet (fail); try go_wp2)
        go_roundg k3
        case measure => have := HJ1.out; have := HK2.out; have := HK3.out; omega
        case rel => exact ⟨(wrap64 (Aj + 1)), eq_b, H', ⟨by have := HJ1.out; have := HK2.out; have := HK3.out; omega⟩, ⟨blk_a⟩, ⟨below_a⟩⟩
       rw [if_neg Bx] at H; have Ca := decide_eq_false Bx; clear Bx; obtain ⟨Bl, Ch, H⟩ := bj_ H; (try dsimp only at H); have Cc := A_ H; clear H; have := bc2_ Ab.out
       go_upto_if 55 with (first | (go_at_call 35; (with_reducible refine (spec_l4Find.calls k3 _ Ac Ad Ae Aa Ac Bl _ ?_ ?_ ?_ ?_ Ch.out).mono ?_); exact ca_ (Kd.C_below As.out HB.out); exact Ba.out; exact (blk_cell (cs := #[.int .i64 Ac, .slice Ad Aa.length Ae]) (t := 34) blk_a 0).trans rfl; exact (blk_cell (cs := #[.int .i64 Ac, .slice Ad Aa.length Ae]) (t := 34) blk_a 1).trans rfl; rintro e Cr ⟨rfl, hb⟩; replace Ab := bw_ Af hb; replace HB := bs_ hb; (try clear hb)))
       repeat (go_quiet (first | (go_at_call 35; (with_reducible refine (spec_l4Find.calls k3 _ Ac Ad Ae Aa Ac Bl _ ?_ ?_ ?_ ?_ Ch.out).mono ?_); exact ca_ (Kd.C_below As.out HB.out); exact Ba.out; exact (blk_cell (cs := #[.int .i64 Ac, .slice Ad Aa.length Ae]) (t := 34) blk_a 0).trans rfl; exact (blk_cell (cs := #[.int .i64 Ac, .slice Ad Aa.length Ae]) (t := 34) blk_a 1).trans rfl; rintro e Cr ⟨rfl, hb⟩; replace Ab := bw_ Af hb; replace HB := bs_ hb; (try clear hb))); go_upto_if 55 with (first | (go_at_call 35; (with_reducible refine (spec_l4Find.calls k3 _ Ac Ad Ae Aa Ac Bl _ ?_ ?_ ?_ ?_ Ch.out).mono ?_); exact ca_ (Kd.C_below As.out HB.out); exact Ba.out; exact (blk_cell (cs := #[.int .i64 Ac, .slice Ad Aa.length Ae]) (t := 34) blk_a 0).trans rfl; exact (blk_cell (cs := #[.int .i64 Ac, .slice Ad Aa.length Ae]) (t := 34) blk_a 1).trans rfl; rintro e Cr ⟨rfl, hb⟩; replace Ab := bw_ Af hb; replace HB := bs_ hb; (try clear hb))))
       (try simp only [P4_]); have H := Cc.out; clear Cc
       by_cases B0 : Bl < 0
       ·
        rw [if_pos B0] at H; have Az := decide_eq_true B0; clear B0; (first | rw [Az] | (simp only [i64_w, i32_w]; rw [Az]) | skip); obtain rfl := Option.some.inj H
        go_wp2
        repeat (go_quiet (fail); try go_wp2)
        go_ret
        exact ⟨eq_a, below_a⟩
       rw [if_neg B0] at H; have Az := decide_eq_false B0; clear B0; (first | rw [Az] | (simp only [i64_w, i32_w]; rw [Az]) | skip); obtain rfl := Option.some.inj H
       go_wp2
       repeat (go_quiet (fail); try go_wp2)
       go_ret
       exact ⟨eq_a, below_a⟩
def spec_FieldTimes.l0 : Nat → Int → Int → Int → Int → Option (Int)
 | 0, _, _, _, _ => none
 | k + 1, x0, x1, x5, x6 => if x6 < 8 then (if (Int.tmod x1 2) = 1 then (if x0 ≥ 128 then (spec_FieldTimes.l0 k (Go.bits .xor .u8 ((x0 * 2) % 256) 27) ((Int.tdiv x1 2) % 256) (Go.bits .xor .u8 x5 x0) (wrap64 (x6 + 1))) else (spec_FieldTimes.l0 k ((x0 * 2) % 256) ((Int.tdiv x1 2) % 256) (Go.bits .xor .u8 x5 x0) (wrap64 (x6 + 1)))) else (if x0 ≥ 128 then (spec_FieldTimes.l0 k (Go.bits .xor .u8 ((x0 * 2) % 256) 27) ((Int.tdiv x1 2) % 256) x5 (wrap64 (x6 + 1))) else (spec_FieldTimes.l0 k ((x0 * 2) % 256) ((Int.tdiv x1 2) % 256) x5 (wrap64 (x6 + 1))))) else (some x5)
def spec_FieldTimes.f (k : Nat) (a0 : Int) (a1 : Int) : Option (Int) := spec_FieldTimes.l0 k a0 a1 0 0
theorem spec_FieldTimes.calls (k : Nat) (a0 : Int) (a1 : Int) (r : Int) (w : World) (h : spec_FieldTimes.f k a0 a1 = some r) :
  Calls Try.prog 98 #[.int .u8 a0, .int .u8 a1] w fun e w' => e = .returned (.int .u8 r) ∧ Drawn0 w w' := by
 unfold spec_FieldTimes.f at h; have H := h; clear h
 have H' := A_ H
 clear H
 go_enter Try.func98, Try.ntmps98
 go_wp2
 go_loopg [0, 1, 5, 6] k (fun kq v0 v1 v5 v6 w' => ∃ (Aa : Int) (Ab : Int) (Ad : Int) (Ac : Int), v0 = .int .u8 Aa ∧ v1 = .int .u8 Ab ∧ v5 = .int .u8 Ad ∧ v6 = .int .i64 Ac ∧ Aside0 (spec_FieldTimes.l0 kq Aa Ab Ad Ac = some r) ∧ Aside0 (kq ≤ k) ∧ Drawn0 w w')
 case atStart => exact ⟨(a0), (a1), (0), (0), eq_b, eq_b, eq_b, eq_b, H', ⟨Nat.le_refl _⟩, by repeat (first | exact Drawn0.refl _ | apply Drawn0.step)⟩
 case round =>
  clear H'
  try clear p2
  obtain ⟨Aa, Ab, Ad, Ac, rfl, rfl, rfl, rfl, HA, HK1, ⟨m1, rfl⟩⟩ := hrel
  cases gk with
  | zero => exact absurd HA.out (by simp [spec_FieldTimes.l0])
  | succ k1 =>
   have H := HA.out; clear HA; simp only [spec_FieldTimes.l0] at H
   by_cases c3 : Ac < 8
   ·
    rw [if_pos c3] at H; have Ae := decide_eq_true c3; clear c3
    by_cases c4 : (Int.tmod Ab 2) = 1
    ·
     rw [if_pos c4] at H; obtain ⟨Af, Ag⟩ := be_ c4; clear c4
     by_cases c5 : Aa ≥ 128
     ·
      rw [if_pos c5] at H; have Ah : decide (128 ≤ Aa) = true := decide_eq_true c5; clear c5; have H' := A_ H; clear H
      go_wp2
      go_roundg k1
      case measure => have := HK1.out; omega
      case rel => exact ⟨(Go.bits .xor .u8 ((Aa * 2) % 256) 27), ((Int.tdiv Ab 2) % 256), (Go.bits .xor .u8 Ad Aa), (wrap64 (Ac + 1)), eq_b, eq_b, eq_b, eq_b, H', ⟨by have := HK1.out; omega⟩, by repeat (first | exact Drawn0.refl _ | apply Drawn0.step)⟩
     rw [if_neg c5] at H; have Ah : decide (128 ≤ Aa) = false := decide_eq_false c5; clear c5; have H' := A_ H; clear H
     go_wp2
     go_roundg k1
     case measure => have := HK1.out; omega
     case rel => exact ⟨((Aa * 2) % 256), ((Int.tdiv Ab 2) % 256), (Go.bits .xor .u8 Ad Aa), (wrap64 (Ac + 1)), eq_b, eq_b, eq_b, eq_b, H', ⟨by have := HK1.out; omega⟩, by repeat (first | exact Drawn0.refl _ | apply Drawn0.step)⟩
    rw [if_neg c4] at H; have Af : ((Int.tmod Ab 2) == 1) = false := beq_eq_false_iff_ne.mpr c4; have Ag : ((Int.tmod Ab 2) != 1) = true := bne_iff_ne.mpr c4
    by_cases c6 : Aa ≥ 128
    ·
     rw [if_pos c6] at H; have Ai : decide (128 ≤ Aa) = true := decide_eq_true c6; clear c6; have H' := A_ H; clear H
     go_wp2
     go_roundg k1
     case measure => have := HK1.out; omega
     case rel => exact ⟨(Go.bits .xor .u8 ((Aa * 2) % 256) 27), ((Int.tdiv Ab 2) % 256), (Ad), (wrap64 (Ac + 1)), eq_b, eq_b, eq_b, eq_b, H', ⟨by have := HK1.out; omega⟩, by repeat (first | exact Drawn0.refl _ | apply Drawn0.step)⟩
    rw [if_neg c6] at H; have Ai : decide (128 ≤ Aa) = false := decide_eq_false c6; clear c6; have H' := A_ H; clear H
    go_wp2
    go_roundg k1
    case measure => have := HK1.out; omega
    case rel => exact ⟨((Aa * 2) % 256), ((Int.tdiv Ab 2) % 256), (Ad), (wrap64 (Ac + 1)), eq_b, eq_b, eq_b, eq_b, H', ⟨by have := HK1.out; omega⟩, by repeat (first | exact Drawn0.refl _ | apply Drawn0.step)⟩
   rw [if_neg c3] at H; have Ae := decide_eq_false c3; clear c3; obtain rfl := Option.some.inj H
   go_wp2
   go_ret
   exact ⟨eq_b, by repeat (first | exact Drawn0.refl _ | apply Drawn0.step)⟩
end Go.Proofs.Ytiioiohdifkbgaa.MFnLetters
