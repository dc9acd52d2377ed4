-- Laid by a program of this session (the kit's print, turned where it falls short; the texts of functions that it does not take are proved by hand).
import Derived.Test.YtiioiohdifkbgaaMFnExactOpenLetterx0
import Derived.Test.YtiioiohdifkbgaaMFnExactOpenLetterx1
namespace Go.Proofs.Ytiioiohdifkbgaa.MFnExactOpenLetter
open Go.RowKit Go.Proofs.YtiioiohdifkbgaaW.PrintWords Go.Proofs.YtiioiohdifkbgaaW.PrintLast Go.Proofs.YtiioiohdifkbgaaW.PrintMore
set_option maxHeartbeats 8000000
set_option maxRecDepth 100000
attribute [local go_sem] max2_int min2_int max_two min_two max_three min_three max_four min_four   -- for this text's walks alone
set_option linter.unusedVariables false
set_option linter.unusedSimpArgs false
attribute [local go_sem] isSome_setCell
mutual
def spec_RingFault.j0 : Nat → Bool → Int → List (S59) → Option (Int)
 | 0, _, _, _ => none
 | k + 1, x15, x122000, x122001 => if x15 = true then (some 2) else (spec_RingFault.l0 k 0 x122000 x122001)
def spec_RingFault.l0 : Nat → Int → Int → List (S59) → Option (Int)
 | 0, _, _, _ => none
 | k + 1, x3, x122000, x122001 => if x3 < (x122001.length : Int) then (if 0 ≤ x3 then ((spec_l4Key.f ((rd_T59 x122001 x3).f0) ((rd_T59 x122001 x3).f1)).bind fun t123 => (if t123 = 0 then (spec_RingFault.l0 k (wrap64 (x3 + 1)) x122000 x122001) else (some t123))) else (none)) else (spec_RingFault.l1 k 1 x122000 x122001)
def spec_RingFault.l1 : Nat → Int → Int → List (S59) → Option (Int)
 | 0, _, _, _ => none
 | k + 1, x5, x122000, x122001 => if x5 < (x122001.length : Int) then (if 0 ≤ x5 then (if 0 ≤ (wrap64 (x5 - 1)) then (if (wrap64 (x5 - 1)) < (x122001.length : Int) then (if ((rd_T59 x122001 x5).f0) ≤ ((rd_T59 x122001 (wrap64 (x5 - 1))).f0) then (some 1) else (spec_RingFault.l1 k (wrap64 (x5 + 1)) x122000 x122001)) else (none)) else (none)) else (none)) else ((spec_l4Find.f k x122000 x122001 x122000).bind fun t126 => (if t126 < 0 then (some 4) else (some 0)))
end
def spec_RingFault.f (k : Nat) (a0_0 : Int) (l0_1 : List (S59)) : Option (Int) := if (l0_1.length : Int) < 1 then (spec_RingFault.j0 k true a0_0 l0_1) else (spec_RingFault.j0 k (decide ((l0_1.length : Int) > 3)) a0_0 l0_1)
theorem spec_RingFault.calls (k : Nat) (a0_0 : Int) (A0_1 : Option Addr) (c0_1 : Nat) (l0_1 : List (S59)) (r : Int) (w : World) (hr0_1 : Kd.C k59 w A0_1 l0_1.length l0_1) (hc0_1 : l0_1.length ≤ c0_1) (h : spec_RingFault.f k a0_0 l0_1 = some r) :
  Calls Try.prog 34 #[.agg #[.int .i64 a0_0, .slice A0_1 l0_1.length c0_1]] w fun e w' => e = .returned (.int .i64 r) ∧ Below w.heap.size w w' := by
 have hu34 := Try.underlying34
 have HR0_1 := A_ hr0_1
 have HC0_1 := A_ hc0_1
 clear hr0_1 hc0_1
 have HB := A_ (Below.refl w.heap.size w)
 have H : (if (l0_1.length : Int) < 1 then (spec_RingFault.j0 k true a0_0 l0_1) else (spec_RingFault.j0 k (decide ((l0_1.length : Int) > 3)) a0_0 l0_1)) = some r := h
 clear h
 have HC2 := A_ H
 clear H
 go_enter Try.func34, Try.ntmps34
 go_upto_region 1 with (first | ((with_reducible refine gate_dst (N := 1) rfl ?_); (try (refine gate_guard (by rfl) ?_; dsimp only)); refine bx_ 1 (#[.int .i64 a0_0, .slice A0_1 l0_1.length c0_1]) 34 rfl rfl ?hr ?_; (case hr => go_simp <;> rfl); intro gb121 hg w3 hbox hb; have n0_ := bs_ hb; have BK121 := A_ (hbox); have GW121 := gw_ (w := w) hg; replace HB := n0_; clear n0_; clear hb hbox hg))
 repeat (go_quiet (first | ((with_reducible refine gate_dst (N := 1) rfl ?_); (try (refine gate_guard (by rfl) ?_; dsimp only)); refine bx_ 1 (#[.int .i64 a0_0, .slice A0_1 l0_1.length c0_1]) 34 rfl rfl ?hr ?_; (case hr => go_simp <;> rfl); intro gb121 hg w3 hbox hb; have n0_ := bs_ hb; have BK121 := A_ (hbox); have GW121 := gw_ (w := w) hg; replace HB := n0_; clear n0_; clear hb hbox hg)); go_upto_region 1 with (first | ((with_reducible refine gate_dst (N := 1) rfl ?_); (try (refine gate_guard (by rfl) ?_; dsimp only)); refine bx_ 1 (#[.int .i64 a0_0, .slice A0_1 l0_1.length c0_1]) 34 rfl rfl ?hr ?_; (case hr => go_simp <;> rfl); intro gb121 hg w3 hbox hb; have n0_ := bs_ hb; have BK121 := A_ (hbox); have GW121 := gw_ (w := w) hg; replace HB := n0_; clear n0_; clear hb hbox hg)))
 (try simp only [Act.put, List.setIfInBounds_toArray, List.set_cons_zero, List.set_cons_succ])
 go_cut [15] (fun v15 wc => ∃ (kq : Nat) (x15_1 : Bool), v15 = .bool x15_1 ∧ Aside0 (spec_RingFault.j0 kq x15_1 a0_0 l0_1 = some r) ∧ Aside0 (kq ≤ k) ∧ Aside0 (wc.heap[gb121]? = some (.cells #[.int .i64 a0_0, (.slice A0_1 l0_1.length c0_1)] 34 (0, 0))) ∧ Aside0 (Below w.heap.size w wc))
 case first =>
  have H := HC2.out; clear HC2
  by_cases c4 : (l0_1.length : Int) < 1
  ·
   rw [if_pos c4] at H; have c4b0 : decide ((l0_1.length : Int) < 1) = true := decide_eq_true c4; have c4b1 : decide (l0_1.length < 1) = true := decide_eq_true (by omega); clear c4; (first | rw [c4b0] | (simp only [i64_w, i32_w]; rw [c4b0]) | skip); have H' := A_ H; clear H; obtain ⟨hcz5_0, hcz5_1, hfz5_0, hfz5_1⟩ := bc2_ BK121.out
   go_wp2
   repeat (go_quiet (fail); try go_wp2)
   go_meet
   case rel => exact ⟨_, (true), eq_b, H', ⟨by first | omega | exact Nat.le_refl _⟩, ⟨blk_a⟩, ⟨below_a⟩⟩
  ·
   rw [if_neg c4] at H; have c4b0 : decide ((l0_1.length : Int) < 1) = false := decide_eq_false c4; have c4b1 : decide (l0_1.length < 1) = false := decide_eq_false (by omega); clear c4; (first | rw [c4b0] | (simp only [i64_w, i32_w]; rw [c4b0]) | skip); have H' := A_ H; clear H; obtain ⟨hcz6_0, hcz6_1, hfz6_0, hfz6_1⟩ := bc2_ BK121.out
   go_wp2
   repeat (go_quiet (fail); try go_wp2)
   go_meet
   case rel => exact ⟨_, (decide ((l0_1.length : Int) > 3)), eq_b, H', ⟨by first | omega | exact Nat.le_refl _⟩, ⟨blk_a⟩, ⟨below_a⟩⟩
 case rest =>
  clear HC2
  try clear p2
  try clear c3
  try clear c4 c4b0 c4b1
  try clear hcz5_0 hcz5_1
  try clear hcz6_0 hcz6_1
  try clear hfz5_0 hfz5_1
  try clear hfz6_0 hfz6_1
  obtain ⟨kq, x15_1, rfl, HA, HJ1, BK121, HB⟩ := hcut
  cases kq with
  | zero => exact absurd HA.out (by simp [spec_RingFault.j0])
  | succ kj1 =>
   have H := HA.out; clear HA; simp only [spec_RingFault.j0] at H
   by_cases c7 : x15_1 = true
   ·
    subst c7; have H1 : (some 2) = some r := by rw [if_pos rfl] at H; exact H
    clear H; have H := H1; clear H1; obtain rfl := Option.some.inj H
    go_wp2
    repeat (go_quiet (fail); try go_wp2)
    go_ret
    exact ⟨eq_a, below_a⟩
   ·
    replace c7 := Bool.eq_false_iff.mpr c7; subst c7; have H1 : (spec_RingFault.l0 kj1 0 a0_0 l0_1) = some r := by rw [if_neg (show ¬ (false = true) by decide)] at H; exact H
    clear H; have H := H1; clear H1; have H' := A_ H; clear H
    go_wp2
    repeat (go_quiet (fail); try go_wp2)
    go_loopg [3] kj1 (fun kq v3 w' => ∃ (x3_2 : Int), v3 = .int .i64 x3_2 ∧ Aside0 (spec_RingFault.l0 kq x3_2 a0_0 l0_1 = some r) ∧ Aside0 (kq ≤ kj1) ∧ Aside0 (w'.heap[gb121]? = some (.cells #[.int .i64 a0_0, (.slice A0_1 l0_1.length c0_1)] 34 (0, 0))) ∧ Aside0 (Below w.heap.size w w'))
    case atStart => exact ⟨(0), eq_b, H', ⟨Nat.le_refl _⟩, ⟨blk_a⟩, ⟨below_a⟩⟩
    case round =>
     clear H'
     try clear p2 p2
     try clear c3
     try clear c4 c4b0 c4b1
     try clear c7
     try clear hcz5_0 hcz5_1
     try clear hcz6_0 hcz6_1
     try clear hfz5_0 hfz5_1
     try clear hfz6_0 hfz6_1
     obtain ⟨x3_2, rfl, HA, HK2, BK121, HB⟩ := hrel
     cases gk with
     | zero => exact absurd HA.out (by simp [spec_RingFault.l0])
     | succ k2 =>
      have H := HA.out; clear HA; simp only [spec_RingFault.l0] at H
      by_cases c8 : x3_2 < (l0_1.length : Int)
      ·
       rw [if_pos c8] at H; have c8b0 : decide (x3_2 < (l0_1.length : Int)) = true := decide_eq_true c8; clear c8
       by_cases c9 : 0 ≤ x3_2
       rotate_left
       · rw [if_neg c9] at H; exact absurd H (by simp)
       rw [if_pos c9] at H; have c9b0 : decide (0 ≤ x3_2) = true := decide_eq_true c9; clear c9; obtain ⟨t123, A100, H⟩ := bi_ H; replace H : (if t123 = 0 then (spec_RingFault.l0 k2 (wrap64 (x3_2 + 1)) a0_0 l0_1) else (some t123)) = some r := H; have A10 := A_ A100; clear A100
       by_cases c11 : t123 = 0
       ·
        rw [if_pos c11] at H; have c11b0 : (t123 == 0) = true := beq_iff_eq.mpr c11; have c11b1 : (t123 != 0) = false := bne_eq_false_iff_eq.mpr c11; clear c11; have H' := A_ H; clear H; obtain ⟨hcz12_0, hcz12_1, hfz12_0, hfz12_1⟩ := bc2_ BK121.out; have p122 : 0 ≤ (x3_2 : Int) := od_; have q122 : x3_2 < (l0_1.length : Int) := od_; obtain ⟨ad122, A122_1, c122_1, e122, hx122_0, hx122_1, hl122_1, hi122_1⟩ := at_T59 HR0_1.out x3_2 p122 q122
        cases e122
        replace hx122_0 := hc_ HB hx122_0; replace hx122_1 := hc_ HB hx122_1; have HR122_1 := A_ hi122_1; have HC122_1 := A_ hl122_1; clear hi122_1 hl122_1; replace p122 := eq_true p122; replace q122 := eq_true q122
        go_wp2_with (first | (go_at_call 73; (with_reducible refine (spec_l4Key.calls _ ((rd_T59 l0_1 x3_2).f0) A122_1 c122_1 ((rd_T59 l0_1 x3_2).f1) t123 _ ?side1 ?side2 ?side3 ?side4 A10.out).mono ?_); (case side1 => exact ca_ (Kd.C_below HR122_1.out HB.out)); (case side2 => exact HC122_1.out); (case side3 => exact hx122_0); (case side4 => exact hx122_1); rintro e w13 ⟨rfl, hb⟩; replace BK121 := bw_ gb121 hb; replace HB := bs_ hb; (try clear hb)))
        repeat (go_quiet (first | (go_at_call 73; (with_reducible refine (spec_l4Key.calls _ ((rd_T59 l0_1 x3_2).f0) A122_1 c122_1 ((rd_T59 l0_1 x3_2).f1) t123 _ ?side1 ?side2 ?side3 ?side4 A10.out).mono ?_); (case side1 => exact ca_ (Kd.C_below HR122_1.out HB.out)); (case side2 => exact HC122_1.out); (case side3 => exact hx122_0); (case side4 => exact hx122_1); rintro e w13 ⟨rfl, hb⟩; replace BK121 := bw_ gb121 hb; replace HB := bs_ hb; (try clear hb))); try go_wp2_with (first | (go_at_call 73; (with_reducible refine (spec_l4Key.calls _ ((rd_T59 l0_1 x3_2).f0) A122_1 c122_1 ((rd_T59 l0_1 x3_2).f1) t123 _ ?side1 ?side2 ?side3 ?side4 A10.out).mono ?_); (case side1 => exact ca_ (Kd.C_below HR122_1.out HB.out)); (case side2 => exact HC122_1.out); (case side3 => exact hx122_0); (case side4 => exact hx122_1); rintro e w13 ⟨rfl, hb⟩; replace BK121 := bw_ gb121 hb; replace HB := bs_ hb; (try clear hb))))
        go_roundg k2
        case measure => have := HJ1.out; have := HK2.out; omega
        case rel => exact ⟨(wrap64 (x3_2 + 1)), eq_b, H', ⟨by have := HJ1.out; have := HK2.out; omega⟩, ⟨blk_a⟩, ⟨below_a⟩⟩
       ·
        rw [if_neg c11] at H; have c11b0 : (t123 == 0) = false := beq_eq_false_iff_ne.mpr c11; have c11b1 : (t123 != 0) = true := bne_iff_ne.mpr c11; obtain rfl := Option.some.inj H; obtain ⟨hcz14_0, hcz14_1, hfz14_0, hfz14_1⟩ := bc2_ BK121.out; have p122 : 0 ≤ (x3_2 : Int) := od_; have q122 : x3_2 < (l0_1.length : Int) := od_; obtain ⟨ad122, A122_1, c122_1, e122, hx122_0, hx122_1, hl122_1, hi122_1⟩ := at_T59 HR0_1.out x3_2 p122 q122
        cases e122
        replace hx122_0 := hc_ HB hx122_0; replace hx122_1 := hc_ HB hx122_1; have HR122_1 := A_ hi122_1; have HC122_1 := A_ hl122_1; clear hi122_1 hl122_1; replace p122 := eq_true p122; replace q122 := eq_true q122
        go_wp2_with (first | (go_at_call 73; (with_reducible refine (spec_l4Key.calls _ ((rd_T59 l0_1 x3_2).f0) A122_1 c122_1 ((rd_T59 l0_1 x3_2).f1) t123 _ ?side1 ?side2 ?side3 ?side4 A10.out).mono ?_); (case side1 => exact ca_ (Kd.C_below HR122_1.out HB.out)); (case side2 => exact HC122_1.out); (case side3 => exact hx122_0); (case side4 => exact hx122_1); rintro e w15 ⟨rfl, hb⟩; replace BK121 := bw_ gb121 hb; replace HB := bs_ hb; (try clear hb)))
        repeat (go_quiet (first | (go_at_call 73; (with_reducible refine (spec_l4Key.calls _ ((rd_T59 l0_1 x3_2).f0) A122_1 c122_1 ((rd_T59 l0_1 x3_2).f1) t123 _ ?side1 ?side2 ?side3 ?side4 A10.out).mono ?_); (case side1 => exact ca_ (Kd.C_below HR122_1.out HB.out)); (case side2 => exact HC122_1.out); (case side3 => exact hx122_0); (case side4 => exact hx122_1); rintro e w15 ⟨rfl, hb⟩; replace BK121 := bw_ gb121 hb; replace HB := bs_ hb; (try clear hb))); try go_wp2_with (first | (go_at_call 73; (with_reducible refine (spec_l4Key.calls _ ((rd_T59 l0_1 x3_2).f0) A122_1 c122_1 ((rd_T59 l0_1 x3_2).f1) t123 _ ?side1 ?side2 ?side3 ?side4 A10.out).mono ?_); (case side1 => exact ca_ (Kd.C_below HR122_1.out HB.out)); (case side2 => exact HC122_1.out); (case side3 => exact hx122_0); (case side4 => exact hx122_1); rintro e w15 ⟨rfl, hb⟩; replace BK121 := bw_ gb121 hb; replace HB := bs_ hb; (try clear hb))))
        go_ret
        exact ⟨eq_a, below_a⟩
      ·
       rw [if_neg c8] at H; have c8b0 : decide (x3_2 < (l0_1.length : Int)) = false := decide_eq_false c8; clear c8; have H' := A_ H; clear H; obtain ⟨hcz16_0, hcz16_1, hfz16_0, hfz16_1⟩ := bc2_ BK121.out
       go_wp2
       repeat (go_quiet (fail); try go_wp2)
       go_loopg [5] k2 (fun kq v5 w' => ∃ (x5_3 : Int), v5 = .int .i64 x5_3 ∧ Aside0 (spec_RingFault.l1 kq x5_3 a0_0 l0_1 = some r) ∧ Aside0 (kq ≤ k2) ∧ Aside0 (w'.heap[gb121]? = some (.cells #[.int .i64 a0_0, (.slice A0_1 l0_1.length c0_1)] 34 (0, 0))) ∧ Aside0 (Below w.heap.size w w'))
       case atStart => exact ⟨(1), eq_b, H', ⟨Nat.le_refl _⟩, ⟨blk_a⟩, ⟨below_a⟩⟩
       case round =>
        clear H'
        try clear c1
        try clear p1
        try clear q1
        try clear hx1
        try clear p2 p2
        try clear c3
        try clear c4 c4b0 c4b1
        try clear p6
        try clear c7
        try clear c8 c8b0
        try clear c9 c9b0
        try clear c11 c11b0 c11b1
        try clear c12
        try clear p12
        try clear q12
        try clear hx12
        try clear hcz12_0 hcz12_1
        try clear hcz14_0 hcz14_1
        try clear hcz16_0 hcz16_1
        try clear hcz5_0 hcz5_1
        try clear hcz6_0 hcz6_1
        try clear hfz12_0 hfz12_1
        try clear hfz14_0 hfz14_1
        try clear hfz16_0 hfz16_1
        try clear hfz5_0 hfz5_1
        try clear hfz6_0 hfz6_1
        try clear hx122_0 hx122_1
        try clear p122
        try clear q122
        obtain ⟨x5_3, rfl, HA, HK3, BK121, HB⟩ := hrel
        cases gk with
        | zero => exact absurd HA.out (by simp [spec_RingFault.l1])
        | succ k3 =>
         have H := HA.out; clear HA; simp only [spec_RingFault.l1] at H
         by_cases c17 : x5_3 < (l0_1.length : Int)
         ·
          rw [if_pos c17] at H; have c17b0 : decide (x5_3 < (l0_1.length : Int)) = true := decide_eq_true c17; clear c17
          by_cases c18 : 0 ≤ x5_3
          rotate_left
          · rw [if_neg c18] at H; exact absurd H (by simp)
          rw [if_pos c18] at H; have c18b0 : decide (0 ≤ x5_3) = true := decide_eq_true c18; clear c18; obtain ⟨ji19, hji19⟩ : ∃ j_ : Int, (wrap64 (x5_3 - 1)) = j_ := ⟨_, rfl⟩; replace H : (if 0 ≤ (ji19) then (if (ji19) < (l0_1.length : Int) then (if ((rd_T59 l0_1 x5_3).f0) ≤ ((rd_T59 l0_1 (ji19)).f0) then (some 1) else (spec_RingFault.l1 k3 (wrap64 (x5_3 + 1)) a0_0 l0_1)) else (none)) else (none)) = some r := by first | (rw [hji19] at H; exact H) | (simp only [hji19] at H ⊢; exact H)
          have hji19w : (IntKind.i64.wrap (x5_3 - 1)) = ji19 := (i64_w _).trans hji19
          by_cases c20 : 0 ≤ (ji19)
          rotate_left
          · rw [if_neg c20] at H; exact absurd H (by simp)
          rw [if_pos c20] at H; have c20b0 : decide (0 ≤ (ji19)) = true := decide_eq_true c20; clear c20
          by_cases c21 : (ji19) < (l0_1.length : Int)
          rotate_left
          · rw [if_neg c21] at H; exact absurd H (by simp)
          rw [if_pos c21] at H; have c21b0 : decide ((ji19) < (l0_1.length : Int)) = true := decide_eq_true c21; clear c21
          by_cases c22 : ((rd_T59 l0_1 x5_3).f0) ≤ ((rd_T59 l0_1 (ji19)).f0)
          ·
           rw [if_pos c22] at H; have c22b0 : decide (((rd_T59 l0_1 x5_3).f0) ≤ ((rd_T59 l0_1 (ji19)).f0)) = true := decide_eq_true c22; clear c22; obtain rfl := Option.some.inj H; obtain ⟨hcz23_0, hcz23_1, hfz23_0, hfz23_1⟩ := bc2_ BK121.out; have p124 : 0 ≤ (x5_3 : Int) := od_; have q124 : x5_3 < (l0_1.length : Int) := od_; obtain ⟨ad124, A124_1, c124_1, e124, hx124_0, hx124_1, hl124_1, hi124_1⟩ := at_T59 HR0_1.out x5_3 p124 q124
           cases e124
           replace hx124_0 := hc_ HB hx124_0; replace hx124_1 := hc_ HB hx124_1; have HR124_1 := A_ hi124_1; have HC124_1 := A_ hl124_1; clear hi124_1 hl124_1; replace p124 := eq_true p124; replace q124 := eq_true q124; have p125 : 0 ≤ ((ji19) : Int) := od_; have q125 : (ji19) < (l0_1.length : Int) := od_; obtain ⟨ad125, A125_1, c125_1, e125, hx125_0, hx125_1, hl125_1, hi125_1⟩ := at_T59 HR0_1.out (ji19) p125 q125; obtain rfl : ad124 = ad125 := (by injection e125); replace hx125_0 := hc_ HB hx125_0; replace hx125_1 := hc_ HB hx125_1; have HR125_1 := A_ hi125_1; have HC125_1 := A_ hl125_1; clear hi125_1 hl125_1; replace p125 := eq_true p125; replace q125 := eq_true q125
           go_wp2
           repeat (go_quiet (fail); try go_wp2)
           go_ret
           exact ⟨by first | rfl | (simp [errW_none, errW_some] <;> rfl) | (simp only [← hji19]; first | rfl | (simp [errW_none, errW_some] <;> rfl)) | (simp [*, errW_none, errW_some] <;> rfl), below_a⟩
          ·
           rw [if_neg c22] at H; have c22b0 : decide (((rd_T59 l0_1 x5_3).f0) ≤ ((rd_T59 l0_1 (ji19)).f0)) = false := decide_eq_false c22; clear c22; have H' := A_ H; clear H; obtain ⟨hcz24_0, hcz24_1, hfz24_0, hfz24_1⟩ := bc2_ BK121.out; have p124 : 0 ≤ (x5_3 : Int) := od_; have q124 : x5_3 < (l0_1.length : Int) := od_; obtain ⟨ad124, A124_1, c124_1, e124, hx124_0, hx124_1, hl124_1, hi124_1⟩ := at_T59 HR0_1.out x5_3 p124 q124
           cases e124
           replace hx124_0 := hc_ HB hx124_0; replace hx124_1 := hc_ HB hx124_1; have HR124_1 := A_ hi124_1; have HC124_1 := A_ hl124_1; clear hi124_1 hl124_1; replace p124 := eq_true p124; replace q124 := eq_true q124; have p125 : 0 ≤ ((ji19) : Int) := od_; have q125 : (ji19) < (l0_1.length : Int) := od_; obtain ⟨ad125, A125_1, c125_1, e125, hx125_0, hx125_1, hl125_1, hi125_1⟩ := at_T59 HR0_1.out (ji19) p125 q125; obtain rfl : ad124 = ad125 := (by injection e125); replace hx125_0 := hc_ HB hx125_0; replace hx125_1 := hc_ HB hx125_1; have HR125_1 := A_ hi125_1; have HC125_1 := A_ hl125_1; clear hi125_1 hl125_1; replace p125 := eq_true p125; replace q125 := eq_true q125
           go_wp2
           repeat (go_quiet (fail); try go_wp2)
           go_roundg k3
           case measure => have := HJ1.out; have := HK2.out; have := HK3.out; omega
           case rel => exact ⟨(wrap64 (x5_3 + 1)), eq_b, H', ⟨by have := HJ1.out; have := HK2.out; have := HK3.out; omega⟩, ⟨blk_a⟩, ⟨below_a⟩⟩
         ·
          rw [if_neg c17] at H; have c17b0 : decide (x5_3 < (l0_1.length : Int)) = false := decide_eq_false c17; clear c17; obtain ⟨t126, A250, H⟩ := bi_ H; replace H : (if t126 < 0 then (some 4) else (some 0)) = some r := H; have A25 := A_ A250; clear A250
          by_cases c26 : t126 < 0
          ·
           rw [if_pos c26] at H; have c26b0 : decide (t126 < 0) = true := decide_eq_true c26; clear c26; obtain rfl := Option.some.inj H; obtain ⟨hcz27_0, hcz27_1, hfz27_0, hfz27_1⟩ := bc2_ BK121.out
           go_wp2_with (first | (go_at_call 35; (with_reducible refine (spec_l4Find.calls k3 _ a0_0 A0_1 c0_1 l0_1 a0_0 t126 _ ?side1 ?side2 ?side3 ?side4 A25.out).mono ?_); (case side1 => exact ca_ (Kd.C_below HR0_1.out HB.out)); (case side2 => exact HC0_1.out); (case side3 => exact (blk_cell (cs := #[.int .i64 a0_0, .slice A0_1 l0_1.length c0_1]) (t := 34) blk_a 0).trans rfl); (case side4 => exact (blk_cell (cs := #[.int .i64 a0_0, .slice A0_1 l0_1.length c0_1]) (t := 34) blk_a 1).trans rfl); rintro e w28 ⟨rfl, hb⟩; replace BK121 := bw_ gb121 hb; replace HB := bs_ hb; (try clear hb)))
           repeat (go_quiet (first | (go_at_call 35; (with_reducible refine (spec_l4Find.calls k3 _ a0_0 A0_1 c0_1 l0_1 a0_0 t126 _ ?side1 ?side2 ?side3 ?side4 A25.out).mono ?_); (case side1 => exact ca_ (Kd.C_below HR0_1.out HB.out)); (case side2 => exact HC0_1.out); (case side3 => exact (blk_cell (cs := #[.int .i64 a0_0, .slice A0_1 l0_1.length c0_1]) (t := 34) blk_a 0).trans rfl); (case side4 => exact (blk_cell (cs := #[.int .i64 a0_0, .slice A0_1 l0_1.length c0_1]) (t := 34) blk_a 1).trans rfl); rintro e w28 ⟨rfl, hb⟩; replace BK121 := bw_ gb121 hb; replace HB := bs_ hb; (try clear hb))); try go_wp2_with (first | (go_at_call 35; (with_reducible refine (spec_l4Find.calls k3 _ a0_0 A0_1 c0_1 l0_1 a0_0 t126 _ ?side1 ?side2 ?side3 ?side4 A25.out).mono ?_); (case side1 => exact ca_ (Kd.C_below HR0_1.out HB.out)); (case side2 => exact HC0_1.out); (case side3 => exact (blk_cell (cs := #[.int .i64 a0_0, .slice A0_1 l0_1.length c0_1]) (t := 34) blk_a 0).trans rfl); (case side4 => exact (blk_cell (cs := #[.int .i64 a0_0, .slice A0_1 l0_1.length c0_1]) (t := 34) blk_a 1).trans rfl); rintro e w28 ⟨rfl, hb⟩; replace BK121 := bw_ gb121 hb; replace HB := bs_ hb; (try clear hb))))
           go_ret
           exact ⟨eq_a, below_a⟩
          ·
           rw [if_neg c26] at H; have c26b0 : decide (t126 < 0) = false := decide_eq_false c26; clear c26; obtain rfl := Option.some.inj H; obtain ⟨hcz29_0, hcz29_1, hfz29_0, hfz29_1⟩ := bc2_ BK121.out
           go_wp2_with (first | (go_at_call 35; (with_reducible refine (spec_l4Find.calls k3 _ a0_0 A0_1 c0_1 l0_1 a0_0 t126 _ ?side1 ?side2 ?side3 ?side4 A25.out).mono ?_); (case side1 => exact ca_ (Kd.C_below HR0_1.out HB.out)); (case side2 => exact HC0_1.out); (case side3 => exact (blk_cell (cs := #[.int .i64 a0_0, .slice A0_1 l0_1.length c0_1]) (t := 34) blk_a 0).trans rfl); (case side4 => exact (blk_cell (cs := #[.int .i64 a0_0, .slice A0_1 l0_1.length c0_1]) (t := 34) blk_a 1).trans rfl); rintro e w30 ⟨rfl, hb⟩; replace BK121 := bw_ gb121 hb; replace HB := bs_ hb; (try clear hb)))
           repeat (go_quiet (first | (go_at_call 35; (with_reducible refine (spec_l4Find.calls k3 _ a0_0 A0_1 c0_1 l0_1 a0_0 t126 _ ?side1 ?side2 ?side3 ?side4 A25.out).mono ?_); (case side1 => exact ca_ (Kd.C_below HR0_1.out HB.out)); (case side2 => exact HC0_1.out); (case side3 => exact (blk_cell (cs := #[.int .i64 a0_0, .slice A0_1 l0_1.length c0_1]) (t := 34) blk_a 0).trans rfl); (case side4 => exact (blk_cell (cs := #[.int .i64 a0_0, .slice A0_1 l0_1.length c0_1]) (t := 34) blk_a 1).trans rfl); rintro e w30 ⟨rfl, hb⟩; replace BK121 := bw_ gb121 hb; replace HB := bs_ hb; (try clear hb))); try go_wp2_with (first | (go_at_call 35; (with_reducible refine (spec_l4Find.calls k3 _ a0_0 A0_1 c0_1 l0_1 a0_0 t126 _ ?side1 ?side2 ?side3 ?side4 A25.out).mono ?_); (case side1 => exact ca_ (Kd.C_below HR0_1.out HB.out)); (case side2 => exact HC0_1.out); (case side3 => exact (blk_cell (cs := #[.int .i64 a0_0, .slice A0_1 l0_1.length c0_1]) (t := 34) blk_a 0).trans rfl); (case side4 => exact (blk_cell (cs := #[.int .i64 a0_0, .slice A0_1 l0_1.length c0_1]) (t := 34) blk_a 1).trans rfl); rintro e w30 ⟨rfl, hb⟩; replace BK121 := bw_ gb121 hb; replace HB := bs_ hb; (try clear hb))))
           go_ret
           exact ⟨eq_a, below_a⟩
def spec_FieldTimes.l0 : Nat → Int → Int → Int → Int → Option (Int)
 | 0, _, _, _, _ => none
 | k + 1, x0, x1, x5, x6 => if x6 < 8 then (if (Int.tmod x1 2) = 1 then (if x0 ≥ 128 then (spec_FieldTimes.l0 k (Go.bits .xor .u8 ((x0 * 2) % 256) 27) ((Int.tdiv x1 2) % 256) (Go.bits .xor .u8 x5 x0) (wrap64 (x6 + 1))) else (spec_FieldTimes.l0 k ((x0 * 2) % 256) ((Int.tdiv x1 2) % 256) (Go.bits .xor .u8 x5 x0) (wrap64 (x6 + 1)))) else (if x0 ≥ 128 then (spec_FieldTimes.l0 k (Go.bits .xor .u8 ((x0 * 2) % 256) 27) ((Int.tdiv x1 2) % 256) x5 (wrap64 (x6 + 1))) else (spec_FieldTimes.l0 k ((x0 * 2) % 256) ((Int.tdiv x1 2) % 256) x5 (wrap64 (x6 + 1))))) else (some x5)
def spec_FieldTimes.f (k : Nat) (a0 : Int) (a1 : Int) : Option (Int) := spec_FieldTimes.l0 k a0 a1 0 0
theorem spec_FieldTimes.calls (k : Nat) (a0 : Int) (a1 : Int) (r : Int) (w : World) (h : spec_FieldTimes.f k a0 a1 = some r) :
  Calls Try.prog 98 #[.int .u8 a0, .int .u8 a1] w fun e w' => e = .returned (.int .u8 r) ∧ Drawn0 w w' := by
 have H : (spec_FieldTimes.l0 k a0 a1 0 0) = some r := h
 clear h
 have H' := A_ H
 clear H
 go_enter Try.func98, Try.ntmps98
 go_wp2
 go_loopg [0, 1, 5, 6] k (fun kq v0 v1 v5 v6 w' => ∃ (x0_1 : Int) (x1_1 : Int) (x5_1 : Int) (x6_1 : Int), v0 = .int .u8 x0_1 ∧ v1 = .int .u8 x1_1 ∧ v5 = .int .u8 x5_1 ∧ v6 = .int .i64 x6_1 ∧ Aside0 (spec_FieldTimes.l0 kq x0_1 x1_1 x5_1 x6_1 = some r) ∧ Aside0 (kq ≤ k) ∧ Drawn0 w w')
 case atStart => exact ⟨(a0), (a1), (0), (0), eq_b, eq_b, eq_b, eq_b, H', ⟨Nat.le_refl _⟩, by repeat (first | exact Drawn0.refl _ | apply Drawn0.step)⟩
 case round =>
  clear H'
  try clear p2
  obtain ⟨x0_1, x1_1, x5_1, x6_1, rfl, rfl, rfl, rfl, HA, HK1, ⟨m1, rfl⟩⟩ := hrel
  cases gk with
  | zero => exact absurd HA.out (by simp [spec_FieldTimes.l0])
  | succ k1 =>
   have H := HA.out; clear HA; simp only [spec_FieldTimes.l0] at H
   by_cases c3 : x6_1 < 8
   ·
    rw [if_pos c3] at H; have c3b0 : decide (x6_1 < 8) = true := decide_eq_true c3; clear c3
    by_cases c4 : (Int.tmod x1_1 2) = 1
    ·
     rw [if_pos c4] at H; have c4b0 : ((Int.tmod x1_1 2) == 1) = true := beq_iff_eq.mpr c4; have c4b1 : ((Int.tmod x1_1 2) != 1) = false := bne_eq_false_iff_eq.mpr c4; clear c4
     by_cases c5 : x0_1 ≥ 128
     ·
      rw [if_pos c5] at H; have c5b0 : decide (128 ≤ x0_1) = true := decide_eq_true c5; clear c5; have H' := A_ H; clear H
      go_wp2
      go_roundg k1
      case measure => have := HK1.out; omega
      case rel => exact ⟨(Go.bits .xor .u8 ((x0_1 * 2) % 256) 27), ((Int.tdiv x1_1 2) % 256), (Go.bits .xor .u8 x5_1 x0_1), (wrap64 (x6_1 + 1)), eq_b, eq_b, eq_b, eq_b, H', ⟨by have := HK1.out; omega⟩, by repeat (first | exact Drawn0.refl _ | apply Drawn0.step)⟩
     ·
      rw [if_neg c5] at H; have c5b0 : decide (128 ≤ x0_1) = false := decide_eq_false c5; clear c5; have H' := A_ H; clear H
      go_wp2
      go_roundg k1
      case measure => have := HK1.out; omega
      case rel => exact ⟨((x0_1 * 2) % 256), ((Int.tdiv x1_1 2) % 256), (Go.bits .xor .u8 x5_1 x0_1), (wrap64 (x6_1 + 1)), eq_b, eq_b, eq_b, eq_b, H', ⟨by have := HK1.out; omega⟩, by repeat (first | exact Drawn0.refl _ | apply Drawn0.step)⟩
    ·
     rw [if_neg c4] at H; have c4b0 : ((Int.tmod x1_1 2) == 1) = false := beq_eq_false_iff_ne.mpr c4; have c4b1 : ((Int.tmod x1_1 2) != 1) = true := bne_iff_ne.mpr c4
     by_cases c6 : x0_1 ≥ 128
     ·
      rw [if_pos c6] at H; have c6b0 : decide (128 ≤ x0_1) = true := decide_eq_true c6; clear c6; have H' := A_ H; clear H
      go_wp2
      go_roundg k1
      case measure => have := HK1.out; omega
      case rel => exact ⟨(Go.bits .xor .u8 ((x0_1 * 2) % 256) 27), ((Int.tdiv x1_1 2) % 256), (x5_1), (wrap64 (x6_1 + 1)), eq_b, eq_b, eq_b, eq_b, H', ⟨by have := HK1.out; omega⟩, by repeat (first | exact Drawn0.refl _ | apply Drawn0.step)⟩
     ·
      rw [if_neg c6] at H; have c6b0 : decide (128 ≤ x0_1) = false := decide_eq_false c6; clear c6; have H' := A_ H; clear H
      go_wp2
      go_roundg k1
      case measure => have := HK1.out; omega
      case rel => exact ⟨((x0_1 * 2) % 256), ((Int.tdiv x1_1 2) % 256), (x5_1), (wrap64 (x6_1 + 1)), eq_b, eq_b, eq_b, eq_b, H', ⟨by have := HK1.out; omega⟩, by repeat (first | exact Drawn0.refl _ | apply Drawn0.step)⟩
   ·
    rw [if_neg c3] at H; have c3b0 : decide (x6_1 < 8) = false := decide_eq_false c3; clear c3; obtain rfl := Option.some.inj H
    go_wp2
    go_ret
    exact ⟨eq_b, by repeat (first | exact Drawn0.refl _ | apply Drawn0.step)⟩
end Go.Proofs.Ytiioiohdifkbgaa.MFnExactOpenLetter
