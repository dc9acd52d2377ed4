-- Laid by a program of this session (the kit's print, turned where it falls short; the texts of functions that it does not take are proved by hand).
import Derived.Test.YtbnibakamdhpdaaMFnWindowsx0
import Derived.Test.YtbnibakamdhpdaaMFnWindowsx1
namespace Go.Proofs.Ytbnibakamdhpdaa.MFnWindows
open Go.RowKit Go.Proofs.YtbnibakamdhpdaaW.PrintWords Go.Proofs.YtbnibakamdhpdaaW.PrintLast Go.Proofs.YtbnibakamdhpdaaW.PrintMore
attribute [local go_sem] max2_int min2_int max_two min_two max_three min_three max_four min_four   -- for this text's walks alone
set_option linter.unusedVariables false
set_option linter.unusedSimpArgs false

attribute [local go_sem] isSome_setCell
/-! ### spec_l6Take: function 49 -/
mutual
def spec_l6Take.l0 : Nat → Int → Bool → Int → Int → List Int → Int → List Int → Option (Int × List Int × Int)
 | 0, _, _, _, _, _, _, _ => none
 | k + 1, x1, x7, x8, x1000, x1001, x115000, x115001 => if x8 < (x1001.length : Int) then (if x7 = true then (spec_l6Take.j1 k x1 x7 x8 false x1000 x1001 x115000 x115001) else (if 0 ≤ x8 then (spec_l6Take.j1 k x1 x7 x8 (decide ((rd x1001 x8) > x1)) x1000 x1001 x115000 x115001) else (none))) else (if x7 = true then (some (x115000, x115001, 0)) else (if x115001.length < 17592186044416 then (some (x115000, (x115001 ++ [x1]), 0)) else (none)))
def spec_l6Take.j1 : Nat → Int → Bool → Int → Bool → Int → List Int → Int → List Int → Option (Int × List Int × Int)
 | 0, _, _, _, _, _, _, _, _ => none
 | k + 1, x1, x7, x8, x56, x1000, x1001, x115000, x115001 => if x56 = true then (if x115001.length < 17592186044416 then ((some (x115001 ++ [x1] : List Int)).bind fun y119 => (if 0 ≤ x8 then (if x8 < (x1001.length : Int) then (if (rd x1001 x8) > (wrap64 (x115000 - 16)) then (if y119.length < 17592186044416 then (spec_l6Take.l0 k x1 true (wrap64 (x8 + 1)) x1000 x1001 x115000 (y119 ++ [rd x1001 x8])) else (none)) else (spec_l6Take.l0 k x1 true (wrap64 (x8 + 1)) x1000 x1001 x115000 y119)) else (none)) else (none))) else (none)) else (if 0 ≤ x8 then (if x8 < (x1001.length : Int) then (if (rd x1001 x8) > (wrap64 (x115000 - 16)) then (if x115001.length < 17592186044416 then (spec_l6Take.l0 k x1 x7 (wrap64 (x8 + 1)) x1000 x1001 x115000 (x115001 ++ [rd x1001 x8])) else (none)) else (spec_l6Take.l0 k x1 x7 (wrap64 (x8 + 1)) x1000 x1001 x115000 x115001)) else (none)) else (none))
end
def spec_l6Take.f (k : Nat) (a0_0 : Int) (l0_1 : List Int) (a1 : Int) : Option (Int × List Int × Int) := (spec_l1In.f a1 0 1000000000).bind fun t111 => (if t111 = true then ((spec_l1Has.f k l0_1 a1).bind fun t112 => (if t112 = true then (some (0, ([] : List Int), 6)) else (if a1 ≤ (wrap64 (a0_0 - 16)) then (some (0, ([] : List Int), 8)) else ((spec_l1Max.f a0_0 a1).bind fun t113 => (spec_l6Take.l0 k a1 false 0 a0_0 l0_1 t113 ([] : List Int)))))) else (some (0, ([] : List Int), 3)))
theorem spec_l6Take.mono_l : ∀ k, (∀ y0 y1 y2 y3 y4 y5 y6, LeO (spec_l6Take.l0 k y0 y1 y2 y3 y4 y5 y6) (spec_l6Take.l0 (k + 1) y0 y1 y2 y3 y4 y5 y6)) ∧ (∀ y0 y1 y2 y3 y4 y5 y6 y7, LeO (spec_l6Take.j1 k y0 y1 y2 y3 y4 y5 y6 y7) (spec_l6Take.j1 (k + 1) y0 y1 y2 y3 y4 y5 y6 y7))
 | 0 => ⟨fun _ _ _ _ _ _ _ r h => by simp [spec_l6Take.l0] at h, fun _ _ _ _ _ _ _ _ r h => by simp [spec_l6Take.j1] at h⟩
 | k + 1 => by
  obtain ⟨ih0, ih1⟩ := spec_l6Take.mono_l k; refine ⟨?_, ?_⟩
  ·
   intro y0 y1 y2 y3 y4 y5 y6
   unfold spec_l6Take.l0
   repeat' first
   | (with_reducible exact ih0 _ _ _ _ _ _ _)
   | (with_reducible exact ih1 _ _ _ _ _ _ _ _)
   | (with_reducible exact spec_l1Has.mono _ _ _)
   | (with_reducible exact LeO.refl _)
   | (with_reducible exact LeO.none _)
   | (with_reducible refine LeO.ite ?_ ?_)
   | (with_reducible refine LeO.bind ?_ (fun _ => ?_))
   | exact ih0 _ _ _ _ _ _ _
   | exact ih1 _ _ _ _ _ _ _ _
   | exact spec_l1Has.mono _ _ _
   | exact LeO.none _
   | refine LeO.ite ?_ ?_
   | refine LeO.bind ?_ (fun _ => ?_)
  ·
   intro y0 y1 y2 y3 y4 y5 y6 y7
   unfold spec_l6Take.j1
   repeat' first
   | (with_reducible exact ih0 _ _ _ _ _ _ _)
   | (with_reducible exact ih1 _ _ _ _ _ _ _ _)
   | (with_reducible exact spec_l1Has.mono _ _ _)
   | (with_reducible exact LeO.refl _)
   | (with_reducible exact LeO.none _)
   | (with_reducible refine LeO.ite ?_ ?_)
   | (with_reducible refine LeO.bind ?_ (fun _ => ?_))
   | exact ih0 _ _ _ _ _ _ _
   | exact ih1 _ _ _ _ _ _ _ _
   | exact spec_l1Has.mono _ _ _
   | exact LeO.none _
   | refine LeO.ite ?_ ?_
   | refine LeO.bind ?_ (fun _ => ?_)
theorem spec_l6Take.mono : ∀ a0 a1 a2 k, LeO (spec_l6Take.f k a0 a1 a2) (spec_l6Take.f (k + 1) a0 a1 a2) := by
 intro a0 a1 a2 k
 obtain ⟨ih0, ih1⟩ := spec_l6Take.mono_l k
 unfold spec_l6Take.f
 repeat' first
   | (with_reducible exact ih0 _ _ _ _ _ _ _)
   | (with_reducible exact ih1 _ _ _ _ _ _ _ _)
   | (with_reducible exact spec_l1Has.mono _ _ _)
   | (with_reducible exact LeO.refl _)
   | (with_reducible exact LeO.none _)
   | (with_reducible refine LeO.ite ?_ ?_)
   | (with_reducible refine LeO.bind ?_ (fun _ => ?_))
   | exact ih0 _ _ _ _ _ _ _
   | exact ih1 _ _ _ _ _ _ _ _
   | exact spec_l1Has.mono _ _ _
   | exact LeO.none _
   | refine LeO.ite ?_ ?_
   | refine LeO.bind ?_ (fun _ => ?_)
def spec_l6Take.T15 : Bool × List (List Nat × List Nat) := (true, [([], []), ([0], [0]), ([1], [1]), ([2], [2]), ([], []), ([3, 4], [3, 4]), ([5], [5]), ([], []), ([7], [7]), ([8], [8]), ([6, 9], [6, 9])])
def spec_l6Take.B15 : List Nat := [0, 1, 3, 7, 0, 31, 63, 0, 128, 384, 1023]
theorem spec_l6Take.tab15 : rtab .any (opsOf Try.f49 15) = spec_l6Take.T15 := by kernel_rfl
theorem spec_l6Take.bits15 : waitsOk spec_l6Take.T15.2 spec_l6Take.B15 = true := by kernel_rfl
def spec_l6Take.T16 : Bool × List (List Nat × List Nat) := (true, [([], []), ([0], [0]), ([], []), ([2], [2]), ([3], [3]), ([4], [4]), ([], []), ([5, 6], [5, 6]), ([7], [7]), ([8], [8]), ([1, 9], [1, 9]), ([0, 1, 2, 3, 4, 5, 6, 7, 8, 9, 10], []), ([11, 10, 10, 0, 1, 2, 3, 4, 5, 6, 7, 8, 9, 10], [10, 11])])
def spec_l6Take.B16 : List Nat := [0, 1, 0, 4, 12, 28, 0, 124, 252, 508, 1023, 2047, 4095]
theorem spec_l6Take.tab16 : rtab .any (opsOf Try.f49 16) = spec_l6Take.T16 := by kernel_rfl
theorem spec_l6Take.bits16 : waitsOk spec_l6Take.T16.2 spec_l6Take.B16 = true := by kernel_rfl
set_option maxHeartbeats 8000000 in
set_option maxRecDepth 100000 in
theorem spec_l6Take.calls (k : Nat) (p : Addr) (a0_0 : Int) (A0_1 : Option Addr) (c0_1 : Nat) (l0_1 : List Int) (a1 : Int) (r1 : Int) (r2 : List Int) (r3 : Int) (w : World) (hr0_1 : Kd.C (Kd.int .i64) w A0_1 l0_1.length l0_1) (hc0_1 : l0_1.length ≤ c0_1) (hxp_0 : w.cell? p = some (.int .i64 a0_0)) (hxp_1 : w.cell? ⟨p.block, p.off + 1, none⟩ = some (.slice A0_1 l0_1.length c0_1)) (h : spec_l6Take.f k a0_0 l0_1 a1 = some (r1, r2, r3)) :
  Calls Try.prog 49 #[.pointer (some p), .int .i64 a1] w fun e w' => ∃ v1_ : Value, e = .returned (.tuple #[.agg #[.int .i64 r1, v1_], .int .i64 r3]) ∧ Kd.R (Kd.int .i64) 2 w' w.heap.size (fun _ => True) v1_ r2 ∧ Below w.heap.size w w' := by
 have hu26 := Try.underlying26
 have HXP_0 := Aside0.mk hxp_0
 have HXP_1 := Aside0.mk hxp_1
 have HLP := Aside0.mk (show p.block < w.heap.size from World.block_lt_of_cell? w _ hxp_0)
 clear hxp_0 hxp_1
 have HR0_1 := Aside0.mk hr0_1
 have HC0_1 := Aside0.mk hc0_1
 clear hr0_1 hc0_1
 have HB := Aside0.mk (Below.refl w.heap.size w)
 have H : ((spec_l1In.f a1 0 1000000000).bind fun t111 => (if t111 = true then ((spec_l1Has.f k l0_1 a1).bind fun t112 => (if t112 = true then (some (0, ([] : List Int), 6)) else (if a1 ≤ (wrap64 (a0_0 - 16)) then (some (0, ([] : List Int), 8)) else ((spec_l1Max.f a0_0 a1).bind fun t113 => (spec_l6Take.l0 k a1 false 0 a0_0 l0_1 t113 ([] : List Int)))))) else (some (0, ([] : List Int), 3)))) = some (r1, r2, r3) := h
 clear h
 replace H := Option.bind_eq_some_iff.mp H
 obtain ⟨t111, A30, H⟩ := H
 replace H : (if t111 = true then ((spec_l1Has.f k l0_1 a1).bind fun t112 => (if t112 = true then (some (0, ([] : List Int), 6)) else (if a1 ≤ (wrap64 (a0_0 - 16)) then (some (0, ([] : List Int), 8)) else ((spec_l1Max.f a0_0 a1).bind fun t113 => (spec_l6Take.l0 k a1 false 0 a0_0 l0_1 t113 ([] : List Int)))))) else (some (0, ([] : List Int), 3))) = some (r1, r2, r3) := H
 have A3 := Aside0.mk A30
 clear A30
 by_cases c4 : t111 = true
 ·
  subst c4; have H1 : ((spec_l1Has.f k l0_1 a1).bind fun t112 => (if t112 = true then (some (0, ([] : List Int), 6)) else (if a1 ≤ (wrap64 (a0_0 - 16)) then (some (0, ([] : List Int), 8)) else ((spec_l1Max.f a0_0 a1).bind fun t113 => (spec_l6Take.l0 k a1 false 0 a0_0 l0_1 t113 ([] : List Int)))))) = some (r1, r2, r3) := by rw [if_pos rfl] at H; exact H
  clear H; have H := H1; clear H1; replace H := Option.bind_eq_some_iff.mp H; obtain ⟨t112, A50, H⟩ := H; replace H : (if t112 = true then (some (0, ([] : List Int), 6)) else (if a1 ≤ (wrap64 (a0_0 - 16)) then (some (0, ([] : List Int), 8)) else ((spec_l1Max.f a0_0 a1).bind fun t113 => (spec_l6Take.l0 k a1 false 0 a0_0 l0_1 t113 ([] : List Int))))) = some (r1, r2, r3) := H; have A5 := Aside0.mk A50; clear A50
  by_cases c6 : t112 = true
  ·
   subst c6; have H1 : (some (0, ([] : List Int), 6)) = some (r1, r2, r3) := by rw [if_pos rfl] at H; exact H
   clear H; have H := H1; clear H1; simp only [Option.some.injEq, Prod.mk.injEq] at H; obtain ⟨rfl, rfl, rfl⟩ := H
   go_enter Try.func49, Try.ntmps49
   go_wp2_with (first | ((with_reducible refine gate_dst (N := 4) rfl ?_); refine box_event ?hg (N := 4) ?hd (cs := #[.int .i64 0, .slice none 0 0]) (t := 26) ?hr ?_; (case hd => rfl); (case hg => rfl); (case hr => first | (go_simp; done) | (go_simp; rfl)); intro gb110 hg w7 hbox hb; have n0_ := Aside0.mk (below_step below_a hb); have BK110 := Aside0.mk (hbox); have GW110 := Aside0.mk (bsz_ (w := w) hg); have GE110 := Aside0.mk (bsz_ (w := w) hg); replace HB := n0_; clear n0_; clear hb hbox hg) | ((with_reducible refine gate_callee (f := 50) rfl ?_); refine goesL_ (some 10) rfl rfl Try.func50 (by kernel_rfl) rfl #[.int .i64 a1, .int .i64 0, .int .i64 1000000000] rfl args_a ?_; (with_reducible refine (spec_l1In.calls a1 0 1000000000 true _ A3.out).mono ?_); rintro e w' ⟨rfl, ⟨nd, rfl⟩⟩; refine ⟨_, rfl, ?_⟩; (try (rw [drewN_self w7]; generalize hq_ : World.drewN w7 _ = w7; have n0_ : Aside0 (w7.heap[gb110]? = some (.cells #[.int .i64 0, .slice none 0 0] 26 (0, 0))) := ⟨by rw [← hq_]; exact blk_a⟩; have n1_ : Aside0 (Below w.heap.size w w7) := ⟨by rw [← hq_]; exact below_a⟩; clear BK110 HB hq_; have BK110 := n0_; have HB := n1_; clear n0_ n1_)); have hcz8_0 : w7.cell? p = some (.int .i64 a0_0) := (HB.out.cell (p := p) HLP.out).trans HXP_0.out; have hcz8_1 : w7.cell? ⟨p.block, p.off + 1, none⟩ = some (.slice A0_1 l0_1.length c0_1) := (HB.out.cell (p := ⟨p.block, p.off + 1, none⟩) HLP.out).trans HXP_1.out; have hnpz8_110 : p.block ≠ gb110 := Nat.ne_of_lt (Nat.lt_of_lt_of_le HLP.out GW110.out)) | ((with_reducible refine gate_callee (f := 61) rfl ?_); refine goesL_ (some 18) rfl rfl Try.func61 (by kernel_rfl) rfl #[.slice A0_1 l0_1.length c0_1, .int .i64 a1] rfl args_a ?_; (with_reducible refine (spec_l1Has.calls k _ _ l0_1 a1 true _ ?side1 ?side2 A5.out).mono ?_); (case side1 => repeat (first | exact (Kd.C_below HR0_1.out HB.out) | (with_reducible refine Kd.C_alloc ?_ _) | (with_reducible refine Kd.C_drewN ?_ _) | (with_reducible refine Kd.C_drew ?_))); (case side2 => exact HC0_1.out); rintro e w' ⟨rfl, ⟨nd, rfl⟩⟩; refine ⟨_, rfl, ?_⟩; (try (rw [drewN_self w7]; generalize hq_ : World.drewN w7 _ = w7; have n0_ : Aside0 (w7.heap[gb110]? = some (.cells #[.int .i64 0, .slice none 0 0] 26 (0, 0))) := ⟨by rw [← hq_]; exact blk_a⟩; have n1_ : Aside0 (Below w.heap.size w w7) := ⟨by rw [← hq_]; exact below_a⟩; clear BK110 HB hq_; have BK110 := n0_; have HB := n1_; clear n0_ n1_)); obtain ⟨hcz9_0, hcz9_1, hfz9_0, hfz9_1⟩ := bc2_ BK110.out))
   refine bodyPost_ret (results_ct rfl _ _ gb110 26 #[.int .i64 0, .slice none 0 0] (0, 0) _ rfl blk_a Try.underlying26 rfl (by kernel_rfl)) rfl ?_; exact ⟨_, eq_a, by first | exact Kd.R_nil _ _ _ _ _ | exact Kd.N_nil _ _ _ _ _ | exact Kd.V_nil _ _ _ _ _ | exact Kd.Q_nil _ _ _ _ _ | exact Kd.S_nil _ _ _ _ _, below_a⟩
  ·
   replace c6 := Bool.eq_false_iff.mpr c6; subst c6; have H1 : (if a1 ≤ (wrap64 (a0_0 - 16)) then (some (0, ([] : List Int), 8)) else ((spec_l1Max.f a0_0 a1).bind fun t113 => (spec_l6Take.l0 k a1 false 0 a0_0 l0_1 t113 ([] : List Int)))) = some (r1, r2, r3) := by rw [if_neg (show ¬ (false = true) by decide)] at H; exact H
   clear H; have H := H1; clear H1
   by_cases c10 : a1 ≤ (wrap64 (a0_0 - 16))
   ·
    rw [if_pos c10] at H; have c10b0 : decide (a1 ≤ (wrap64 (a0_0 - 16))) = true := decide_eq_true c10; (try (have c10b1 : decide (a1 ≤ (IntKind.i64.wrap (a0_0 - 16))) = true := by simp only [i64_w]; exact decide_eq_true c10)); clear c10; simp only [Option.some.injEq, Prod.mk.injEq] at H; obtain ⟨rfl, rfl, rfl⟩ := H
    go_enter Try.func49, Try.ntmps49
    go_wp2_with (first | ((with_reducible refine gate_dst (N := 4) rfl ?_); refine box_event ?hg (N := 4) ?hd (cs := #[.int .i64 0, .slice none 0 0]) (t := 26) ?hr ?_; (case hd => rfl); (case hg => rfl); (case hr => first | (go_simp; done) | (go_simp; rfl)); intro gb110 hg w11 hbox hb; have n0_ := Aside0.mk (below_step below_a hb); have BK110 := Aside0.mk (hbox); have GW110 := Aside0.mk (bsz_ (w := w) hg); have GE110 := Aside0.mk (bsz_ (w := w) hg); replace HB := n0_; clear n0_; clear hb hbox hg) | ((with_reducible refine gate_callee (f := 50) rfl ?_); refine goesL_ (some 10) rfl rfl Try.func50 (by kernel_rfl) rfl #[.int .i64 a1, .int .i64 0, .int .i64 1000000000] rfl args_a ?_; (with_reducible refine (spec_l1In.calls a1 0 1000000000 true _ A3.out).mono ?_); rintro e w' ⟨rfl, ⟨nd, rfl⟩⟩; refine ⟨_, rfl, ?_⟩; (try (rw [drewN_self w11]; generalize hq_ : World.drewN w11 _ = w11; have n0_ : Aside0 (w11.heap[gb110]? = some (.cells #[.int .i64 0, .slice none 0 0] 26 (0, 0))) := ⟨by rw [← hq_]; exact blk_a⟩; have n1_ : Aside0 (Below w.heap.size w w11) := ⟨by rw [← hq_]; exact below_a⟩; clear BK110 HB hq_; have BK110 := n0_; have HB := n1_; clear n0_ n1_)); have hcz12_0 : w11.cell? p = some (.int .i64 a0_0) := (HB.out.cell (p := p) HLP.out).trans HXP_0.out; have hcz12_1 : w11.cell? ⟨p.block, p.off + 1, none⟩ = some (.slice A0_1 l0_1.length c0_1) := (HB.out.cell (p := ⟨p.block, p.off + 1, none⟩) HLP.out).trans HXP_1.out; have hnpz12_110 : p.block ≠ gb110 := Nat.ne_of_lt (Nat.lt_of_lt_of_le HLP.out GW110.out)) | ((with_reducible refine gate_callee (f := 61) rfl ?_); refine goesL_ (some 18) rfl rfl Try.func61 (by kernel_rfl) rfl #[.slice A0_1 l0_1.length c0_1, .int .i64 a1] rfl args_a ?_; (with_reducible refine (spec_l1Has.calls k _ _ l0_1 a1 false _ ?side1 ?side2 A5.out).mono ?_); (case side1 => repeat (first | exact (Kd.C_below HR0_1.out HB.out) | (with_reducible refine Kd.C_alloc ?_ _) | (with_reducible refine Kd.C_drewN ?_ _) | (with_reducible refine Kd.C_drew ?_))); (case side2 => exact HC0_1.out); rintro e w' ⟨rfl, ⟨nd, rfl⟩⟩; refine ⟨_, rfl, ?_⟩; (try (rw [drewN_self w11]; generalize hq_ : World.drewN w11 _ = w11; have n0_ : Aside0 (w11.heap[gb110]? = some (.cells #[.int .i64 0, .slice none 0 0] 26 (0, 0))) := ⟨by rw [← hq_]; exact blk_a⟩; have n1_ : Aside0 (Below w.heap.size w w11) := ⟨by rw [← hq_]; exact below_a⟩; clear BK110 HB hq_; have BK110 := n0_; have HB := n1_; clear n0_ n1_)); have hcz13_0 : w11.cell? p = some (.int .i64 a0_0) := (HB.out.cell (p := p) HLP.out).trans HXP_0.out; have hcz13_1 : w11.cell? ⟨p.block, p.off + 1, none⟩ = some (.slice A0_1 l0_1.length c0_1) := (HB.out.cell (p := ⟨p.block, p.off + 1, none⟩) HLP.out).trans HXP_1.out; have hnpz13_110 : p.block ≠ gb110 := Nat.ne_of_lt (Nat.lt_of_lt_of_le HLP.out GW110.out); obtain ⟨hcz14_0, hcz14_1, hfz14_0, hfz14_1⟩ := bc2_ BK110.out))
    refine bodyPost_ret (results_ct rfl _ _ gb110 26 #[.int .i64 0, .slice none 0 0] (0, 0) _ rfl blk_a Try.underlying26 rfl (by kernel_rfl)) rfl ?_; exact ⟨_, eq_a, by first | exact Kd.R_nil _ _ _ _ _ | exact Kd.N_nil _ _ _ _ _ | exact Kd.V_nil _ _ _ _ _ | exact Kd.Q_nil _ _ _ _ _ | exact Kd.S_nil _ _ _ _ _, below_a⟩
   ·
    rw [if_neg c10] at H; have c10b0 : decide (a1 ≤ (wrap64 (a0_0 - 16))) = false := decide_eq_false c10; (try (have c10b1 : decide (a1 ≤ (IntKind.i64.wrap (a0_0 - 16))) = false := by simp only [i64_w]; exact decide_eq_false c10)); clear c10; replace H := Option.bind_eq_some_iff.mp H; obtain ⟨t113, A150, H⟩ := H; replace H : (spec_l6Take.l0 k a1 false 0 a0_0 l0_1 t113 ([] : List Int)) = some (r1, r2, r3) := H; have A15 := Aside0.mk A150; clear A150; have H' := Aside0.mk H; clear H
    go_enter Try.func49, Try.ntmps49
    go_wp2_with (first | ((with_reducible refine gate_dst (N := 4) rfl ?_); refine box_event ?hg (N := 4) ?hd (cs := #[.int .i64 0, .slice none 0 0]) (t := 26) ?hr ?_; (case hd => rfl); (case hg => rfl); (case hr => first | (go_simp; done) | (go_simp; rfl)); intro gb110 hg w16 hbox hb; have n0_ := Aside0.mk (below_step below_a hb); have BK110 := Aside0.mk (hbox); have GW110 := Aside0.mk (bsz_ (w := w) hg); have GE110 := Aside0.mk (bsz_ (w := w) hg); replace HB := n0_; clear n0_; clear hb hbox hg) | ((with_reducible refine gate_callee (f := 50) rfl ?_); refine goesL_ (some 10) rfl rfl Try.func50 (by kernel_rfl) rfl #[.int .i64 a1, .int .i64 0, .int .i64 1000000000] rfl args_a ?_; (with_reducible refine (spec_l1In.calls a1 0 1000000000 true _ A3.out).mono ?_); rintro e w' ⟨rfl, ⟨nd, rfl⟩⟩; refine ⟨_, rfl, ?_⟩; (try (rw [drewN_self w16]; generalize hq_ : World.drewN w16 _ = w16; have n0_ : Aside0 (w16.heap[gb110]? = some (.cells #[.int .i64 0, .slice none 0 0] 26 (0, 0))) := ⟨by rw [← hq_]; exact blk_a⟩; have n1_ : Aside0 (Below w.heap.size w w16) := ⟨by rw [← hq_]; exact below_a⟩; clear BK110 HB hq_; have BK110 := n0_; have HB := n1_; clear n0_ n1_)); have hcz17_0 : w16.cell? p = some (.int .i64 a0_0) := (HB.out.cell (p := p) HLP.out).trans HXP_0.out; have hcz17_1 : w16.cell? ⟨p.block, p.off + 1, none⟩ = some (.slice A0_1 l0_1.length c0_1) := (HB.out.cell (p := ⟨p.block, p.off + 1, none⟩) HLP.out).trans HXP_1.out; have hnpz17_110 : p.block ≠ gb110 := Nat.ne_of_lt (Nat.lt_of_lt_of_le HLP.out GW110.out)) | ((with_reducible refine gate_callee (f := 61) rfl ?_); refine goesL_ (some 18) rfl rfl Try.func61 (by kernel_rfl) rfl #[.slice A0_1 l0_1.length c0_1, .int .i64 a1] rfl args_a ?_; (with_reducible refine (spec_l1Has.calls k _ _ l0_1 a1 false _ ?side1 ?side2 A5.out).mono ?_); (case side1 => repeat (first | exact (Kd.C_below HR0_1.out HB.out) | (with_reducible refine Kd.C_alloc ?_ _) | (with_reducible refine Kd.C_drewN ?_ _) | (with_reducible refine Kd.C_drew ?_))); (case side2 => exact HC0_1.out); rintro e w' ⟨rfl, ⟨nd, rfl⟩⟩; refine ⟨_, rfl, ?_⟩; (try (rw [drewN_self w16]; generalize hq_ : World.drewN w16 _ = w16; have n0_ : Aside0 (w16.heap[gb110]? = some (.cells #[.int .i64 0, .slice none 0 0] 26 (0, 0))) := ⟨by rw [← hq_]; exact blk_a⟩; have n1_ : Aside0 (Below w.heap.size w w16) := ⟨by rw [← hq_]; exact below_a⟩; clear BK110 HB hq_; have BK110 := n0_; have HB := n1_; clear n0_ n1_)); have hcz18_0 : w16.cell? p = some (.int .i64 a0_0) := (HB.out.cell (p := p) HLP.out).trans HXP_0.out; have hcz18_1 : w16.cell? ⟨p.block, p.off + 1, none⟩ = some (.slice A0_1 l0_1.length c0_1) := (HB.out.cell (p := ⟨p.block, p.off + 1, none⟩) HLP.out).trans HXP_1.out; have hnpz18_110 : p.block ≠ gb110 := Nat.ne_of_lt (Nat.lt_of_lt_of_le HLP.out GW110.out)) | ((with_reducible refine gate_callee (f := 62) rfl ?_); refine goesL_ (some 33) rfl rfl Try.func62 (by kernel_rfl) rfl #[.int .i64 a0_0, .int .i64 a1] rfl args_a ?_; (with_reducible refine (spec_l1Max.calls a0_0 a1 t113 _ A15.out).mono ?_); rintro e w' ⟨rfl, ⟨nd, rfl⟩⟩; refine ⟨_, rfl, ?_⟩; (try (rw [drewN_self w16]; generalize hq_ : World.drewN w16 _ = w16; have n0_ : Aside0 (w16.heap[gb110]? = some (.cells #[.int .i64 0, .slice none 0 0] 26 (0, 0))) := ⟨by rw [← hq_]; exact blk_a⟩; have n1_ : Aside0 (Below w.heap.size w w16) := ⟨by rw [← hq_]; exact below_a⟩; clear BK110 HB hq_; have BK110 := n0_; have HB := n1_; clear n0_ n1_))) | ((with_reducible refine gate_dst (N := 6) rfl ?_); refine box_event ?hg (N := 6) ?hd (cs := #[.int .i64 0, .slice none 0 0]) (t := 26) ?hr ?_; (case hd => rfl); (case hg => rfl); (case hr => first | (go_simp; done) | (go_simp; rfl)); intro gb114 hg w19 hbox hb; have n0_ := Aside0.mk (blk_below (g := gb110) blk_c hb); have n1_ := Aside0.mk (below_step below_a hb); have BK114 := Aside0.mk (hbox); have GW114 := Aside0.mk (bsz_ (w := w) hg); have GE114 := Aside0.mk (bsz_ (w := w) hg); have NB110_114 := Aside0.mk (bne_ (g := gb110) hg); have NB114_110 := Aside0.mk (bne_ (g := gb110) hg).symm; replace BK110 := n0_; replace HB := n1_; clear n0_ n1_; clear hb hbox hg; have hnb20 := NB114_110.out; have hnc20 := NB110_114.out; obtain ⟨hcz21_0, hcz21_1, hfz21_0, hfz21_1⟩ := bc2_ BK114.out))
    go_loopg [7, 8] k (fun kq v7 v8 w' => ∃ (x7_1 : Bool) (x8_1 : Int) (x115001_1 : List Int) (u115001 : Value), v7 = .bool x7_1 ∧ v8 = .int .i64 x8_1 ∧ Aside0 (spec_l6Take.l0 kq a1 x7_1 x8_1 a0_0 l0_1 t113 x115001_1 = some (r1, r2, r3)) ∧ Aside0 (kq ≤ k) ∧ Aside0 (Kd.R (Kd.int .i64) 2 w' w.heap.size (fun _ => True) u115001 x115001_1) ∧ Aside0 (w'.heap[gb110]? = some (.cells #[.int .i64 0, (.slice none 0 0)] 26 (0, 0))) ∧ Aside0 (w'.heap[gb114]? = some (.cells #[.int .i64 t113, u115001] 26 (0, 0))) ∧ Aside0 (Below w.heap.size w w'))
    case atStart => exact ⟨(false), (0), (([] : List Int)), (.slice none 0 0), eq_b, eq_b, H', ⟨Nat.le_refl _⟩, ⟨by first | exact Kd.R_nil _ _ _ _ _ | exact Kd.N_nil _ _ _ _ _ | exact Kd.V_nil _ _ _ _ _ | exact Kd.Q_nil _ _ _ _ _ | exact Kd.S_nil _ _ _ _ _⟩, ⟨blk_a⟩, ⟨blk_a⟩, ⟨below_a⟩⟩
    case round =>
     clear H'
     try clear c1
     try clear c2
     try clear p2
     try clear c4
     try clear c5
     try clear c6
     try clear p6
     try clear c10 c10b0 c10b1
     try clear c20
     try clear hcz12_0 hcz12_1
     try clear hcz13_0 hcz13_1
     try clear hcz14_0 hcz14_1
     try clear hcz17_0 hcz17_1
     try clear hcz18_0 hcz18_1
     try clear hcz21_0 hcz21_1
     try clear hcz8_0 hcz8_1
     try clear hcz9_0 hcz9_1
     try clear hfz14_0 hfz14_1
     try clear hfz21_0 hfz21_1
     try clear hfz9_0 hfz9_1
     obtain ⟨x7_1, x8_1, x115001_1, u115001, rfl, rfl, HA, HK1, HO_115001, BK110, BK114, HB⟩ := hrel
     cases gk with
     | zero => exact absurd HA.out (by simp [spec_l6Take.l0])
     | succ k1 =>
      have H := HA.out; clear HA; simp only [spec_l6Take.l0] at H
      by_cases c22 : x8_1 < (l0_1.length : Int)
      ·
       rw [if_pos c22] at H; have c22b0 : decide (x8_1 < (l0_1.length : Int)) = true := decide_eq_true c22; clear c22; have HC23 := Aside0.mk H; clear H; have hcz24_0 : wr.cell? p = some (.int .i64 a0_0) := (HB.out.cell (p := p) HLP.out).trans HXP_0.out; have hcz24_1 : wr.cell? ⟨p.block, p.off + 1, none⟩ = some (.slice A0_1 l0_1.length c0_1) := (HB.out.cell (p := ⟨p.block, p.off + 1, none⟩) HLP.out).trans HXP_1.out; have hnpz24_110 : p.block ≠ gb110 := Nat.ne_of_lt (Nat.lt_of_lt_of_le HLP.out GW110.out); have hnpz24_114 : p.block ≠ gb114 := Nat.ne_of_lt (Nat.lt_of_lt_of_le HLP.out GW114.out)
       go_upto_region 12 with (fail)
       go_cut [56] (fun v56 wc => ∃ (kq : Nat) (x56_22 : Bool), v56 = .bool x56_22 ∧ Aside0 (spec_l6Take.j1 kq a1 x7_1 x8_1 x56_22 a0_0 l0_1 t113 x115001_1 = some (r1, r2, r3)) ∧ Aside0 (kq ≤ k1) ∧ Aside0 (Kd.R (Kd.int .i64) 2 wc w.heap.size (fun _ => True) u115001 x115001_1) ∧ Aside0 (wc.heap[gb110]? = some (.cells #[.int .i64 0, (.slice none 0 0)] 26 (0, 0))) ∧ Aside0 (wc.heap[gb114]? = some (.cells #[.int .i64 t113, u115001] 26 (0, 0))) ∧ Aside0 (Below w.heap.size w wc))
       case first =>
        have H := HC23.out; clear HC23
        by_cases c25 : x7_1 = true
        ·
         subst c25; have H1 : (spec_l6Take.j1 k1 a1 true x8_1 false a0_0 l0_1 t113 x115001_1) = some (r1, r2, r3) := by rw [if_pos rfl] at H; exact H
         clear H; have H := H1; clear H1; have H' := Aside0.mk H; clear H
         go_wp2
         go_meet
         case rel => exact ⟨_, (false), eq_b, H', ⟨by have := HK1.out; first | omega | exact Nat.le_refl _⟩, ⟨R_a HO_115001.out⟩, ⟨blk_a⟩, ⟨blk_a⟩, ⟨below_a⟩⟩
        ·
         replace c25 := Bool.eq_false_iff.mpr c25; subst c25; have H1 : (if 0 ≤ x8_1 then (spec_l6Take.j1 k1 a1 false x8_1 (decide ((rd l0_1 x8_1) > a1)) a0_0 l0_1 t113 x115001_1) else (none)) = some (r1, r2, r3) := by rw [if_neg (show ¬ (false = true) by decide)] at H; exact H
         clear H; have H := H1; clear H1
         by_cases c26 : 0 ≤ x8_1
         ·
          rw [if_pos c26] at H; have c26b0 : decide (0 ≤ x8_1) = true := decide_eq_true c26; clear c26; (first | rw [c26b0] | (simp only [i64_w, i32_w]; rw [c26b0]) | skip); have H' := Aside0.mk H; clear H; have hcz27_0 : wr.cell? p = some (.int .i64 a0_0) := (HB.out.cell (p := p) HLP.out).trans HXP_0.out; have hcz27_1 : wr.cell? ⟨p.block, p.off + 1, none⟩ = some (.slice A0_1 l0_1.length c0_1) := (HB.out.cell (p := ⟨p.block, p.off + 1, none⟩) HLP.out).trans HXP_1.out; have hnpz27_110 : p.block ≠ gb110 := Nat.ne_of_lt (Nat.lt_of_lt_of_le HLP.out GW110.out); have hnpz27_114 : p.block ≠ gb114 := Nat.ne_of_lt (Nat.lt_of_lt_of_le HLP.out GW114.out); have p118 : 0 ≤ (x8_1 : Int) := of_decide_eq_true (by first | (with_reducible assumption) | assumption); have q118 : x8_1 < (l0_1.length : Int) := of_decide_eq_true (by first | (with_reducible assumption) | assumption); obtain ⟨ad118, e118, hx118_0⟩ := Kd.at_int HR0_1.out x8_1 p118 q118
          cases e118
          replace hx118_0 := (HB.out.cell (World.block_lt_of_cell? w _ hx118_0)).trans hx118_0; replace p118 := eq_true p118; replace q118 := eq_true q118
          go_wp2
          go_meet
          case rel => exact ⟨_, (decide ((rd l0_1 x8_1) > a1)), eq_b, H', ⟨by have := HK1.out; first | omega | exact Nat.le_refl _⟩, ⟨R_a HO_115001.out⟩, ⟨blk_a⟩, ⟨blk_a⟩, ⟨below_a⟩⟩
         ·
          rw [if_neg c26] at H; exact absurd H (by simp)
       case rest =>
        clear HC23
        try clear c1
        try clear p1
        try clear q1
        try clear hx1
        try clear c2
        try clear p2 p2
        try clear c4
        try clear c5
        try clear c6
        try clear p6 p6
        try clear c10 c10b0 c10b1
        try clear p11
        try clear q11
        try clear hx11
        try clear c20
        try clear c22 c22b0
        try clear c25
        try clear c26 c26b0
        try clear hcz12_0 hcz12_1
        try clear hcz13_0 hcz13_1
        try clear hcz14_0 hcz14_1
        try clear hcz17_0 hcz17_1
        try clear hcz18_0 hcz18_1
        try clear hcz21_0 hcz21_1
        try clear hcz24_0 hcz24_1
        try clear hcz27_0 hcz27_1
        try clear hcz8_0 hcz8_1
        try clear hcz9_0 hcz9_1
        try clear hfz14_0 hfz14_1
        try clear hfz21_0 hfz21_1
        try clear hfz9_0 hfz9_1
        try clear hx118_0
        try clear p118
        try clear q118
        obtain ⟨kq, x56_22, rfl, HA, HJ22, HO_115001, BK110, BK114, HB⟩ := hcut
        cases kq with
        | zero => exact absurd HA.out (by simp [spec_l6Take.j1])
        | succ kj22 =>
         have H := HA.out; clear HA; simp only [spec_l6Take.j1] at H
         by_cases c28 : x56_22 = true
         ·
          subst c28; have H1 : (if x115001_1.length < 17592186044416 then ((some (x115001_1 ++ [a1] : List Int)).bind fun y119 => (if 0 ≤ x8_1 then (if x8_1 < (l0_1.length : Int) then (if (rd l0_1 x8_1) > (wrap64 (t113 - 16)) then (if y119.length < 17592186044416 then (spec_l6Take.l0 kj22 a1 true (wrap64 (x8_1 + 1)) a0_0 l0_1 t113 (y119 ++ [rd l0_1 x8_1])) else (none)) else (spec_l6Take.l0 kj22 a1 true (wrap64 (x8_1 + 1)) a0_0 l0_1 t113 y119)) else (none)) else (none))) else (none)) = some (r1, r2, r3) := by rw [if_pos rfl] at H; exact H
          clear H; have H := H1; clear H1
          by_cases c29 : x115001_1.length < 17592186044416
          ·
           rw [if_pos c29] at H; have LMc29 := Aside0.mk c29; clear c29; obtain ⟨y119, hy119⟩ : ∃ y_ : List Int, y_ = (x115001_1 ++ [a1]) := ⟨_, rfl⟩; replace H : (if 0 ≤ x8_1 then (if x8_1 < (l0_1.length : Int) then (if (rd l0_1 x8_1) > (wrap64 (t113 - 16)) then (if y119.length < 17592186044416 then (spec_l6Take.l0 kj22 a1 true (wrap64 (x8_1 + 1)) a0_0 l0_1 t113 (y119 ++ [rd l0_1 x8_1])) else (none)) else (spec_l6Take.l0 kj22 a1 true (wrap64 (x8_1 + 1)) a0_0 l0_1 t113 y119)) else (none)) else (none)) = some (r1, r2, r3) := by first | (rw [hy119]; with_reducible exact H) | (have H2_ := (Option.bind_some _ _).symm.trans H; rw [hy119]; with_reducible exact H2_) | (have H2_ := (Option.bind_some _ _).symm.trans H; with_reducible exact H2_) | with_reducible exact H | (rw [hy119]; exact H) | exact H
           have Ny119 := Aside0.mk hy119; clear hy119
           by_cases c30 : 0 ≤ x8_1
           ·
            rw [if_pos c30] at H; have c30b0 : decide (0 ≤ x8_1) = true := decide_eq_true c30; clear c30
            by_cases c31 : x8_1 < (l0_1.length : Int)
            ·
             rw [if_pos c31] at H; have c31b0 : decide (x8_1 < (l0_1.length : Int)) = true := decide_eq_true c31; clear c31
             by_cases c32 : (rd l0_1 x8_1) > (wrap64 (t113 - 16))
             ·
              rw [if_pos c32] at H; have c32b0 : decide ((wrap64 (t113 - 16)) < (rd l0_1 x8_1)) = true := decide_eq_true c32; (try (have c32b1 : decide ((IntKind.i64.wrap (t113 - 16)) < (rd l0_1 x8_1)) = true := by simp only [i64_w]; exact decide_eq_true c32)); clear c32
              by_cases c33 : y119.length < 17592186044416
              ·
               rw [if_pos c33] at H; have LMc33 := Aside0.mk c33; clear c33; obtain ⟨y124, hy124⟩ : ∃ y_ : List Int, y_ = (y119 ++ [rd l0_1 x8_1]) := ⟨_, rfl⟩; replace H : (spec_l6Take.l0 kj22 a1 true (wrap64 (x8_1 + 1)) a0_0 l0_1 t113 y124) = some (r1, r2, r3) := by first | (rw [hy124]; with_reducible exact H) | (have H2_ := (Option.bind_some _ _).symm.trans H; rw [hy124]; with_reducible exact H2_) | (have H2_ := (Option.bind_some _ _).symm.trans H; with_reducible exact H2_) | with_reducible exact H | (rw [hy124]; exact H) | exact H
               have Ny124 := Aside0.mk hy124; clear hy124; have H' := Aside0.mk H; clear H; have hnb34 := NB114_110.out; have hnc34 := NB110_114.out; obtain ⟨hcz35_0, hcz35_1, hfz35_0, hfz35_1⟩ := bc2_ BK114.out
               try go_wp2_with (first | ((with_reducible refine gate_builtin (b := .append) (xs := #[.tmp 58, .tmp 60]) rfl ?_); at_builtin; refine Kd.R_append (Kd.int .i64) (w0 := w) w.heap.size rfl (.tmp 58) (.tmp 60) 24 2 (.int .i64 0) 8 rfl Try.underlying24 info2 rfl (by decide) (by omega) u115001 x115001_1 a1 [.int .i64 a1] (fun _ => True) (fun _ => False) rfl rfl ?aP (fun _ hk => hk.elim) ?aF ?aO ?aB ?aS ?aL ?_; (case aP => exact rfl); (case aB => exact below_a); (case aF => exact (fun _ _ => trivial)); (case aO => exact (R_a HO_115001.out)); (case aS => exact (below_size below_a)); (case aL => have := LMc29.out; omega); intro v120 w36 ho hb hg hat; rw [← Ny119.out] at ho; replace BK110 := Aside0.mk (blk_grown (g := gb110) blk_c hg (Kd.R_ne HO_115001.out BK110.out (by decide))); replace BK114 := Aside0.mk (blk_grown (g := gb114) blk_c hg (Kd.R_ne HO_115001.out BK114.out (by decide))); replace HB := Aside0.mk (hb); have HO121 := Aside0.mk (ho); clear HO_115001; clear ho hb hg hat; obtain ⟨Ao37, co37, eo37⟩ := Kd.R_slice HO121.out; subst eo37; obtain ⟨hcz38_0, hcz38_1, hfz38_0, hfz38_1⟩ := bc2_ BK114.out))
               generalize hW_ : (w36.setCell ⟨gb114, 1, none⟩ (.slice Ao37 y119.length co37)) = w39 at ⊢; have n0_ : Aside0 (Kd.R (Kd.int .i64) 2 w39 w.heap.size (fun _ => True) (.slice Ao37 y119.length co37) y119) := hW_ ▸ ⟨by (with_reducible repeat (first | apply Kd.R_alloc | apply Kd.R_drewN | apply Kd.R_drew)); exact Kd.R_mono (Kd.R_far (p := ⟨gb114, 1, none⟩) (Kd.R_types HO121.out BK114.out (by decide)) (fun _ hk => hk.2) (.slice Ao37 y119.length co37)) (fun _ hk => trivial)⟩; have n1_ : Aside0 (w39.heap[gb110]? = some (.cells #[.int .i64 0, .slice none 0 0] 26 (0, 0))) := hW_ ▸ ⟨blk_a⟩; have n2_ : Aside0 (w39.heap[gb114]? = some (.cells #[.int .i64 t113, .slice Ao37 y119.length co37] 26 (0, 0))) := hW_ ▸ ⟨blk_a⟩; have n3_ : Aside0 (Below w.heap.size w w39) := hW_ ▸ ⟨below_a⟩; (try clear HO121); (try clear BK110); (try clear BK114); (try clear HB); clear hW_; have HO121 := n0_; have BK110 := n1_; have BK114 := n2_; have HB := n3_; clear n0_ n1_ n2_ n3_; replace HO121 := Aside0.mk (Kd.R_drew HO121.out); replace BK110 := Aside0.mk (blk_drew BK110.out); replace BK114 := Aside0.mk (blk_drew BK114.out); replace HB := Aside0.mk (below_drew1 HB.out); have p122 : 0 ≤ (x8_1 : Int) := of_decide_eq_true (by first | (with_reducible assumption) | assumption); have q122 : x8_1 < (l0_1.length : Int) := of_decide_eq_true (by first | (with_reducible assumption) | assumption); obtain ⟨ad122, e122, hx122_0⟩ := Kd.at_int HR0_1.out x8_1 p122 q122; have hw122_0 := hx122_0
               cases e122
               replace hx122_0 := (HB.out.cell (World.block_lt_of_cell? w _ hx122_0)).trans hx122_0; replace p122 := eq_true p122; replace q122 := eq_true q122; refine start_ (n := 11) (S := fun w' => w'.cell? p = some (.int .i64 a0_0) ∧ w'.cell? ⟨p.block, p.off + 1, none⟩ = some (.slice (some ad122) l0_1.length c0_1) ∧ w'.cell? ⟨gb114, 0, none⟩ = some (.int .i64 t113) ∧ w'.cell? ⟨gb114, 1, none⟩ = some (.slice Ao37 y119.length co37) ∧ w'.cell? (ad122.add (x8_1).toNat) = some (.int .i64 (rd l0_1 x8_1))) (ds := []) #[Z',Z',Z',Z',Z',Z',Z',Z',Z',Z',Z'] (by kernel_rfl) rfl rfl ⟨((HB.out.cell (p := p) HLP.out).trans HXP_0.out), ((HB.out.cell (p := ⟨p.block, p.off + 1, none⟩) HLP.out).trans HXP_1.out), (blk_cell BK114.out 0).trans rfl, (blk_cell BK114.out 1).trans rfl, ((HB.out.cell (World.block_lt_of_cell? w _ hw122_0)).trans hw122_0)⟩ (fun hHeld => ?_); refine with_tabW spec_l6Take.tab15 spec_l6Take.bits15 (fun HT_ HW_ => ?_); generalize w39.drew = w40 at HO121 BK110 BK114 HB hx122_0 hHeld ⊢; refine pure_ (i := 0) (N := some 63) (v := ?_) (a' := ?_) #[Y',Z',Z',Z',Z',Z',Z',Z',Z',Z',Z'] rfl rfl (any_of HT_.out (by kernel_rfl)) (fun _ _ _ h => h) (Or.inl ⟨by rfl, ?_⟩) ?_ ?_; rotate_left
               ·
                intro w'
                go_simp
                with_reducible rfl
               rotate_left
               ·
                simp only [Act.put, List.setIfInBounds_toArray, List.set_cons_zero, List.set_cons_succ, i64_w, i32_w]; rfl
               refine pure_ (i := 1) (N := some 64) (v := ?_) (a' := ?_) #[Y',Y',Z',Z',Z',Z',Z',Z',Z',Z',Z'] rfl rfl (any_of HT_.out (by kernel_rfl)) (fun _ _ _ h => h) (Or.inl ⟨by rfl, ?_⟩) ?_ ?_; rotate_left
               ·
                intro w'
                go_simp
                with_reducible rfl
               rotate_left
               ·
                simp only [Act.put, List.setIfInBounds_toArray, List.set_cons_zero, List.set_cons_succ, i64_w, i32_w]; rfl
               refine pure_ (i := 2) (N := some 65) (v := ?_) (a' := ?_) #[Y',Y',Y',Z',Z',Z',Z',Z',Z',Z',Z'] rfl rfl (any_of HT_.out (by kernel_rfl)) (fun _ _ _ h => h) (Or.inl ⟨by rfl, ?_⟩) ?_ ?_; rotate_left
               ·
                intro w'
                go_simp
                with_reducible rfl
               rotate_left
               ·
                simp only [Act.put, List.setIfInBounds_toArray, List.set_cons_zero, List.set_cons_succ, i64_w, i32_w]; rfl
               refine pure_ (i := 4) (N := some 67) (v := ?_) (a' := ?_) #[Y',Y',Y',Z',Y',Z',Z',Z',Z',Z',Z'] rfl rfl (any_of HT_.out (by kernel_rfl)) (fun _ _ _ h => h) (Or.inl ⟨by rfl, ?_⟩) ?_ ?_; rotate_left
               ·
                intro w'
                go_simp
                with_reducible rfl
               rotate_left
               ·
                simp only [Act.put, List.setIfInBounds_toArray, List.set_cons_zero, List.set_cons_succ, i64_w, i32_w]; rfl
               refine pure_ (i := 7) (N := some 70) (v := ?_) (a' := ?_) #[Y',Y',Y',Z',Y',Z',Z',Y',Z',Z',Z'] rfl rfl (any_of HT_.out (by kernel_rfl)) (fun _ _ _ h => h) (Or.inl ⟨by rfl, ?_⟩) ?_ ?_; rotate_left
               ·
                intro w'
                go_simp
                with_reducible rfl
               rotate_left
               ·
                simp only [Act.put, List.setIfInBounds_toArray, List.set_cons_zero, List.set_cons_succ, i64_w, i32_w]; rfl
               refine take_ (i := 3) (N := some 66) (v := ?_) (a' := ?_) #[Y',Y',Y',Y',Y',Z',Z',Y',Z',Z',Z'] rfl rfl (take_ofW HT_.out HW_.out (by kernel_rfl)) (fun _ _ _ h => h) (Or.inl ⟨by rfl, ?_⟩) hHeld ?_ ?_; rotate_left
               ·
                rintro w' ⟨s0, s1, s2, s3, s4⟩
                go_simp
                with_reducible rfl
               rotate_left
               ·
                simp only [Act.put, List.setIfInBounds_toArray, List.set_cons_zero, List.set_cons_succ, i64_w, i32_w]; rfl
               refine pure_ (i := 5) (N := some 68) (v := ?_) (a' := ?_) #[Y',Y',Y',Y',Y',Y',Z',Y',Z',Z',Z'] rfl rfl (any_of HT_.out (by kernel_rfl)) (fun _ _ _ h => h) (Or.inl ⟨by rfl, ?_⟩) ?_ ?_; rotate_left
               ·
                intro w'
                go_simp
                with_reducible rfl
               rotate_left
               ·
                simp only [Act.put, List.setIfInBounds_toArray, List.set_cons_zero, List.set_cons_succ, i64_w, i32_w]; rfl
               refine take_ (i := 6) (N := some 69) (v := ?_) (a' := ?_) #[Y',Y',Y',Y',Y',Y',Y',Y',Z',Z',Z'] rfl rfl (take_ofW HT_.out HW_.out (by kernel_rfl)) (fun _ _ _ h => h) (Or.inl ⟨by rfl, ?_⟩) hHeld ?_ ?_; rotate_left
               ·
                rintro w' ⟨s0, s1, s2, s3, s4⟩
                go_simp
                with_reducible rfl
               rotate_left
               ·
                simp only [Act.put, List.setIfInBounds_toArray, List.set_cons_zero, List.set_cons_succ, i64_w, i32_w]; rfl
               refine take_ (i := 8) (N := some 71) (v := ?_) (a' := ?_) #[Y',Y',Y',Y',Y',Y',Y',Y',Y',Z',Z'] rfl rfl (take_ofW HT_.out HW_.out (by kernel_rfl)) (fun _ _ _ h => h) (Or.inl ⟨by rfl, ?_⟩) hHeld ?_ ?_; rotate_left
               ·
                rintro w' ⟨s0, s1, s2, s3, s4⟩
                go_simp
                with_reducible rfl
               rotate_left
               ·
                simp only [Act.put, List.setIfInBounds_toArray, List.set_cons_zero, List.set_cons_succ, i64_w, i32_w]; rfl
               refine pure_ (i := 9) (N := some 72) (v := ?_) (a' := ?_) #[Y',Y',Y',Y',Y',Y',Y',Y',Y',Y',Z'] rfl rfl (any_of HT_.out (by kernel_rfl)) (fun _ _ _ h => h) (Or.inl ⟨by rfl, ?_⟩) ?_ ?_; rotate_left
               ·
                intro w'
                go_simp
                with_reducible rfl
               rotate_left
               ·
                simp only [Act.put, List.setIfInBounds_toArray, List.set_cons_zero, List.set_cons_succ, i64_w, i32_w]; rfl
               refine pure_ (i := 10) (N := some 73) (v := ?_) (a' := ?_) #[Y',Y',Y',Y',Y',Y',Y',Y',Y',Y',Y'] rfl rfl (any_of HT_.out (by kernel_rfl)) (fun _ _ _ h => h) (Or.inl ⟨by rfl, ?_⟩) ?_ ?_; rotate_left
               ·
                intro w'
                go_simp
                with_reducible rfl
               rotate_left
               ·
                simp only [Act.put, List.setIfInBounds_toArray, List.set_cons_zero, List.set_cons_succ, i64_w, i32_w]; rfl
               refine done_ (done_of HT_.out (by kernel_rfl)) ?_
               try go_wp2
               replace HO121 := Aside0.mk (Kd.R_drew HO121.out); replace BK110 := Aside0.mk (blk_drew BK110.out); replace BK114 := Aside0.mk (blk_drew BK114.out); replace HB := Aside0.mk (below_drew1 HB.out); have p123 : 0 ≤ (x8_1 : Int) := of_decide_eq_true (by first | (with_reducible assumption) | assumption); have q123 : x8_1 < (l0_1.length : Int) := of_decide_eq_true (by first | (with_reducible assumption) | assumption); obtain ⟨ad123, e123, hx123_0⟩ := Kd.at_int HR0_1.out x8_1 p123 q123; have hw123_0 := hx123_0; obtain rfl : ad122 = ad123 := (by injection e123); replace hx123_0 := (HB.out.cell (World.block_lt_of_cell? w _ hx123_0)).trans hx123_0; replace p123 := eq_true p123; replace q123 := eq_true q123; refine start_ (n := 13) (S := fun w' => w'.cell? ⟨gb114, 0, none⟩ = some (.int .i64 t113) ∧ w'.cell? ⟨gb114, 1, none⟩ = some (.slice Ao37 y119.length co37) ∧ w'.cell? p = some (.int .i64 a0_0) ∧ w'.cell? ⟨p.block, p.off + 1, none⟩ = some (.slice (some ad122) l0_1.length c0_1) ∧ w'.cell? (ad122.add (x8_1).toNat) = some (.int .i64 (rd l0_1 x8_1))) (ds := [12]) #[Z',Z',Z',Z',Z',Z',Z',Z',Z',Z',Z',Z',Z'] (by kernel_rfl) rfl rfl ⟨(blk_cell BK114.out 0).trans rfl, (blk_cell BK114.out 1).trans rfl, ((HB.out.cell (p := p) HLP.out).trans HXP_0.out), ((HB.out.cell (p := ⟨p.block, p.off + 1, none⟩) HLP.out).trans HXP_1.out), ((HB.out.cell (World.block_lt_of_cell? w _ hw123_0)).trans hw123_0)⟩ (fun hHeld => ?_); refine with_tabW spec_l6Take.tab16 spec_l6Take.bits16 (fun HT_ HW_ => ?_); generalize w40.drew = w41 at HO121 BK110 BK114 HB hx123_0 hHeld ⊢; refine pure_ (i := 0) (N := some 74) (v := ?_) (a' := ?_) #[Y',Z',Z',Z',Z',Z',Z',Z',Z',Z',Z',Z',Z'] rfl rfl (any_of HT_.out (by kernel_rfl)) (fun _ _ _ h => h) (Or.inl ⟨by rfl, ?_⟩) ?_ ?_; rotate_left
               ·
                intro w'
                go_simp
                with_reducible rfl
               rotate_left
               ·
                simp only [Act.put, List.setIfInBounds_toArray, List.set_cons_zero, List.set_cons_succ, i64_w, i32_w]; rfl
               refine pure_ (i := 2) (N := some 76) (v := ?_) (a' := ?_) #[Y',Z',Y',Z',Z',Z',Z',Z',Z',Z',Z',Z',Z'] rfl rfl (any_of HT_.out (by kernel_rfl)) (fun _ _ _ h => h) (Or.inl ⟨by rfl, ?_⟩) ?_ ?_; rotate_left
               ·
                intro w'
                go_simp
                with_reducible rfl
               rotate_left
               ·
                simp only [Act.put, List.setIfInBounds_toArray, List.set_cons_zero, List.set_cons_succ, i64_w, i32_w]; rfl
               refine pure_ (i := 3) (N := some 77) (v := ?_) (a' := ?_) #[Y',Z',Y',Y',Z',Z',Z',Z',Z',Z',Z',Z',Z'] rfl rfl (any_of HT_.out (by kernel_rfl)) (fun _ _ _ h => h) (Or.inl ⟨by rfl, ?_⟩) ?_ ?_; rotate_left
               ·
                intro w'
                go_simp
                with_reducible rfl
               rotate_left
               ·
                simp only [Act.put, List.setIfInBounds_toArray, List.set_cons_zero, List.set_cons_succ, i64_w, i32_w]; rfl
               refine pure_ (i := 4) (N := some 78) (v := ?_) (a' := ?_) #[Y',Z',Y',Y',Y',Z',Z',Z',Z',Z',Z',Z',Z'] rfl rfl (any_of HT_.out (by kernel_rfl)) (fun _ _ _ h => h) (Or.inl ⟨by rfl, ?_⟩) ?_ ?_; rotate_left
               ·
                intro w'
                go_simp
                with_reducible rfl
               rotate_left
               ·
                simp only [Act.put, List.setIfInBounds_toArray, List.set_cons_zero, List.set_cons_succ, i64_w, i32_w]; rfl
               refine pure_ (i := 6) (N := some 80) (v := ?_) (a' := ?_) #[Y',Z',Y',Y',Y',Z',Y',Z',Z',Z',Z',Z',Z'] rfl rfl (any_of HT_.out (by kernel_rfl)) (fun _ _ _ h => h) (Or.inl ⟨by rfl, ?_⟩) ?_ ?_; rotate_left
               ·
                intro w'
                go_simp
                with_reducible rfl
               rotate_left
               ·
                simp only [Act.put, List.setIfInBounds_toArray, List.set_cons_zero, List.set_cons_succ, i64_w, i32_w]; rfl
               refine take_ (i := 1) (N := some 75) (v := ?_) (a' := ?_) #[Y',Y',Y',Y',Y',Z',Y',Z',Z',Z',Z',Z',Z'] rfl rfl (take_ofW HT_.out HW_.out (by kernel_rfl)) (fun _ _ _ h => h) (Or.inl ⟨by rfl, ?_⟩) hHeld ?_ ?_; rotate_left
               ·
                rintro w' ⟨s0, s1, s2, s3, s4⟩
                go_simp
                with_reducible rfl
               rotate_left
               ·
                simp only [Act.put, List.setIfInBounds_toArray, List.set_cons_zero, List.set_cons_succ, i64_w, i32_w]; rfl
               refine take_ (i := 5) (N := some 79) (v := ?_) (a' := ?_) #[Y',Y',Y',Y',Y',Y',Y',Z',Z',Z',Z',Z',Z'] rfl rfl (take_ofW HT_.out HW_.out (by kernel_rfl)) (fun _ _ _ h => h) (Or.inl ⟨by rfl, ?_⟩) hHeld ?_ ?_; rotate_left
               ·
                rintro w' ⟨s0, s1, s2, s3, s4⟩
                go_simp
                with_reducible rfl
               rotate_left
               ·
                simp only [Act.put, List.setIfInBounds_toArray, List.set_cons_zero, List.set_cons_succ, i64_w, i32_w]; rfl
               refine pure_ (i := 7) (N := some 81) (v := ?_) (a' := ?_) #[Y',Y',Y',Y',Y',Y',Y',Y',Z',Z',Z',Z',Z'] rfl rfl (any_of HT_.out (by kernel_rfl)) (fun _ _ _ h => h) (Or.inl ⟨by rfl, ?_⟩) ?_ ?_; rotate_left
               ·
                intro w'
                go_simp
                with_reducible rfl
               rotate_left
               ·
                simp only [Act.put, List.setIfInBounds_toArray, List.set_cons_zero, List.set_cons_succ, i64_w, i32_w]; rfl
               refine take_ (i := 8) (N := some 82) (v := ?_) (a' := ?_) #[Y',Y',Y',Y',Y',Y',Y',Y',Y',Z',Z',Z',Z'] rfl rfl (take_ofW HT_.out HW_.out (by kernel_rfl)) (fun _ _ _ h => h) (Or.inl ⟨by rfl, ?_⟩) hHeld ?_ ?_; rotate_left
               ·
                rintro w' ⟨s0, s1, s2, s3, s4⟩
                go_simp
                with_reducible rfl
               rotate_left
               ·
                simp only [Act.put, List.setIfInBounds_toArray, List.set_cons_zero, List.set_cons_succ, i64_w, i32_w]; rfl
               refine one_ (i := 9) (N := some 83) #[Y',Y',Y',Y',Y',Y',Y',Y',Y',Y',Z',Z',Z'] rfl rfl (one_of HT_.out (by kernel_rfl)) (by decide) (fun K hK => ?_); refine value_ (w1 := ?_) (v := ?_) (by rfl) rfl ?_ ?_; rotate_left 2
               ·
                go_simp
                constructor
                ·
                 rfl
                ·
                 rfl
               refine hK.out _ _ ⟨(blk_cell (blk_alloc BK114.out _) 0).trans rfl, (blk_cell (blk_alloc BK114.out _) 1).trans rfl, (World.cell?_alloc_lt _ _ _ (World.block_lt_of_cell? _ _ (((HB.out.cell (p := p) HLP.out).trans HXP_0.out)))).trans (((HB.out.cell (p := p) HLP.out).trans HXP_0.out)), (World.cell?_alloc_lt _ _ _ (World.block_lt_of_cell? _ _ (((HB.out.cell (p := ⟨p.block, p.off + 1, none⟩) HLP.out).trans HXP_1.out)))).trans (((HB.out.cell (p := ⟨p.block, p.off + 1, none⟩) HLP.out).trans HXP_1.out)), (World.cell?_alloc_lt _ _ _ (World.block_lt_of_cell? _ _ (((HB.out.cell (World.block_lt_of_cell? w _ hw123_0)).trans hw123_0)))).trans (((HB.out.cell (World.block_lt_of_cell? w _ hw123_0)).trans hw123_0))⟩ (fun hHeld => ?_); clear hK K; refine norm_ (a' := ?_) ?_ ?_; rotate_left
               ·
                show Act.put _ (some 83) _ = _; simp only [Act.put, List.setIfInBounds_toArray, List.set_cons_zero, List.set_cons_succ, i64_w, i32_w]; rfl
               refine one_ (i := 10) (N := some 84) #[Y',Y',Y',Y',Y',Y',Y',Y',Y',Y',Y',Z',Z'] rfl rfl (one_of HT_.out (by kernel_rfl)) (by decide) (fun K hK => ?_); refine Kd.R_append_step (Kd.int .i64) (w0 := w) w.heap.size (by rfl) (.tmp 75) (.tmp 83) 24 2 (.int .i64 0) 8 rfl Try.underlying24 info2 rfl (by decide) (by omega) (.slice Ao37 y119.length co37) y119 (rd l0_1 x8_1) [.int .i64 (rd l0_1 x8_1)] (fun _ => True) (fun _ => False) rfl rfl ?aP (fun _ hk => hk.elim) ?aF ?aO ?aB ?aS ?aL ?_; (case aP => exact rfl); (case aB => exact below_a); (case aF => exact (fun _ _ => trivial)); (case aO => exact (R_a HO121.out)); (case aS => exact (below_size below_a)); (case aL => have := LMc33.out; omega); intro v125 w42 ho hb hg hat; rw [← Ny124.out] at ho; replace BK110 := Aside0.mk (blk_grown (g := gb110) blk_c hg (Kd.R_ne HO121.out BK110.out (by decide))); replace BK114 := Aside0.mk (blk_grown (g := gb114) blk_c hg (Kd.R_ne HO121.out BK114.out (by decide))); replace HB := Aside0.mk (hb); have HO126 := Aside0.mk (ho); clear HO121 ho hb hg hat; obtain ⟨Ao43, co43, eo43⟩ := Kd.R_slice HO126.out; (first | subst eo43 | (injection eo43 with f1_ f2_ f3_; have f4_ := f1_.symm; have f5_ := f3_.symm; clear f1_ f2_ f3_; subst f4_; subst f5_)); refine hK.out _ _ ⟨(blk_cell BK114.out 0).trans rfl, (blk_cell BK114.out 1).trans rfl, ((HB.out.cell (p := p) HLP.out).trans HXP_0.out), ((HB.out.cell (p := ⟨p.block, p.off + 1, none⟩) HLP.out).trans HXP_1.out), ((HB.out.cell (World.block_lt_of_cell? w _ hw123_0)).trans hw123_0)⟩ (fun hHeld => ?_); clear hK K; refine norm_ (a' := ?_) ?_ ?_; rotate_left
               ·
                show Act.put _ (some 84) _ = _; simp only [Act.put, List.setIfInBounds_toArray, List.set_cons_zero, List.set_cons_succ, i64_w, i32_w]; rfl
               refine pure_ (i := 11) (N := some 85) (v := ?_) (a' := ?_) #[Y',Y',Y',Y',Y',Y',Y',Y',Y',Y',Y',Y',Z'] rfl rfl (any_of HT_.out (by kernel_rfl)) (fun _ _ _ h => h) (Or.inl ⟨by rfl, ?_⟩) ?_ ?_; rotate_left
               ·
                intro w'
                go_simp
                with_reducible rfl
               rotate_left
               ·
                simp only [Act.put, List.setIfInBounds_toArray, List.set_cons_zero, List.set_cons_succ, i64_w, i32_w]; rfl
               refine last_ (i := 12) (N := none) #[Y',Y',Y',Y',Y',Y',Y',Y',Y',Y',Y',Y',Y'] rfl rfl (one_of HT_.out (by kernel_rfl)) (by decide) (fun K hK => ?_); have hs44 : w42.cell? ⟨gb114, 1, none⟩ = some (.slice Ao37 y119.length co37) := (blk_cell BK114.out 1).trans rfl; have hfs44 := blk_frozen BK114.out 1; have hns44_0 := NB110_114.out; have hms44_0 := NB114_110.out; refine skip_ (w1 := ?_) (by rfl) rfl ?_ ?_; rotate_left
               ·
                go_simp
                rfl
               refine hK.out _ _ ?_; clear hK K; refine done_ (done_of HT_.out (by kernel_rfl)) ?_
               try go_wp2
               go_roundg kj22
               case measure => have := HK1.out; have := HJ22.out; omega
               case rel => exact ⟨(true), (wrap64 (x8_1 + 1)), (y124), (.slice Ao43 y124.length co43), eq_b, eq_b, H', ⟨by have := HK1.out; have := HJ22.out; omega⟩, ⟨by (with_reducible repeat (first | apply Kd.R_alloc | apply Kd.R_drewN | apply Kd.R_drew)); exact Kd.R_mono (Kd.R_far (p := ⟨gb114, 1, none⟩) (Kd.R_types HO126.out BK114.out (by decide)) (fun _ hk => hk.2) (.slice Ao43 y124.length co43)) (fun _ hk => trivial)⟩, ⟨blk_a⟩, ⟨blk_a⟩, ⟨below_a⟩⟩
              ·
               rw [if_neg c33] at H; exact absurd H (by simp)
             ·
              rw [if_neg c32] at H; have c32b0 : decide ((wrap64 (t113 - 16)) < (rd l0_1 x8_1)) = false := decide_eq_false c32; (try (have c32b1 : decide ((IntKind.i64.wrap (t113 - 16)) < (rd l0_1 x8_1)) = false := by simp only [i64_w]; exact decide_eq_false c32)); clear c32; have H' := Aside0.mk H; clear H; have hnb45 := NB114_110.out; have hnc45 := NB110_114.out; obtain ⟨hcz46_0, hcz46_1, hfz46_0, hfz46_1⟩ := bc2_ BK114.out
              try go_wp2_with (first | ((with_reducible refine gate_builtin (b := .append) (xs := #[.tmp 58, .tmp 60]) rfl ?_); at_builtin; refine Kd.R_append (Kd.int .i64) (w0 := w) w.heap.size rfl (.tmp 58) (.tmp 60) 24 2 (.int .i64 0) 8 rfl Try.underlying24 info2 rfl (by decide) (by omega) u115001 x115001_1 a1 [.int .i64 a1] (fun _ => True) (fun _ => False) rfl rfl ?aP (fun _ hk => hk.elim) ?aF ?aO ?aB ?aS ?aL ?_; (case aP => exact rfl); (case aB => exact below_a); (case aF => exact (fun _ _ => trivial)); (case aO => exact (R_a HO_115001.out)); (case aS => exact (below_size below_a)); (case aL => have := LMc29.out; omega); intro v120 w47 ho hb hg hat; rw [← Ny119.out] at ho; replace BK110 := Aside0.mk (blk_grown (g := gb110) blk_c hg (Kd.R_ne HO_115001.out BK110.out (by decide))); replace BK114 := Aside0.mk (blk_grown (g := gb114) blk_c hg (Kd.R_ne HO_115001.out BK114.out (by decide))); replace HB := Aside0.mk (hb); have HO121 := Aside0.mk (ho); clear HO_115001; clear ho hb hg hat; obtain ⟨Ao48, co48, eo48⟩ := Kd.R_slice HO121.out; subst eo48; obtain ⟨hcz49_0, hcz49_1, hfz49_0, hfz49_1⟩ := bc2_ BK114.out))
              generalize hW_ : (w47.setCell ⟨gb114, 1, none⟩ (.slice Ao48 y119.length co48)) = w50 at ⊢; have n0_ : Aside0 (Kd.R (Kd.int .i64) 2 w50 w.heap.size (fun _ => True) (.slice Ao48 y119.length co48) y119) := hW_ ▸ ⟨by (with_reducible repeat (first | apply Kd.R_alloc | apply Kd.R_drewN | apply Kd.R_drew)); exact Kd.R_mono (Kd.R_far (p := ⟨gb114, 1, none⟩) (Kd.R_types HO121.out BK114.out (by decide)) (fun _ hk => hk.2) (.slice Ao48 y119.length co48)) (fun _ hk => trivial)⟩; have n1_ : Aside0 (w50.heap[gb110]? = some (.cells #[.int .i64 0, .slice none 0 0] 26 (0, 0))) := hW_ ▸ ⟨blk_a⟩; have n2_ : Aside0 (w50.heap[gb114]? = some (.cells #[.int .i64 t113, .slice Ao48 y119.length co48] 26 (0, 0))) := hW_ ▸ ⟨blk_a⟩; have n3_ : Aside0 (Below w.heap.size w w50) := hW_ ▸ ⟨below_a⟩; (try clear HO121); (try clear BK110); (try clear BK114); (try clear HB); clear hW_; have HO121 := n0_; have BK110 := n1_; have BK114 := n2_; have HB := n3_; clear n0_ n1_ n2_ n3_; replace HO121 := Aside0.mk (Kd.R_drew HO121.out); replace BK110 := Aside0.mk (blk_drew BK110.out); replace BK114 := Aside0.mk (blk_drew BK114.out); replace HB := Aside0.mk (below_drew1 HB.out); have p122 : 0 ≤ (x8_1 : Int) := of_decide_eq_true (by first | (with_reducible assumption) | assumption); have q122 : x8_1 < (l0_1.length : Int) := of_decide_eq_true (by first | (with_reducible assumption) | assumption); obtain ⟨ad122, e122, hx122_0⟩ := Kd.at_int HR0_1.out x8_1 p122 q122; have hw122_0 := hx122_0
              cases e122
              replace hx122_0 := (HB.out.cell (World.block_lt_of_cell? w _ hx122_0)).trans hx122_0; replace p122 := eq_true p122; replace q122 := eq_true q122; refine start_ (n := 11) (S := fun w' => w'.cell? p = some (.int .i64 a0_0) ∧ w'.cell? ⟨p.block, p.off + 1, none⟩ = some (.slice (some ad122) l0_1.length c0_1) ∧ w'.cell? ⟨gb114, 0, none⟩ = some (.int .i64 t113) ∧ w'.cell? ⟨gb114, 1, none⟩ = some (.slice Ao48 y119.length co48) ∧ w'.cell? (ad122.add (x8_1).toNat) = some (.int .i64 (rd l0_1 x8_1))) (ds := []) #[Z',Z',Z',Z',Z',Z',Z',Z',Z',Z',Z'] (by kernel_rfl) rfl rfl ⟨((HB.out.cell (p := p) HLP.out).trans HXP_0.out), ((HB.out.cell (p := ⟨p.block, p.off + 1, none⟩) HLP.out).trans HXP_1.out), (blk_cell BK114.out 0).trans rfl, (blk_cell BK114.out 1).trans rfl, ((HB.out.cell (World.block_lt_of_cell? w _ hw122_0)).trans hw122_0)⟩ (fun hHeld => ?_); refine with_tabW spec_l6Take.tab15 spec_l6Take.bits15 (fun HT_ HW_ => ?_); generalize w50.drew = w51 at HO121 BK110 BK114 HB hx122_0 hHeld ⊢; refine pure_ (i := 0) (N := some 63) (v := ?_) (a' := ?_) #[Y',Z',Z',Z',Z',Z',Z',Z',Z',Z',Z'] rfl rfl (any_of HT_.out (by kernel_rfl)) (fun _ _ _ h => h) (Or.inl ⟨by rfl, ?_⟩) ?_ ?_; rotate_left
              ·
               intro w'
               go_simp
               with_reducible rfl
              rotate_left
              ·
               simp only [Act.put, List.setIfInBounds_toArray, List.set_cons_zero, List.set_cons_succ, i64_w, i32_w]; rfl
              refine pure_ (i := 1) (N := some 64) (v := ?_) (a' := ?_) #[Y',Y',Z',Z',Z',Z',Z',Z',Z',Z',Z'] rfl rfl (any_of HT_.out (by kernel_rfl)) (fun _ _ _ h => h) (Or.inl ⟨by rfl, ?_⟩) ?_ ?_; rotate_left
              ·
               intro w'
               go_simp
               with_reducible rfl
              rotate_left
              ·
               simp only [Act.put, List.setIfInBounds_toArray, List.set_cons_zero, List.set_cons_succ, i64_w, i32_w]; rfl
              refine pure_ (i := 2) (N := some 65) (v := ?_) (a' := ?_) #[Y',Y',Y',Z',Z',Z',Z',Z',Z',Z',Z'] rfl rfl (any_of HT_.out (by kernel_rfl)) (fun _ _ _ h => h) (Or.inl ⟨by rfl, ?_⟩) ?_ ?_; rotate_left
              ·
               intro w'
               go_simp
               with_reducible rfl
              rotate_left
              ·
               simp only [Act.put, List.setIfInBounds_toArray, List.set_cons_zero, List.set_cons_succ, i64_w, i32_w]; rfl
              refine pure_ (i := 4) (N := some 67) (v := ?_) (a' := ?_) #[Y',Y',Y',Z',Y',Z',Z',Z',Z',Z',Z'] rfl rfl (any_of HT_.out (by kernel_rfl)) (fun _ _ _ h => h) (Or.inl ⟨by rfl, ?_⟩) ?_ ?_; rotate_left
              ·
               intro w'
               go_simp
               with_reducible rfl
              rotate_left
              ·
               simp only [Act.put, List.setIfInBounds_toArray, List.set_cons_zero, List.set_cons_succ, i64_w, i32_w]; rfl
              refine pure_ (i := 7) (N := some 70) (v := ?_) (a' := ?_) #[Y',Y',Y',Z',Y',Z',Z',Y',Z',Z',Z'] rfl rfl (any_of HT_.out (by kernel_rfl)) (fun _ _ _ h => h) (Or.inl ⟨by rfl, ?_⟩) ?_ ?_; rotate_left
              ·
               intro w'
               go_simp
               with_reducible rfl
              rotate_left
              ·
               simp only [Act.put, List.setIfInBounds_toArray, List.set_cons_zero, List.set_cons_succ, i64_w, i32_w]; rfl
              refine take_ (i := 3) (N := some 66) (v := ?_) (a' := ?_) #[Y',Y',Y',Y',Y',Z',Z',Y',Z',Z',Z'] rfl rfl (take_ofW HT_.out HW_.out (by kernel_rfl)) (fun _ _ _ h => h) (Or.inl ⟨by rfl, ?_⟩) hHeld ?_ ?_; rotate_left
              ·
               rintro w' ⟨s0, s1, s2, s3, s4⟩
               go_simp
               with_reducible rfl
              rotate_left
              ·
               simp only [Act.put, List.setIfInBounds_toArray, List.set_cons_zero, List.set_cons_succ, i64_w, i32_w]; rfl
              refine pure_ (i := 5) (N := some 68) (v := ?_) (a' := ?_) #[Y',Y',Y',Y',Y',Y',Z',Y',Z',Z',Z'] rfl rfl (any_of HT_.out (by kernel_rfl)) (fun _ _ _ h => h) (Or.inl ⟨by rfl, ?_⟩) ?_ ?_; rotate_left
              ·
               intro w'
               go_simp
               with_reducible rfl
              rotate_left
              ·
               simp only [Act.put, List.setIfInBounds_toArray, List.set_cons_zero, List.set_cons_succ, i64_w, i32_w]; rfl
              refine take_ (i := 6) (N := some 69) (v := ?_) (a' := ?_) #[Y',Y',Y',Y',Y',Y',Y',Y',Z',Z',Z'] rfl rfl (take_ofW HT_.out HW_.out (by kernel_rfl)) (fun _ _ _ h => h) (Or.inl ⟨by rfl, ?_⟩) hHeld ?_ ?_; rotate_left
              ·
               rintro w' ⟨s0, s1, s2, s3, s4⟩
               go_simp
               with_reducible rfl
              rotate_left
              ·
               simp only [Act.put, List.setIfInBounds_toArray, List.set_cons_zero, List.set_cons_succ, i64_w, i32_w]; rfl
              refine take_ (i := 8) (N := some 71) (v := ?_) (a' := ?_) #[Y',Y',Y',Y',Y',Y',Y',Y',Y',Z',Z'] rfl rfl (take_ofW HT_.out HW_.out (by kernel_rfl)) (fun _ _ _ h => h) (Or.inl ⟨by rfl, ?_⟩) hHeld ?_ ?_; rotate_left
              ·
               rintro w' ⟨s0, s1, s2, s3, s4⟩
               go_simp
               with_reducible rfl
              rotate_left
              ·
               simp only [Act.put, List.setIfInBounds_toArray, List.set_cons_zero, List.set_cons_succ, i64_w, i32_w]; rfl
              refine pure_ (i := 9) (N := some 72) (v := ?_) (a' := ?_) #[Y',Y',Y',Y',Y',Y',Y',Y',Y',Y',Z'] rfl rfl (any_of HT_.out (by kernel_rfl)) (fun _ _ _ h => h) (Or.inl ⟨by rfl, ?_⟩) ?_ ?_; rotate_left
              ·
               intro w'
               go_simp
               with_reducible rfl
              rotate_left
              ·
               simp only [Act.put, List.setIfInBounds_toArray, List.set_cons_zero, List.set_cons_succ, i64_w, i32_w]; rfl
              refine pure_ (i := 10) (N := some 73) (v := ?_) (a' := ?_) #[Y',Y',Y',Y',Y',Y',Y',Y',Y',Y',Y'] rfl rfl (any_of HT_.out (by kernel_rfl)) (fun _ _ _ h => h) (Or.inl ⟨by rfl, ?_⟩) ?_ ?_; rotate_left
              ·
               intro w'
               go_simp
               with_reducible rfl
              rotate_left
              ·
               simp only [Act.put, List.setIfInBounds_toArray, List.set_cons_zero, List.set_cons_succ, i64_w, i32_w]; rfl
              refine done_ (done_of HT_.out (by kernel_rfl)) ?_
              try go_wp2
              go_roundg kj22
              case measure => have := HK1.out; have := HJ22.out; omega
              case rel => exact ⟨(true), (wrap64 (x8_1 + 1)), (y119), (.slice Ao48 y119.length co48), eq_b, eq_b, H', ⟨by have := HK1.out; have := HJ22.out; omega⟩, ⟨R_a HO121.out⟩, ⟨blk_a⟩, ⟨blk_a⟩, ⟨below_a⟩⟩
            ·
             rw [if_neg c31] at H; exact absurd H (by simp)
           ·
            rw [if_neg c30] at H; exact absurd H (by simp)
          ·
           rw [if_neg c29] at H; exact absurd H (by simp)
         ·
          replace c28 := Bool.eq_false_iff.mpr c28; subst c28; have H1 : (if 0 ≤ x8_1 then (if x8_1 < (l0_1.length : Int) then (if (rd l0_1 x8_1) > (wrap64 (t113 - 16)) then (if x115001_1.length < 17592186044416 then (spec_l6Take.l0 kj22 a1 x7_1 (wrap64 (x8_1 + 1)) a0_0 l0_1 t113 (x115001_1 ++ [rd l0_1 x8_1])) else (none)) else (spec_l6Take.l0 kj22 a1 x7_1 (wrap64 (x8_1 + 1)) a0_0 l0_1 t113 x115001_1)) else (none)) else (none)) = some (r1, r2, r3) := by rw [if_neg (show ¬ (false = true) by decide)] at H; exact H
          clear H; have H := H1; clear H1
          by_cases c52 : 0 ≤ x8_1
          ·
           rw [if_pos c52] at H; have c52b0 : decide (0 ≤ x8_1) = true := decide_eq_true c52; clear c52
           by_cases c53 : x8_1 < (l0_1.length : Int)
           ·
            rw [if_pos c53] at H; have c53b0 : decide (x8_1 < (l0_1.length : Int)) = true := decide_eq_true c53; clear c53
            by_cases c54 : (rd l0_1 x8_1) > (wrap64 (t113 - 16))
            ·
             rw [if_pos c54] at H; have c54b0 : decide ((wrap64 (t113 - 16)) < (rd l0_1 x8_1)) = true := decide_eq_true c54; (try (have c54b1 : decide ((IntKind.i64.wrap (t113 - 16)) < (rd l0_1 x8_1)) = true := by simp only [i64_w]; exact decide_eq_true c54)); clear c54
             by_cases c55 : x115001_1.length < 17592186044416
             ·
              rw [if_pos c55] at H; have LMc55 := Aside0.mk c55; clear c55; obtain ⟨y129, hy129⟩ : ∃ y_ : List Int, y_ = (x115001_1 ++ [rd l0_1 x8_1]) := ⟨_, rfl⟩; replace H : (spec_l6Take.l0 kj22 a1 x7_1 (wrap64 (x8_1 + 1)) a0_0 l0_1 t113 y129) = some (r1, r2, r3) := by first | (rw [hy129]; with_reducible exact H) | (have H2_ := (Option.bind_some _ _).symm.trans H; rw [hy129]; with_reducible exact H2_) | (have H2_ := (Option.bind_some _ _).symm.trans H; with_reducible exact H2_) | with_reducible exact H | (rw [hy129]; exact H) | exact H
              have Ny129 := Aside0.mk hy129; clear hy129; have H' := Aside0.mk H; clear H
              try go_wp2
              replace HO_115001 := Aside0.mk (Kd.R_drew HO_115001.out); replace BK110 := Aside0.mk (blk_drew BK110.out); replace BK114 := Aside0.mk (blk_drew BK114.out); replace HB := Aside0.mk (below_drew1 HB.out); have p127 : 0 ≤ (x8_1 : Int) := of_decide_eq_true (by first | (with_reducible assumption) | assumption); have q127 : x8_1 < (l0_1.length : Int) := of_decide_eq_true (by first | (with_reducible assumption) | assumption); obtain ⟨ad127, e127, hx127_0⟩ := Kd.at_int HR0_1.out x8_1 p127 q127; have hw127_0 := hx127_0
              cases e127
              replace hx127_0 := (HB.out.cell (World.block_lt_of_cell? w _ hx127_0)).trans hx127_0; replace p127 := eq_true p127; replace q127 := eq_true q127; refine start_ (n := 11) (S := fun w' => w'.cell? p = some (.int .i64 a0_0) ∧ w'.cell? ⟨p.block, p.off + 1, none⟩ = some (.slice (some ad127) l0_1.length c0_1) ∧ w'.cell? ⟨gb114, 0, none⟩ = some (.int .i64 t113) ∧ w'.cell? ⟨gb114, 1, none⟩ = some (u115001) ∧ w'.cell? (ad127.add (x8_1).toNat) = some (.int .i64 (rd l0_1 x8_1))) (ds := []) #[Z',Z',Z',Z',Z',Z',Z',Z',Z',Z',Z'] (by kernel_rfl) rfl rfl ⟨((HB.out.cell (p := p) HLP.out).trans HXP_0.out), ((HB.out.cell (p := ⟨p.block, p.off + 1, none⟩) HLP.out).trans HXP_1.out), (blk_cell BK114.out 0).trans rfl, (blk_cell BK114.out 1).trans rfl, ((HB.out.cell (World.block_lt_of_cell? w _ hw127_0)).trans hw127_0)⟩ (fun hHeld => ?_); refine with_tabW spec_l6Take.tab15 spec_l6Take.bits15 (fun HT_ HW_ => ?_); generalize wc.drew = w56 at HO_115001 BK110 BK114 HB hx127_0 hHeld ⊢; refine pure_ (i := 0) (N := some 63) (v := ?_) (a' := ?_) #[Y',Z',Z',Z',Z',Z',Z',Z',Z',Z',Z'] rfl rfl (any_of HT_.out (by kernel_rfl)) (fun _ _ _ h => h) (Or.inl ⟨by rfl, ?_⟩) ?_ ?_; rotate_left
              ·
               intro w'
               go_simp
               with_reducible rfl
              rotate_left
              ·
               simp only [Act.put, List.setIfInBounds_toArray, List.set_cons_zero, List.set_cons_succ, i64_w, i32_w]; rfl
              refine pure_ (i := 1) (N := some 64) (v := ?_) (a' := ?_) #[Y',Y',Z',Z',Z',Z',Z',Z',Z',Z',Z'] rfl rfl (any_of HT_.out (by kernel_rfl)) (fun _ _ _ h => h) (Or.inl ⟨by rfl, ?_⟩) ?_ ?_; rotate_left
              ·
               intro w'
               go_simp
               with_reducible rfl
              rotate_left
              ·
               simp only [Act.put, List.setIfInBounds_toArray, List.set_cons_zero, List.set_cons_succ, i64_w, i32_w]; rfl
              refine pure_ (i := 2) (N := some 65) (v := ?_) (a' := ?_) #[Y',Y',Y',Z',Z',Z',Z',Z',Z',Z',Z'] rfl rfl (any_of HT_.out (by kernel_rfl)) (fun _ _ _ h => h) (Or.inl ⟨by rfl, ?_⟩) ?_ ?_; rotate_left
              ·
               intro w'
               go_simp
               with_reducible rfl
              rotate_left
              ·
               simp only [Act.put, List.setIfInBounds_toArray, List.set_cons_zero, List.set_cons_succ, i64_w, i32_w]; rfl
              refine pure_ (i := 4) (N := some 67) (v := ?_) (a' := ?_) #[Y',Y',Y',Z',Y',Z',Z',Z',Z',Z',Z'] rfl rfl (any_of HT_.out (by kernel_rfl)) (fun _ _ _ h => h) (Or.inl ⟨by rfl, ?_⟩) ?_ ?_; rotate_left
              ·
               intro w'
               go_simp
               with_reducible rfl
              rotate_left
              ·
               simp only [Act.put, List.setIfInBounds_toArray, List.set_cons_zero, List.set_cons_succ, i64_w, i32_w]; rfl
              refine pure_ (i := 7) (N := some 70) (v := ?_) (a' := ?_) #[Y',Y',Y',Z',Y',Z',Z',Y',Z',Z',Z'] rfl rfl (any_of HT_.out (by kernel_rfl)) (fun _ _ _ h => h) (Or.inl ⟨by rfl, ?_⟩) ?_ ?_; rotate_left
              ·
               intro w'
               go_simp
               with_reducible rfl
              rotate_left
              ·
               simp only [Act.put, List.setIfInBounds_toArray, List.set_cons_zero, List.set_cons_succ, i64_w, i32_w]; rfl
              refine take_ (i := 3) (N := some 66) (v := ?_) (a' := ?_) #[Y',Y',Y',Y',Y',Z',Z',Y',Z',Z',Z'] rfl rfl (take_ofW HT_.out HW_.out (by kernel_rfl)) (fun _ _ _ h => h) (Or.inl ⟨by rfl, ?_⟩) hHeld ?_ ?_; rotate_left
              ·
               rintro w' ⟨s0, s1, s2, s3, s4⟩
               go_simp
               with_reducible rfl
              rotate_left
              ·
               simp only [Act.put, List.setIfInBounds_toArray, List.set_cons_zero, List.set_cons_succ, i64_w, i32_w]; rfl
              refine pure_ (i := 5) (N := some 68) (v := ?_) (a' := ?_) #[Y',Y',Y',Y',Y',Y',Z',Y',Z',Z',Z'] rfl rfl (any_of HT_.out (by kernel_rfl)) (fun _ _ _ h => h) (Or.inl ⟨by rfl, ?_⟩) ?_ ?_; rotate_left
              ·
               intro w'
               go_simp
               with_reducible rfl
              rotate_left
              ·
               simp only [Act.put, List.setIfInBounds_toArray, List.set_cons_zero, List.set_cons_succ, i64_w, i32_w]; rfl
              refine take_ (i := 6) (N := some 69) (v := ?_) (a' := ?_) #[Y',Y',Y',Y',Y',Y',Y',Y',Z',Z',Z'] rfl rfl (take_ofW HT_.out HW_.out (by kernel_rfl)) (fun _ _ _ h => h) (Or.inl ⟨by rfl, ?_⟩) hHeld ?_ ?_; rotate_left
              ·
               rintro w' ⟨s0, s1, s2, s3, s4⟩
               go_simp
               with_reducible rfl
              rotate_left
              ·
               simp only [Act.put, List.setIfInBounds_toArray, List.set_cons_zero, List.set_cons_succ, i64_w, i32_w]; rfl
              refine take_ (i := 8) (N := some 71) (v := ?_) (a' := ?_) #[Y',Y',Y',Y',Y',Y',Y',Y',Y',Z',Z'] rfl rfl (take_ofW HT_.out HW_.out (by kernel_rfl)) (fun _ _ _ h => h) (Or.inl ⟨by rfl, ?_⟩) hHeld ?_ ?_; rotate_left
              ·
               rintro w' ⟨s0, s1, s2, s3, s4⟩
               go_simp
               with_reducible rfl
              rotate_left
              ·
               simp only [Act.put, List.setIfInBounds_toArray, List.set_cons_zero, List.set_cons_succ, i64_w, i32_w]; rfl
              refine pure_ (i := 9) (N := some 72) (v := ?_) (a' := ?_) #[Y',Y',Y',Y',Y',Y',Y',Y',Y',Y',Z'] rfl rfl (any_of HT_.out (by kernel_rfl)) (fun _ _ _ h => h) (Or.inl ⟨by rfl, ?_⟩) ?_ ?_; rotate_left
              ·
               intro w'
               go_simp
               with_reducible rfl
              rotate_left
              ·
               simp only [Act.put, List.setIfInBounds_toArray, List.set_cons_zero, List.set_cons_succ, i64_w, i32_w]; rfl
              refine pure_ (i := 10) (N := some 73) (v := ?_) (a' := ?_) #[Y',Y',Y',Y',Y',Y',Y',Y',Y',Y',Y'] rfl rfl (any_of HT_.out (by kernel_rfl)) (fun _ _ _ h => h) (Or.inl ⟨by rfl, ?_⟩) ?_ ?_; rotate_left
              ·
               intro w'
               go_simp
               with_reducible rfl
              rotate_left
              ·
               simp only [Act.put, List.setIfInBounds_toArray, List.set_cons_zero, List.set_cons_succ, i64_w, i32_w]; rfl
              refine done_ (done_of HT_.out (by kernel_rfl)) ?_
              try go_wp2
              replace HO_115001 := Aside0.mk (Kd.R_drew HO_115001.out); replace BK110 := Aside0.mk (blk_drew BK110.out); replace BK114 := Aside0.mk (blk_drew BK114.out); replace HB := Aside0.mk (below_drew1 HB.out); have p128 : 0 ≤ (x8_1 : Int) := of_decide_eq_true (by first | (with_reducible assumption) | assumption); have q128 : x8_1 < (l0_1.length : Int) := of_decide_eq_true (by first | (with_reducible assumption) | assumption); obtain ⟨ad128, e128, hx128_0⟩ := Kd.at_int HR0_1.out x8_1 p128 q128; have hw128_0 := hx128_0; obtain rfl : ad127 = ad128 := (by injection e128); replace hx128_0 := (HB.out.cell (World.block_lt_of_cell? w _ hx128_0)).trans hx128_0; replace p128 := eq_true p128; replace q128 := eq_true q128; refine start_ (n := 13) (S := fun w' => w'.cell? ⟨gb114, 0, none⟩ = some (.int .i64 t113) ∧ w'.cell? ⟨gb114, 1, none⟩ = some (u115001) ∧ w'.cell? p = some (.int .i64 a0_0) ∧ w'.cell? ⟨p.block, p.off + 1, none⟩ = some (.slice (some ad127) l0_1.length c0_1) ∧ w'.cell? (ad127.add (x8_1).toNat) = some (.int .i64 (rd l0_1 x8_1))) (ds := [12]) #[Z',Z',Z',Z',Z',Z',Z',Z',Z',Z',Z',Z',Z'] (by kernel_rfl) rfl rfl ⟨(blk_cell BK114.out 0).trans rfl, (blk_cell BK114.out 1).trans rfl, ((HB.out.cell (p := p) HLP.out).trans HXP_0.out), ((HB.out.cell (p := ⟨p.block, p.off + 1, none⟩) HLP.out).trans HXP_1.out), ((HB.out.cell (World.block_lt_of_cell? w _ hw128_0)).trans hw128_0)⟩ (fun hHeld => ?_); refine with_tabW spec_l6Take.tab16 spec_l6Take.bits16 (fun HT_ HW_ => ?_); generalize w56.drew = w57 at HO_115001 BK110 BK114 HB hx128_0 hHeld ⊢; refine pure_ (i := 0) (N := some 74) (v := ?_) (a' := ?_) #[Y',Z',Z',Z',Z',Z',Z',Z',Z',Z',Z',Z',Z'] rfl rfl (any_of HT_.out (by kernel_rfl)) (fun _ _ _ h => h) (Or.inl ⟨by rfl, ?_⟩) ?_ ?_; rotate_left
              ·
               intro w'
               go_simp
               with_reducible rfl
              rotate_left
              ·
               simp only [Act.put, List.setIfInBounds_toArray, List.set_cons_zero, List.set_cons_succ, i64_w, i32_w]; rfl
              refine pure_ (i := 2) (N := some 76) (v := ?_) (a' := ?_) #[Y',Z',Y',Z',Z',Z',Z',Z',Z',Z',Z',Z',Z'] rfl rfl (any_of HT_.out (by kernel_rfl)) (fun _ _ _ h => h) (Or.inl ⟨by rfl, ?_⟩) ?_ ?_; rotate_left
              ·
               intro w'
               go_simp
               with_reducible rfl
              rotate_left
              ·
               simp only [Act.put, List.setIfInBounds_toArray, List.set_cons_zero, List.set_cons_succ, i64_w, i32_w]; rfl
              refine pure_ (i := 3) (N := some 77) (v := ?_) (a' := ?_) #[Y',Z',Y',Y',Z',Z',Z',Z',Z',Z',Z',Z',Z'] rfl rfl (any_of HT_.out (by kernel_rfl)) (fun _ _ _ h => h) (Or.inl ⟨by rfl, ?_⟩) ?_ ?_; rotate_left
              ·
               intro w'
               go_simp
               with_reducible rfl
              rotate_left
              ·
               simp only [Act.put, List.setIfInBounds_toArray, List.set_cons_zero, List.set_cons_succ, i64_w, i32_w]; rfl
              refine pure_ (i := 4) (N := some 78) (v := ?_) (a' := ?_) #[Y',Z',Y',Y',Y',Z',Z',Z',Z',Z',Z',Z',Z'] rfl rfl (any_of HT_.out (by kernel_rfl)) (fun _ _ _ h => h) (Or.inl ⟨by rfl, ?_⟩) ?_ ?_; rotate_left
              ·
               intro w'
               go_simp
               with_reducible rfl
              rotate_left
              ·
               simp only [Act.put, List.setIfInBounds_toArray, List.set_cons_zero, List.set_cons_succ, i64_w, i32_w]; rfl
              refine pure_ (i := 6) (N := some 80) (v := ?_) (a' := ?_) #[Y',Z',Y',Y',Y',Z',Y',Z',Z',Z',Z',Z',Z'] rfl rfl (any_of HT_.out (by kernel_rfl)) (fun _ _ _ h => h) (Or.inl ⟨by rfl, ?_⟩) ?_ ?_; rotate_left
              ·
               intro w'
               go_simp
               with_reducible rfl
              rotate_left
              ·
               simp only [Act.put, List.setIfInBounds_toArray, List.set_cons_zero, List.set_cons_succ, i64_w, i32_w]; rfl
              refine take_ (i := 1) (N := some 75) (v := ?_) (a' := ?_) #[Y',Y',Y',Y',Y',Z',Y',Z',Z',Z',Z',Z',Z'] rfl rfl (take_ofW HT_.out HW_.out (by kernel_rfl)) (fun _ _ _ h => h) (Or.inl ⟨by rfl, ?_⟩) hHeld ?_ ?_; rotate_left
              ·
               rintro w' ⟨s0, s1, s2, s3, s4⟩
               go_simp
               with_reducible rfl
              rotate_left
              ·
               simp only [Act.put, List.setIfInBounds_toArray, List.set_cons_zero, List.set_cons_succ, i64_w, i32_w]; rfl
              refine take_ (i := 5) (N := some 79) (v := ?_) (a' := ?_) #[Y',Y',Y',Y',Y',Y',Y',Z',Z',Z',Z',Z',Z'] rfl rfl (take_ofW HT_.out HW_.out (by kernel_rfl)) (fun _ _ _ h => h) (Or.inl ⟨by rfl, ?_⟩) hHeld ?_ ?_; rotate_left
              ·
               rintro w' ⟨s0, s1, s2, s3, s4⟩
               go_simp
               with_reducible rfl
              rotate_left
              ·
               simp only [Act.put, List.setIfInBounds_toArray, List.set_cons_zero, List.set_cons_succ, i64_w, i32_w]; rfl
              refine pure_ (i := 7) (N := some 81) (v := ?_) (a' := ?_) #[Y',Y',Y',Y',Y',Y',Y',Y',Z',Z',Z',Z',Z'] rfl rfl (any_of HT_.out (by kernel_rfl)) (fun _ _ _ h => h) (Or.inl ⟨by rfl, ?_⟩) ?_ ?_; rotate_left
              ·
               intro w'
               go_simp
               with_reducible rfl
              rotate_left
              ·
               simp only [Act.put, List.setIfInBounds_toArray, List.set_cons_zero, List.set_cons_succ, i64_w, i32_w]; rfl
              refine take_ (i := 8) (N := some 82) (v := ?_) (a' := ?_) #[Y',Y',Y',Y',Y',Y',Y',Y',Y',Z',Z',Z',Z'] rfl rfl (take_ofW HT_.out HW_.out (by kernel_rfl)) (fun _ _ _ h => h) (Or.inl ⟨by rfl, ?_⟩) hHeld ?_ ?_; rotate_left
              ·
               rintro w' ⟨s0, s1, s2, s3, s4⟩
               go_simp
               with_reducible rfl
              rotate_left
              ·
               simp only [Act.put, List.setIfInBounds_toArray, List.set_cons_zero, List.set_cons_succ, i64_w, i32_w]; rfl
              refine one_ (i := 9) (N := some 83) #[Y',Y',Y',Y',Y',Y',Y',Y',Y',Y',Z',Z',Z'] rfl rfl (one_of HT_.out (by kernel_rfl)) (by decide) (fun K hK => ?_); refine value_ (w1 := ?_) (v := ?_) (by rfl) rfl ?_ ?_; rotate_left 2
              ·
               go_simp
               constructor
               ·
                rfl
               ·
                rfl
              refine hK.out _ _ ⟨(blk_cell (blk_alloc BK114.out _) 0).trans rfl, (blk_cell (blk_alloc BK114.out _) 1).trans rfl, (World.cell?_alloc_lt _ _ _ (World.block_lt_of_cell? _ _ (((HB.out.cell (p := p) HLP.out).trans HXP_0.out)))).trans (((HB.out.cell (p := p) HLP.out).trans HXP_0.out)), (World.cell?_alloc_lt _ _ _ (World.block_lt_of_cell? _ _ (((HB.out.cell (p := ⟨p.block, p.off + 1, none⟩) HLP.out).trans HXP_1.out)))).trans (((HB.out.cell (p := ⟨p.block, p.off + 1, none⟩) HLP.out).trans HXP_1.out)), (World.cell?_alloc_lt _ _ _ (World.block_lt_of_cell? _ _ (((HB.out.cell (World.block_lt_of_cell? w _ hw128_0)).trans hw128_0)))).trans (((HB.out.cell (World.block_lt_of_cell? w _ hw128_0)).trans hw128_0))⟩ (fun hHeld => ?_); clear hK K; refine norm_ (a' := ?_) ?_ ?_; rotate_left
              ·
               show Act.put _ (some 83) _ = _; simp only [Act.put, List.setIfInBounds_toArray, List.set_cons_zero, List.set_cons_succ, i64_w, i32_w]; rfl
              refine one_ (i := 10) (N := some 84) #[Y',Y',Y',Y',Y',Y',Y',Y',Y',Y',Y',Z',Z'] rfl rfl (one_of HT_.out (by kernel_rfl)) (by decide) (fun K hK => ?_); refine Kd.R_append_step (Kd.int .i64) (w0 := w) w.heap.size (by rfl) (.tmp 75) (.tmp 83) 24 2 (.int .i64 0) 8 rfl Try.underlying24 info2 rfl (by decide) (by omega) u115001 x115001_1 (rd l0_1 x8_1) [.int .i64 (rd l0_1 x8_1)] (fun _ => True) (fun _ => False) rfl rfl ?aP (fun _ hk => hk.elim) ?aF ?aO ?aB ?aS ?aL ?_; (case aP => exact rfl); (case aB => exact below_a); (case aF => exact (fun _ _ => trivial)); (case aO => exact (R_a HO_115001.out)); (case aS => exact (below_size below_a)); (case aL => have := LMc55.out; omega); intro v130 w58 ho hb hg hat; rw [← Ny129.out] at ho; replace BK110 := Aside0.mk (blk_grown (g := gb110) blk_c hg (Kd.R_ne HO_115001.out BK110.out (by decide))); replace BK114 := Aside0.mk (blk_grown (g := gb114) blk_c hg (Kd.R_ne HO_115001.out BK114.out (by decide))); replace HB := Aside0.mk (hb); have HO131 := Aside0.mk (ho); clear HO_115001 ho hb hg hat; obtain ⟨Ao59, co59, eo59⟩ := Kd.R_slice HO131.out; (first | subst eo59 | (injection eo59 with f1_ f2_ f3_; have f4_ := f1_.symm; have f5_ := f3_.symm; clear f1_ f2_ f3_; subst f4_; subst f5_)); refine hK.out _ _ ⟨(blk_cell BK114.out 0).trans rfl, (blk_cell BK114.out 1).trans rfl, ((HB.out.cell (p := p) HLP.out).trans HXP_0.out), ((HB.out.cell (p := ⟨p.block, p.off + 1, none⟩) HLP.out).trans HXP_1.out), ((HB.out.cell (World.block_lt_of_cell? w _ hw128_0)).trans hw128_0)⟩ (fun hHeld => ?_); clear hK K; refine norm_ (a' := ?_) ?_ ?_; rotate_left
              ·
               show Act.put _ (some 84) _ = _; simp only [Act.put, List.setIfInBounds_toArray, List.set_cons_zero, List.set_cons_succ, i64_w, i32_w]; rfl
              refine pure_ (i := 11) (N := some 85) (v := ?_) (a' := ?_) #[Y',Y',Y',Y',Y',Y',Y',Y',Y',Y',Y',Y',Z'] rfl rfl (any_of HT_.out (by kernel_rfl)) (fun _ _ _ h => h) (Or.inl ⟨by rfl, ?_⟩) ?_ ?_; rotate_left
              ·
               intro w'
               go_simp
               with_reducible rfl
              rotate_left
              ·
               simp only [Act.put, List.setIfInBounds_toArray, List.set_cons_zero, List.set_cons_succ, i64_w, i32_w]; rfl
              refine last_ (i := 12) (N := none) #[Y',Y',Y',Y',Y',Y',Y',Y',Y',Y',Y',Y',Y'] rfl rfl (one_of HT_.out (by kernel_rfl)) (by decide) (fun K hK => ?_); have hs60 : w58.cell? ⟨gb114, 1, none⟩ = some (u115001) := (blk_cell BK114.out 1).trans rfl; have hfs60 := blk_frozen BK114.out 1; have hns60_0 := NB110_114.out; have hms60_0 := NB114_110.out; refine skip_ (w1 := ?_) (by rfl) rfl ?_ ?_; rotate_left
              ·
               go_simp
               rfl
              refine hK.out _ _ ?_; clear hK K; refine done_ (done_of HT_.out (by kernel_rfl)) ?_
              try go_wp2
              go_roundg kj22
              case measure => have := HK1.out; have := HJ22.out; omega
              case rel => exact ⟨(x7_1), (wrap64 (x8_1 + 1)), (y129), (.slice Ao59 y129.length co59), eq_b, eq_b, H', ⟨by have := HK1.out; have := HJ22.out; omega⟩, ⟨by (with_reducible repeat (first | apply Kd.R_alloc | apply Kd.R_drewN | apply Kd.R_drew)); exact Kd.R_mono (Kd.R_far (p := ⟨gb114, 1, none⟩) (Kd.R_types HO131.out BK114.out (by decide)) (fun _ hk => hk.2) (.slice Ao59 y129.length co59)) (fun _ hk => trivial)⟩, ⟨blk_a⟩, ⟨blk_a⟩, ⟨below_a⟩⟩
             ·
              rw [if_neg c55] at H; exact absurd H (by simp)
            ·
             rw [if_neg c54] at H; have c54b0 : decide ((wrap64 (t113 - 16)) < (rd l0_1 x8_1)) = false := decide_eq_false c54; (try (have c54b1 : decide ((IntKind.i64.wrap (t113 - 16)) < (rd l0_1 x8_1)) = false := by simp only [i64_w]; exact decide_eq_false c54)); clear c54; have H' := Aside0.mk H; clear H
             try go_wp2
             replace HO_115001 := Aside0.mk (Kd.R_drew HO_115001.out); replace BK110 := Aside0.mk (blk_drew BK110.out); replace BK114 := Aside0.mk (blk_drew BK114.out); replace HB := Aside0.mk (below_drew1 HB.out); have p127 : 0 ≤ (x8_1 : Int) := of_decide_eq_true (by first | (with_reducible assumption) | assumption); have q127 : x8_1 < (l0_1.length : Int) := of_decide_eq_true (by first | (with_reducible assumption) | assumption); obtain ⟨ad127, e127, hx127_0⟩ := Kd.at_int HR0_1.out x8_1 p127 q127; have hw127_0 := hx127_0
             cases e127
             replace hx127_0 := (HB.out.cell (World.block_lt_of_cell? w _ hx127_0)).trans hx127_0; replace p127 := eq_true p127; replace q127 := eq_true q127; refine start_ (n := 11) (S := fun w' => w'.cell? p = some (.int .i64 a0_0) ∧ w'.cell? ⟨p.block, p.off + 1, none⟩ = some (.slice (some ad127) l0_1.length c0_1) ∧ w'.cell? ⟨gb114, 0, none⟩ = some (.int .i64 t113) ∧ w'.cell? ⟨gb114, 1, none⟩ = some (u115001) ∧ w'.cell? (ad127.add (x8_1).toNat) = some (.int .i64 (rd l0_1 x8_1))) (ds := []) #[Z',Z',Z',Z',Z',Z',Z',Z',Z',Z',Z'] (by kernel_rfl) rfl rfl ⟨((HB.out.cell (p := p) HLP.out).trans HXP_0.out), ((HB.out.cell (p := ⟨p.block, p.off + 1, none⟩) HLP.out).trans HXP_1.out), (blk_cell BK114.out 0).trans rfl, (blk_cell BK114.out 1).trans rfl, ((HB.out.cell (World.block_lt_of_cell? w _ hw127_0)).trans hw127_0)⟩ (fun hHeld => ?_); refine with_tabW spec_l6Take.tab15 spec_l6Take.bits15 (fun HT_ HW_ => ?_); generalize wc.drew = w61 at HO_115001 BK110 BK114 HB hx127_0 hHeld ⊢; refine pure_ (i := 0) (N := some 63) (v := ?_) (a' := ?_) #[Y',Z',Z',Z',Z',Z',Z',Z',Z',Z',Z'] rfl rfl (any_of HT_.out (by kernel_rfl)) (fun _ _ _ h => h) (Or.inl ⟨by rfl, ?_⟩) ?_ ?_; rotate_left
             ·
              intro w'
              go_simp
              with_reducible rfl
             rotate_left
             ·
              simp only [Act.put, List.setIfInBounds_toArray, List.set_cons_zero, List.set_cons_succ, i64_w, i32_w]; rfl
             refine pure_ (i := 1) (N := some 64) (v := ?_) (a' := ?_) #[Y',Y',Z',Z',Z',Z',Z',Z',Z',Z',Z'] rfl rfl (any_of HT_.out (by kernel_rfl)) (fun _ _ _ h => h) (Or.inl ⟨by rfl, ?_⟩) ?_ ?_; rotate_left
             ·
              intro w'
              go_simp
              with_reducible rfl
             rotate_left
             ·
              simp only [Act.put, List.setIfInBounds_toArray, List.set_cons_zero, List.set_cons_succ, i64_w, i32_w]; rfl
             refine pure_ (i := 2) (N := some 65) (v := ?_) (a' := ?_) #[Y',Y',Y',Z',Z',Z',Z',Z',Z',Z',Z'] rfl rfl (any_of HT_.out (by kernel_rfl)) (fun _ _ _ h => h) (Or.inl ⟨by rfl, ?_⟩) ?_ ?_; rotate_left
             ·
              intro w'
              go_simp
              with_reducible rfl
             rotate_left
             ·
              simp only [Act.put, List.setIfInBounds_toArray, List.set_cons_zero, List.set_cons_succ, i64_w, i32_w]; rfl
             refine pure_ (i := 4) (N := some 67) (v := ?_) (a' := ?_) #[Y',Y',Y',Z',Y',Z',Z',Z',Z',Z',Z'] rfl rfl (any_of HT_.out (by kernel_rfl)) (fun _ _ _ h => h) (Or.inl ⟨by rfl, ?_⟩) ?_ ?_; rotate_left
             ·
              intro w'
              go_simp
              with_reducible rfl
             rotate_left
             ·
              simp only [Act.put, List.setIfInBounds_toArray, List.set_cons_zero, List.set_cons_succ, i64_w, i32_w]; rfl
             refine pure_ (i := 7) (N := some 70) (v := ?_) (a' := ?_) #[Y',Y',Y',Z',Y',Z',Z',Y',Z',Z',Z'] rfl rfl (any_of HT_.out (by kernel_rfl)) (fun _ _ _ h => h) (Or.inl ⟨by rfl, ?_⟩) ?_ ?_; rotate_left
             ·
              intro w'
              go_simp
              with_reducible rfl
             rotate_left
             ·
              simp only [Act.put, List.setIfInBounds_toArray, List.set_cons_zero, List.set_cons_succ, i64_w, i32_w]; rfl
             refine take_ (i := 3) (N := some 66) (v := ?_) (a' := ?_) #[Y',Y',Y',Y',Y',Z',Z',Y',Z',Z',Z'] rfl rfl (take_ofW HT_.out HW_.out (by kernel_rfl)) (fun _ _ _ h => h) (Or.inl ⟨by rfl, ?_⟩) hHeld ?_ ?_; rotate_left
             ·
              rintro w' ⟨s0, s1, s2, s3, s4⟩
              go_simp
              with_reducible rfl
             rotate_left
             ·
              simp only [Act.put, List.setIfInBounds_toArray, List.set_cons_zero, List.set_cons_succ, i64_w, i32_w]; rfl
             refine pure_ (i := 5) (N := some 68) (v := ?_) (a' := ?_) #[Y',Y',Y',Y',Y',Y',Z',Y',Z',Z',Z'] rfl rfl (any_of HT_.out (by kernel_rfl)) (fun _ _ _ h => h) (Or.inl ⟨by rfl, ?_⟩) ?_ ?_; rotate_left
             ·
              intro w'
              go_simp
              with_reducible rfl
             rotate_left
             ·
              simp only [Act.put, List.setIfInBounds_toArray, List.set_cons_zero, List.set_cons_succ, i64_w, i32_w]; rfl
             refine take_ (i := 6) (N := some 69) (v := ?_) (a' := ?_) #[Y',Y',Y',Y',Y',Y',Y',Y',Z',Z',Z'] rfl rfl (take_ofW HT_.out HW_.out (by kernel_rfl)) (fun _ _ _ h => h) (Or.inl ⟨by rfl, ?_⟩) hHeld ?_ ?_; rotate_left
             ·
              rintro w' ⟨s0, s1, s2, s3, s4⟩
              go_simp
              with_reducible rfl
             rotate_left
             ·
              simp only [Act.put, List.setIfInBounds_toArray, List.set_cons_zero, List.set_cons_succ, i64_w, i32_w]; rfl
             refine take_ (i := 8) (N := some 71) (v := ?_) (a' := ?_) #[Y',Y',Y',Y',Y',Y',Y',Y',Y',Z',Z'] rfl rfl (take_ofW HT_.out HW_.out (by kernel_rfl)) (fun _ _ _ h => h) (Or.inl ⟨by rfl, ?_⟩) hHeld ?_ ?_; rotate_left
             ·
              rintro w' ⟨s0, s1, s2, s3, s4⟩
              go_simp
              with_reducible rfl
             rotate_left
             ·
              simp only [Act.put, List.setIfInBounds_toArray, List.set_cons_zero, List.set_cons_succ, i64_w, i32_w]; rfl
             refine pure_ (i := 9) (N := some 72) (v := ?_) (a' := ?_) #[Y',Y',Y',Y',Y',Y',Y',Y',Y',Y',Z'] rfl rfl (any_of HT_.out (by kernel_rfl)) (fun _ _ _ h => h) (Or.inl ⟨by rfl, ?_⟩) ?_ ?_; rotate_left
             ·
              intro w'
              go_simp
              with_reducible rfl
             rotate_left
             ·
              simp only [Act.put, List.setIfInBounds_toArray, List.set_cons_zero, List.set_cons_succ, i64_w, i32_w]; rfl
             refine pure_ (i := 10) (N := some 73) (v := ?_) (a' := ?_) #[Y',Y',Y',Y',Y',Y',Y',Y',Y',Y',Y'] rfl rfl (any_of HT_.out (by kernel_rfl)) (fun _ _ _ h => h) (Or.inl ⟨by rfl, ?_⟩) ?_ ?_; rotate_left
             ·
              intro w'
              go_simp
              with_reducible rfl
             rotate_left
             ·
              simp only [Act.put, List.setIfInBounds_toArray, List.set_cons_zero, List.set_cons_succ, i64_w, i32_w]; rfl
             refine done_ (done_of HT_.out (by kernel_rfl)) ?_
             try go_wp2
             go_roundg kj22
             case measure => have := HK1.out; have := HJ22.out; omega
             case rel => exact ⟨(x7_1), (wrap64 (x8_1 + 1)), (x115001_1), (u115001), eq_b, eq_b, H', ⟨by have := HK1.out; have := HJ22.out; omega⟩, ⟨R_a HO_115001.out⟩, ⟨blk_a⟩, ⟨blk_a⟩, ⟨below_a⟩⟩
           ·
            rw [if_neg c53] at H; exact absurd H (by simp)
          ·
           rw [if_neg c52] at H; exact absurd H (by simp)
      ·
       rw [if_neg c22] at H; have c22b0 : decide (x8_1 < (l0_1.length : Int)) = false := decide_eq_false c22; clear c22
       by_cases c62 : x7_1 = true
       ·
        subst c62; have H1 : (some (t113, x115001_1, 0)) = some (r1, r2, r3) := by rw [if_pos rfl] at H; exact H
        clear H; have H := H1; clear H1; simp only [Option.some.injEq, Prod.mk.injEq] at H; obtain ⟨rfl, rfl, rfl⟩ := H; have hcz63_0 : wr.cell? p = some (.int .i64 a0_0) := (HB.out.cell (p := p) HLP.out).trans HXP_0.out; have hcz63_1 : wr.cell? ⟨p.block, p.off + 1, none⟩ = some (.slice A0_1 l0_1.length c0_1) := (HB.out.cell (p := ⟨p.block, p.off + 1, none⟩) HLP.out).trans HXP_1.out; have hnpz63_110 : p.block ≠ gb110 := Nat.ne_of_lt (Nat.lt_of_lt_of_le HLP.out GW110.out); have hnpz63_114 : p.block ≠ gb114 := Nat.ne_of_lt (Nat.lt_of_lt_of_le HLP.out GW114.out); have hnb64 := NB114_110.out; have hnc64 := NB110_114.out; obtain ⟨hcz65_0, hcz65_1, hfz65_0, hfz65_1⟩ := bc2_ BK114.out; obtain ⟨hcz66_0, hcz66_1, hfz66_0, hfz66_1⟩ := bc2_ BK110.out; obtain ⟨Ao67, co67, eo67⟩ := Kd.R_slice HO_115001.out; subst eo67
        go_wp2
        refine bodyPost_ret (results_ct rfl _ _ gb110 26 #[.int .i64 t113, .slice Ao67 x115001_1.length co67] (0, 0) _ rfl blk_a Try.underlying26 rfl (by kernel_rfl)) rfl ?_; exact ⟨_, eq_a, by (with_reducible repeat (first | apply Kd.R_alloc | apply Kd.R_drewN | apply Kd.R_drew)); exact Kd.R_mono (Kd.R_far (p := ⟨gb110, 1, none⟩) (Kd.R_far (p := ⟨gb110, 0, none⟩) (Kd.R_types HO_115001.out BK110.out (by decide)) (fun _ hk => hk.2) (.int .i64 t113)) (fun _ hk => hk.2) (.slice Ao67 x115001_1.length co67)) (fun _ hk => trivial), below_a⟩
       ·
        replace c62 := Bool.eq_false_iff.mpr c62; subst c62; have H1 : (if x115001_1.length < 17592186044416 then (some (t113, (x115001_1 ++ [a1]), 0)) else (none)) = some (r1, r2, r3) := by rw [if_neg (show ¬ (false = true) by decide)] at H; exact H
        clear H; have H := H1; clear H1
        by_cases c68 : x115001_1.length < 17592186044416
        ·
         rw [if_pos c68] at H; have LMc68 := Aside0.mk c68; clear c68; obtain ⟨y115, hy115⟩ : ∃ y_ : List Int, y_ = (x115001_1 ++ [a1]) := ⟨_, rfl⟩; replace H : (some (t113, y115, 0)) = some (r1, r2, r3) := by first | (rw [hy115]; with_reducible exact H) | (have H2_ := (Option.bind_some _ _).symm.trans H; rw [hy115]; with_reducible exact H2_) | (have H2_ := (Option.bind_some _ _).symm.trans H; with_reducible exact H2_) | with_reducible exact H | (rw [hy115]; exact H) | exact H
         have Ny115 := Aside0.mk hy115; clear hy115; simp only [Option.some.injEq, Prod.mk.injEq] at H; obtain ⟨rfl, rfl, rfl⟩ := H; have hcz69_0 : wr.cell? p = some (.int .i64 a0_0) := (HB.out.cell (p := p) HLP.out).trans HXP_0.out; have hcz69_1 : wr.cell? ⟨p.block, p.off + 1, none⟩ = some (.slice A0_1 l0_1.length c0_1) := (HB.out.cell (p := ⟨p.block, p.off + 1, none⟩) HLP.out).trans HXP_1.out; have hnpz69_110 : p.block ≠ gb110 := Nat.ne_of_lt (Nat.lt_of_lt_of_le HLP.out GW110.out); have hnpz69_114 : p.block ≠ gb114 := Nat.ne_of_lt (Nat.lt_of_lt_of_le HLP.out GW114.out); have hnb70 := NB114_110.out; have hnc70 := NB110_114.out; obtain ⟨hcz71_0, hcz71_1, hfz71_0, hfz71_1⟩ := bc2_ BK114.out
         go_wp2_with (first | ((with_reducible refine gate_builtin (b := .append) (xs := #[.tmp 89, .tmp 91]) rfl ?_); at_builtin; refine Kd.R_append (Kd.int .i64) (w0 := w) w.heap.size rfl (.tmp 89) (.tmp 91) 24 2 (.int .i64 0) 8 rfl Try.underlying24 info2 rfl (by decide) (by omega) u115001 x115001_1 a1 [.int .i64 a1] (fun _ => True) (fun _ => False) rfl rfl ?aP (fun _ hk => hk.elim) ?aF ?aO ?aB ?aS ?aL ?_; (case aP => exact rfl); (case aB => exact below_a); (case aF => exact (fun _ _ => trivial)); (case aO => exact (R_a HO_115001.out)); (case aS => exact (below_size below_a)); (case aL => have := LMc68.out; omega); intro v116 w72 ho hb hg hat; rw [← Ny115.out] at ho; replace BK110 := Aside0.mk (blk_grown (g := gb110) blk_c hg (Kd.R_ne HO_115001.out BK110.out (by decide))); replace BK114 := Aside0.mk (blk_grown (g := gb114) blk_c hg (Kd.R_ne HO_115001.out BK114.out (by decide))); replace HB := Aside0.mk (hb); have HO117 := Aside0.mk (ho); clear HO_115001; clear ho hb hg hat; obtain ⟨Ao73, co73, eo73⟩ := Kd.R_slice HO117.out; subst eo73; obtain ⟨hcz74_0, hcz74_1, hfz74_0, hfz74_1⟩ := bc2_ BK114.out; obtain ⟨hcz75_0, hcz75_1, hfz75_0, hfz75_1⟩ := bc2_ BK110.out))
         refine bodyPost_ret (results_ct rfl _ _ gb110 26 #[.int .i64 t113, .slice Ao73 y115.length co73] (0, 0) _ rfl blk_a Try.underlying26 rfl (by kernel_rfl)) rfl ?_; exact ⟨_, eq_a, by (with_reducible repeat (first | apply Kd.R_alloc | apply Kd.R_drewN | apply Kd.R_drew)); exact Kd.R_mono (Kd.R_far (p := ⟨gb110, 1, none⟩) (Kd.R_far (p := ⟨gb110, 0, none⟩) (Kd.R_far (p := ⟨gb114, 1, none⟩) (Kd.R_types (Kd.R_types HO117.out BK114.out (by decide)) BK110.out (by decide)) (fun _ hk => hk.1.2) (.slice Ao73 y115.length co73)) (fun _ hk => hk.2) (.int .i64 t113)) (fun _ hk => hk.2) (.slice Ao73 y115.length co73)) (fun _ hk => trivial), below_a⟩
        ·
         rw [if_neg c68] at H; exact absurd H (by simp)
 ·
  replace c4 := Bool.eq_false_iff.mpr c4; subst c4; have H1 : (some (0, ([] : List Int), 3)) = some (r1, r2, r3) := by rw [if_neg (show ¬ (false = true) by decide)] at H; exact H
  clear H; have H := H1; clear H1; simp only [Option.some.injEq, Prod.mk.injEq] at H; obtain ⟨rfl, rfl, rfl⟩ := H
  go_enter Try.func49, Try.ntmps49
  go_wp2_with (first | ((with_reducible refine gate_dst (N := 4) rfl ?_); refine box_event ?hg (N := 4) ?hd (cs := #[.int .i64 0, .slice none 0 0]) (t := 26) ?hr ?_; (case hd => rfl); (case hg => rfl); (case hr => first | (go_simp; done) | (go_simp; rfl)); intro gb110 hg w76 hbox hb; have n0_ := Aside0.mk (below_step below_a hb); have BK110 := Aside0.mk (hbox); have GW110 := Aside0.mk (bsz_ (w := w) hg); have GE110 := Aside0.mk (bsz_ (w := w) hg); replace HB := n0_; clear n0_; clear hb hbox hg) | ((with_reducible refine gate_callee (f := 50) rfl ?_); refine goesL_ (some 10) rfl rfl Try.func50 (by kernel_rfl) rfl #[.int .i64 a1, .int .i64 0, .int .i64 1000000000] rfl args_a ?_; (with_reducible refine (spec_l1In.calls a1 0 1000000000 false _ A3.out).mono ?_); rintro e w' ⟨rfl, ⟨nd, rfl⟩⟩; refine ⟨_, rfl, ?_⟩; (try (rw [drewN_self w76]; generalize hq_ : World.drewN w76 _ = w76; have n0_ : Aside0 (w76.heap[gb110]? = some (.cells #[.int .i64 0, .slice none 0 0] 26 (0, 0))) := ⟨by rw [← hq_]; exact blk_a⟩; have n1_ : Aside0 (Below w.heap.size w w76) := ⟨by rw [← hq_]; exact below_a⟩; clear BK110 HB hq_; have BK110 := n0_; have HB := n1_; clear n0_ n1_)); obtain ⟨hcz77_0, hcz77_1, hfz77_0, hfz77_1⟩ := bc2_ BK110.out))
  refine bodyPost_ret (results_ct rfl _ _ gb110 26 #[.int .i64 0, .slice none 0 0] (0, 0) _ rfl blk_a Try.underlying26 rfl (by kernel_rfl)) rfl ?_; exact ⟨_, eq_a, by first | exact Kd.R_nil _ _ _ _ _ | exact Kd.N_nil _ _ _ _ _ | exact Kd.V_nil _ _ _ _ _ | exact Kd.Q_nil _ _ _ _ _ | exact Kd.S_nil _ _ _ _ _, below_a⟩

/-! ### spec_NewWindow: function 60 -/
def spec_NewWindow.f  : Option (Int × List Int) := some ((-1), ([] : List Int))
set_option maxHeartbeats 8000000 in
set_option maxRecDepth 100000 in
theorem spec_NewWindow.calls  (r1 : Int) (r2 : List Int) (w : World) (h : spec_NewWindow.f  = some (r1, r2)) :
  Calls Try.prog 60 #[] w fun e w' => ∃ v1_ : Value, e = .returned (.agg #[.int .i64 r1, v1_]) ∧ Kd.R (Kd.int .i64) 2 w' w.heap.size (fun _ => True) v1_ r2 ∧ Below w.heap.size w w' := by
 have hu26 := Try.underlying26
 have HB := Aside0.mk (Below.refl w.heap.size w)
 have H : (some ((-1), ([] : List Int))) = some (r1, r2) := h
 clear h
 simp only [Option.some.injEq, Prod.mk.injEq] at H
 obtain ⟨rfl, rfl⟩ := H
 go_enter Try.func60, Try.ntmps60
 go_wp2_with (first | ((with_reducible refine gate_dst (N := 0) rfl ?_); refine box_event ?hg (N := 0) ?hd (cs := #[.int .i64 0, .slice none 0 0]) (t := 26) ?hr ?_; (case hd => rfl); (case hg => rfl); (case hr => first | (go_simp; done) | (go_simp; rfl)); intro gb132 hg w1 hbox hb; have n0_ := Aside0.mk (below_step below_a hb); have BK132 := Aside0.mk (hbox); have GW132 := Aside0.mk (bsz_ (w := w) hg); have GE132 := Aside0.mk (bsz_ (w := w) hg); replace HB := n0_; clear n0_; clear hb hbox hg; obtain ⟨hcz2_0, hcz2_1, hfz2_0, hfz2_1⟩ := bc2_ BK132.out))
 refine bodyPost_ret (results_cell_row rfl _ _ gb132 26 #[.int .i64 (-1), .slice none 0 0] (0, 0) _ rfl blk_a Try.underlying26 rfl (by kernel_rfl)) rfl ?_
 exact ⟨_, eq_a, by first | exact Kd.R_nil _ _ _ _ _ | exact Kd.N_nil _ _ _ _ _ | exact Kd.V_nil _ _ _ _ _ | exact Kd.Q_nil _ _ _ _ _ | exact Kd.S_nil _ _ _ _ _, below_a⟩

end Go.Proofs.Ytbnibakamdhpdaa.MFnWindows
