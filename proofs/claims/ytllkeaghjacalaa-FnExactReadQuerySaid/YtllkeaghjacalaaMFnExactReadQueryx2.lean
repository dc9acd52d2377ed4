-- Laid by a program of this session (the kit's print, turned where it falls short; the texts of functions that it does not take are proved by hand).
import Derived.Test.YtllkeaghjacalaaMFnExactReadQueryx0
import Derived.Test.YtllkeaghjacalaaMFnExactReadQueryx1
namespace Go.Proofs.Ytllkeaghjacalaa.MFnExactReadQuery
open Go.RowKit Go.Proofs.YtllkeaghjacalaaW.PrintWords Go.Proofs.YtllkeaghjacalaaW.PrintLast Go.Proofs.YtllkeaghjacalaaW.PrintMore
attribute [local go_sem] max2_int min2_int max_two min_two max_three min_three max_four min_four   -- for this text's walks alone
set_option linter.unusedVariables false
set_option linter.unusedSimpArgs false

attribute [local go_sem] isSome_setCell
/-! ### spec_l10Read: function 46 -/
mutual
def spec_l10Read.l0 : Nat → List Int → Int → Int → Int → List ByteArray → Int → Option (List ByteArray × Int × Int)
 | 0, _, _, _, _, _, _ => none
 | k + 1, x0, x1, x7, x8, x111000, x111001 => if x1 < x7 then (if 0 ≤ x1 then (if x1 < (x0.length : Int) then (if (wrap64 (rd x0 x1)) = 0 then (if x8 = 0 then (some (x111000, wrap64 (x1 + 1), 0)) else (some (x111000, x111001, 0))) else (if (wrap64 (rd x0 x1)) ≥ 192 then (if (wrap64 (x1 + 1)) ≥ x7 then (some (x111000, x111001, 5)) else (if 0 ≤ (wrap64 (x1 + 1)) then (if (wrap64 (x1 + 1)) < (x0.length : Int) then (if (wrap64 ((wrap64 ((wrap64 ((wrap64 (rd x0 x1)) - 192)) * 256)) + (wrap64 (rd x0 (wrap64 (x1 + 1)))))) ≥ x1 then (spec_l10Read.j1 k x0 x1 x7 (wrap64 (x8 + 1)) (wrap64 ((wrap64 ((wrap64 ((wrap64 (rd x0 x1)) - 192)) * 256)) + (wrap64 (rd x0 (wrap64 (x1 + 1)))))) true x111000 x111001) else (spec_l10Read.j1 k x0 x1 x7 (wrap64 (x8 + 1)) (wrap64 ((wrap64 ((wrap64 ((wrap64 (rd x0 x1)) - 192)) * 256)) + (wrap64 (rd x0 (wrap64 (x1 + 1)))))) (decide ((wrap64 (x8 + 1)) > 5)) x111000 x111001)) else (none)) else (none))) else (if (wrap64 (rd x0 x1)) ≤ 20 then (if (wrap64 ((wrap64 (x1 + 1)) + (wrap64 (rd x0 x1)))) ≤ x7 then (if 0 ≤ (wrap64 (x1 + 1)) then (if (wrap64 (x1 + 1)) ≤ (wrap64 ((wrap64 (x1 + 1)) + (wrap64 (rd x0 x1)))) then (if (wrap64 ((wrap64 (x1 + 1)) + (wrap64 (rd x0 x1)))) ≤ (x0.length : Int) then ((spec_l10Label.f k (strOfNums ((x0.take ((wrap64 ((wrap64 (x1 + 1)) + (wrap64 (rd x0 x1)))) : Int).toNat).drop ((wrap64 (x1 + 1)) : Int).toNat))).bind fun t114 => (spec_l10Read.j2 k x0 x1 x7 x8 (wrap64 (rd x0 x1)) t114 x111000 x111001)) else (none)) else (none)) else (none)) else (spec_l10Read.j2 k x0 x1 x7 x8 (wrap64 (rd x0 x1)) false x111000 x111001)) else (spec_l10Read.j2 k x0 x1 x7 x8 (wrap64 (rd x0 x1)) false x111000 x111001)))) else (none)) else (none)) else (some (x111000, x111001, 5))
def spec_l10Read.j1 : Nat → List Int → Int → Int → Int → Int → Bool → List ByteArray → Int → Option (List ByteArray × Int × Int)
 | 0, _, _, _, _, _, _, _, _ => none
 | k + 1, x0, x1, x7, x8, x10, x58, x111000, x111001 => if x58 = true then (some (x111000, x111001, 5)) else (if x8 = 1 then (spec_l10Read.l0 k x0 x10 x7 x8 x111000 (wrap64 (x1 + 2))) else (spec_l10Read.l0 k x0 x10 x7 x8 x111000 x111001))
def spec_l10Read.j2 : Nat → List Int → Int → Int → Int → Int → Bool → List ByteArray → Int → Option (List ByteArray × Int × Int)
 | 0, _, _, _, _, _, _, _, _ => none
 | k + 1, x0, x1, x7, x8, x9, x66, x111000, x111001 => if x66 = true then (if (x111000.length : Int) ≥ 6 then (some (x111000, x111001, 2)) else (if 0 ≤ (wrap64 (x1 + 1)) then (if (wrap64 (x1 + 1)) ≤ (wrap64 ((wrap64 (x1 + 1)) + x9)) then (if (wrap64 ((wrap64 (x1 + 1)) + x9)) ≤ (x0.length : Int) then (if x111000.length < 8796093022208 then (spec_l10Read.l0 k x0 (wrap64 ((wrap64 (x1 + 1)) + x9)) x7 x8 (x111000 ++ [strOfNums ((x0.take ((wrap64 ((wrap64 (x1 + 1)) + x9)) : Int).toNat).drop ((wrap64 (x1 + 1)) : Int).toNat)]) x111001) else (none)) else (none)) else (none)) else (none))) else (some (x111000, x111001, 5))
end
def spec_l10Read.f (k : Nat) (l0 : List Int) (a1 : Int) : Option (List ByteArray × Int × Int) := spec_l10Read.l0 k l0 a1 (l0.length : Int) 0 ([] : List ByteArray) (-1)
theorem spec_l10Read.mono_l : ∀ k, (∀ y0 y1 y2 y3 y4 y5, LeO (spec_l10Read.l0 k y0 y1 y2 y3 y4 y5) (spec_l10Read.l0 (k + 1) y0 y1 y2 y3 y4 y5)) ∧ (∀ y0 y1 y2 y3 y4 y5 y6 y7, LeO (spec_l10Read.j1 k y0 y1 y2 y3 y4 y5 y6 y7) (spec_l10Read.j1 (k + 1) y0 y1 y2 y3 y4 y5 y6 y7)) ∧ (∀ y0 y1 y2 y3 y4 y5 y6 y7, LeO (spec_l10Read.j2 k y0 y1 y2 y3 y4 y5 y6 y7) (spec_l10Read.j2 (k + 1) y0 y1 y2 y3 y4 y5 y6 y7))
 | 0 => ⟨fun _ _ _ _ _ _ r h => by simp [spec_l10Read.l0] at h, fun _ _ _ _ _ _ _ _ r h => by simp [spec_l10Read.j1] at h, fun _ _ _ _ _ _ _ _ r h => by simp [spec_l10Read.j2] at h⟩
 | k + 1 => by
  obtain ⟨ih0, ih1, ih2⟩ := spec_l10Read.mono_l k; refine ⟨?_, ?_, ?_⟩
  ·
   intro y0 y1 y2 y3 y4 y5
   unfold spec_l10Read.l0
   repeat' first
   | (with_reducible exact ih0 _ _ _ _ _ _)
   | (with_reducible exact ih1 _ _ _ _ _ _ _ _)
   | (with_reducible exact ih2 _ _ _ _ _ _ _ _)
   | (with_reducible exact spec_l10Label.mono _ _)
   | (with_reducible exact LeO.refl _)
   | (with_reducible exact LeO.none _)
   | (with_reducible refine LeO.ite ?_ ?_)
   | (with_reducible refine LeO.bind ?_ (fun _ => ?_))
   | exact ih0 _ _ _ _ _ _
   | exact ih1 _ _ _ _ _ _ _ _
   | exact ih2 _ _ _ _ _ _ _ _
   | exact spec_l10Label.mono _ _
   | exact LeO.none _
   | refine LeO.ite ?_ ?_
   | refine LeO.bind ?_ (fun _ => ?_)
  ·
   intro y0 y1 y2 y3 y4 y5 y6 y7
   unfold spec_l10Read.j1
   repeat' first
   | (with_reducible exact ih0 _ _ _ _ _ _)
   | (with_reducible exact ih1 _ _ _ _ _ _ _ _)
   | (with_reducible exact ih2 _ _ _ _ _ _ _ _)
   | (with_reducible exact spec_l10Label.mono _ _)
   | (with_reducible exact LeO.refl _)
   | (with_reducible exact LeO.none _)
   | (with_reducible refine LeO.ite ?_ ?_)
   | (with_reducible refine LeO.bind ?_ (fun _ => ?_))
   | exact ih0 _ _ _ _ _ _
   | exact ih1 _ _ _ _ _ _ _ _
   | exact ih2 _ _ _ _ _ _ _ _
   | exact spec_l10Label.mono _ _
   | exact LeO.none _
   | refine LeO.ite ?_ ?_
   | refine LeO.bind ?_ (fun _ => ?_)
  ·
   intro y0 y1 y2 y3 y4 y5 y6 y7
   unfold spec_l10Read.j2
   repeat' first
   | (with_reducible exact ih0 _ _ _ _ _ _)
   | (with_reducible exact ih1 _ _ _ _ _ _ _ _)
   | (with_reducible exact ih2 _ _ _ _ _ _ _ _)
   | (with_reducible exact spec_l10Label.mono _ _)
   | (with_reducible exact LeO.refl _)
   | (with_reducible exact LeO.none _)
   | (with_reducible refine LeO.ite ?_ ?_)
   | (with_reducible refine LeO.bind ?_ (fun _ => ?_))
   | exact ih0 _ _ _ _ _ _
   | exact ih1 _ _ _ _ _ _ _ _
   | exact ih2 _ _ _ _ _ _ _ _
   | exact spec_l10Label.mono _ _
   | exact LeO.none _
   | refine LeO.ite ?_ ?_
   | refine LeO.bind ?_ (fun _ => ?_)
theorem spec_l10Read.mono : ∀ a0 a1 k, LeO (spec_l10Read.f k a0 a1) (spec_l10Read.f (k + 1) a0 a1) := by
 intro a0 a1 k
 obtain ⟨ih0, ih1, ih2⟩ := spec_l10Read.mono_l k
 unfold spec_l10Read.f
 repeat' first
   | (with_reducible exact ih0 _ _ _ _ _ _)
   | (with_reducible exact ih1 _ _ _ _ _ _ _ _)
   | (with_reducible exact ih2 _ _ _ _ _ _ _ _)
   | (with_reducible exact spec_l10Label.mono _ _)
   | (with_reducible exact LeO.refl _)
   | (with_reducible exact LeO.none _)
   | (with_reducible refine LeO.ite ?_ ?_)
   | (with_reducible refine LeO.bind ?_ (fun _ => ?_))
   | exact ih0 _ _ _ _ _ _
   | exact ih1 _ _ _ _ _ _ _ _
   | exact ih2 _ _ _ _ _ _ _ _
   | exact spec_l10Label.mono _ _
   | exact LeO.none _
   | refine LeO.ite ?_ ?_
   | refine LeO.bind ?_ (fun _ => ?_)
def spec_l10Read.T24 : Bool × List (List Nat × List Nat) := (true, [([], []), ([0], [0]), ([], []), ([], []), ([3], [3]), ([], []), ([5], [5]), ([], []), ([6, 7], [6, 7]), ([2, 4, 8], [2, 4, 8]), ([9], [9]), ([10], [10]), ([1, 11], [1, 11]), ([0, 1, 2, 3, 4, 5, 6, 7, 8, 9, 10, 11, 12], []), ([13, 12, 12, 0, 1, 2, 3, 4, 5, 6, 7, 8, 9, 10, 11, 12], [12, 13])])
def spec_l10Read.B24 : List Nat := [0, 1, 0, 0, 8, 0, 32, 0, 224, 508, 1020, 2044, 4095, 8191, 16383]
theorem spec_l10Read.tab24 : rtab .any (opsOf Try.f46 24) = spec_l10Read.T24 := by kernel_rfl
theorem spec_l10Read.bits24 : waitsOk spec_l10Read.T24.2 spec_l10Read.B24 = true := by kernel_rfl
set_option maxHeartbeats 8000000 in
set_option maxRecDepth 100000 in
theorem spec_l10Read.calls (k : Nat) (A0 : Option Addr) (c0 : Nat) (l0 : List Int) (a1 : Int) (r1 : List ByteArray) (r2 : Int) (r3 : Int) (w : World) (hr0 : Kd.C (Kd.int .u8) w A0 l0.length l0) (hc0 : l0.length ≤ c0) (h : spec_l10Read.f k l0 a1 = some (r1, r2, r3)) :
  Calls Try.prog 46 #[.slice A0 l0.length c0, .int .i64 a1] w fun e w' => ∃ v0_ : Value, e = .returned (.tuple #[.agg #[v0_, .int .i64 r2], .int .i64 r3]) ∧ Kd.R Kd.string 9 w' w.heap.size (fun _ => True) v0_ r1 ∧ Below w.heap.size w w' := by
 have hu34 := Try.underlying34
 have HR0 := Aside0.mk hr0
 have HC0 := Aside0.mk hc0
 clear hr0 hc0
 have HB := Aside0.mk (Below.refl w.heap.size w)
 have H : (spec_l10Read.l0 k l0 a1 (l0.length : Int) 0 ([] : List ByteArray) (-1)) = some (r1, r2, r3) := h
 clear h
 have H' := Aside0.mk H
 clear H
 go_enter Try.func46, Try.ntmps46
 go_wp2_with (first | ((with_reducible refine gate_dst (N := 4) rfl ?_); refine box_event ?hg (N := 4) ?hd (cs := #[.slice none 0 0, .int .i64 0]) (t := 34) ?hr ?_; (case hd => rfl); (case hg => rfl); (case hr => first | (go_simp; done) | (go_simp; rfl)); intro gb109 hg w3 hbox hb; have n0_ := Aside0.mk (below_step below_a hb); have BK109 := Aside0.mk (hbox); have GW109 := Aside0.mk (bsz_ (w := w) hg); have GE109 := Aside0.mk (bsz_ (w := w) hg); replace HB := n0_; clear n0_; clear hb hbox hg) | ((with_reducible refine gate_dst (N := 6) rfl ?_); refine box_event ?hg (N := 6) ?hd (cs := #[.slice none 0 0, .int .i64 0]) (t := 34) ?hr ?_; (case hd => rfl); (case hg => rfl); (case hr => first | (go_simp; done) | (go_simp; rfl)); intro gb110 hg w4 hbox hb; have n0_ := Aside0.mk (blk_below (g := gb109) blk_c hb); have n1_ := Aside0.mk (below_step below_a hb); have BK110 := Aside0.mk (hbox); have GW110 := Aside0.mk (bsz_ (w := w) hg); have GE110 := Aside0.mk (bsz_ (w := w) hg); have NB109_110 := Aside0.mk (bne_ (g := gb109) hg); have NB110_109 := Aside0.mk (bne_ (g := gb109) hg).symm; replace BK109 := n0_; replace HB := n1_; clear n0_ n1_; clear hb hbox hg; have hnb5 := NB110_109.out; have hnc5 := NB109_110.out; obtain ⟨hcz6_0, hcz6_1, hfz6_0, hfz6_1⟩ := bc2_ BK110.out))
 go_loopg [1, 8] k (fun kq v1 v8 w' => ∃ (x1_1 : Int) (x8_1 : Int) (x110001_1 : Int) (x111000_1 : List ByteArray) (x111001_1 : Int) (u111000 : Value), v1 = .int .i64 x1_1 ∧ v8 = .int .i64 x8_1 ∧ Aside0 (spec_l10Read.l0 kq l0 x1_1 (l0.length : Int) x8_1 x111000_1 x111001_1 = some (r1, r2, r3)) ∧ Aside0 (kq ≤ k) ∧ Aside0 (Kd.R Kd.string 9 w' w.heap.size (fun _ => True) u111000 x111000_1) ∧ Aside0 (w'.heap[gb109]? = some (.cells #[(.slice none 0 0), .int .i64 x110001_1] 34 (0, 0))) ∧ Aside0 (w'.heap[gb110]? = some (.cells #[u111000, .int .i64 x111001_1] 34 (0, 0))) ∧ Aside0 (Below w.heap.size w w'))
 case atStart => exact ⟨(a1), (0), (0), (([] : List ByteArray)), ((-1)), (.slice none 0 0), eq_b, eq_b, H', ⟨Nat.le_refl _⟩, ⟨by first | exact Kd.R_nil _ _ _ _ _ | exact Kd.N_nil _ _ _ _ _ | exact Kd.V_nil _ _ _ _ _ | exact Kd.Q_nil _ _ _ _ _ | exact Kd.S_nil _ _ _ _ _⟩, ⟨blk_a⟩, ⟨blk_a⟩, ⟨below_a⟩⟩
 case round =>
  clear H'
  try clear p2
  try clear c4
  try clear c5
  try clear hcz6_0 hcz6_1
  try clear hfz6_0 hfz6_1
  obtain ⟨x1_1, x8_1, x110001_1, x111000_1, x111001_1, u111000, rfl, rfl, HA, HK1, HO_111000, BK109, BK110, HB⟩ := hrel
  cases gk with
  | zero => exact absurd HA.out (by simp [spec_l10Read.l0])
  | succ k1 =>
   have H := HA.out; clear HA; simp only [spec_l10Read.l0] at H
   by_cases c7 : x1_1 < (l0.length : Int)
   ·
    rw [if_pos c7] at H; have c7b0 : decide (x1_1 < (l0.length : Int)) = true := decide_eq_true c7; clear c7
    by_cases c8 : 0 ≤ x1_1
    ·
     rw [if_pos c8] at H; have c8b0 : decide (0 ≤ x1_1) = true := decide_eq_true c8; clear c8
     by_cases c9 : x1_1 < (l0.length : Int)
     ·
      rw [if_pos c9] at H; have c9b0 : decide (x1_1 < (l0.length : Int)) = true := decide_eq_true c9; clear c9
      by_cases c10 : (wrap64 (rd l0 x1_1)) = 0
      ·
       rw [if_pos c10] at H; have c10b0 : ((wrap64 (rd l0 x1_1)) == 0) = true := beq_iff_eq.mpr c10; have c10b1 : ((wrap64 (rd l0 x1_1)) != 0) = false := bne_eq_false_iff_eq.mpr c10; (try (have c10b2 : ((IntKind.i64.wrap (rd l0 x1_1)) == 0) = true := by simp only [i64_w]; exact beq_iff_eq.mpr c10)); (try (have c10b3 : ((IntKind.i64.wrap (rd l0 x1_1)) != 0) = false := by simp only [i64_w]; exact bne_eq_false_iff_eq.mpr c10)); clear c10
       by_cases c11 : x8_1 = 0
       ·
        rw [if_pos c11] at H; have c11b0 : (x8_1 == 0) = true := beq_iff_eq.mpr c11; have c11b1 : (x8_1 != 0) = false := bne_eq_false_iff_eq.mpr c11; clear c11; simp only [Option.some.injEq, Prod.mk.injEq] at H; obtain ⟨rfl, rfl, rfl⟩ := H; have p111 : 0 ≤ (x1_1 : Int) := of_decide_eq_true (by first | (with_reducible assumption) | assumption); have q111 : x1_1 < (l0.length : Int) := of_decide_eq_true (by first | (with_reducible assumption) | assumption); obtain ⟨ad111, e111, hx111_0⟩ := Kd.at_int HR0.out x1_1 p111 q111
        cases e111
        replace hx111_0 := (HB.out.cell (World.block_lt_of_cell? w _ hx111_0)).trans hx111_0; replace p111 := eq_true p111; replace q111 := eq_true q111; have hnb12 := NB110_109.out; have hnc12 := NB109_110.out; obtain ⟨hcz13_0, hcz13_1, hfz13_0, hfz13_1⟩ := bc2_ BK110.out; obtain ⟨Ao14, co14, eo14⟩ := Kd.R_slice HO_111000.out; subst eo14; obtain ⟨hcz15_0, hcz15_1, hfz15_0, hfz15_1⟩ := bc2_ BK109.out
        go_wp2
        refine bodyPost_ret (results_ct rfl _ _ gb109 34 #[.slice Ao14 x111000_1.length co14, .int .i64 (wrap64 (x1_1 + 1))] (0, 0) _ rfl blk_a Try.underlying34 rfl (by kernel_rfl)) rfl ?_; exact ⟨_, eq_a, by (with_reducible repeat (first | apply Kd.R_alloc | apply Kd.R_drewN | apply Kd.R_drew)); exact Kd.R_mono (Kd.R_far (p := ⟨gb109, 1, none⟩) (Kd.R_far (p := ⟨gb109, 0, none⟩) (Kd.R_far (p := ⟨gb110, 1, none⟩) (Kd.R_types (Kd.R_types HO_111000.out BK110.out (by decide)) BK109.out (by decide)) (fun _ hk => hk.1.2) (.int .i64 (wrap64 (x1_1 + 1)))) (fun _ hk => hk.2) (.slice Ao14 x111000_1.length co14)) (fun _ hk => hk.2) (.int .i64 (wrap64 (x1_1 + 1)))) (fun _ hk => trivial), below_a⟩
       ·
        rw [if_neg c11] at H; have c11b0 : (x8_1 == 0) = false := beq_eq_false_iff_ne.mpr c11; have c11b1 : (x8_1 != 0) = true := bne_iff_ne.mpr c11; simp only [Option.some.injEq, Prod.mk.injEq] at H; obtain ⟨rfl, rfl, rfl⟩ := H; have p111 : 0 ≤ (x1_1 : Int) := of_decide_eq_true (by first | (with_reducible assumption) | assumption); have q111 : x1_1 < (l0.length : Int) := of_decide_eq_true (by first | (with_reducible assumption) | assumption); obtain ⟨ad111, e111, hx111_0⟩ := Kd.at_int HR0.out x1_1 p111 q111
        cases e111
        replace hx111_0 := (HB.out.cell (World.block_lt_of_cell? w _ hx111_0)).trans hx111_0; replace p111 := eq_true p111; replace q111 := eq_true q111; have hnb16 := NB110_109.out; have hnc16 := NB109_110.out; obtain ⟨hcz17_0, hcz17_1, hfz17_0, hfz17_1⟩ := bc2_ BK110.out; obtain ⟨Ao18, co18, eo18⟩ := Kd.R_slice HO_111000.out; subst eo18; obtain ⟨hcz19_0, hcz19_1, hfz19_0, hfz19_1⟩ := bc2_ BK109.out
        go_wp2
        refine bodyPost_ret (results_ct rfl _ _ gb109 34 #[.slice Ao18 x111000_1.length co18, .int .i64 x111001_1] (0, 0) _ rfl blk_a Try.underlying34 rfl (by kernel_rfl)) rfl ?_; exact ⟨_, eq_a, by (with_reducible repeat (first | apply Kd.R_alloc | apply Kd.R_drewN | apply Kd.R_drew)); exact Kd.R_mono (Kd.R_far (p := ⟨gb109, 1, none⟩) (Kd.R_far (p := ⟨gb109, 0, none⟩) (Kd.R_types HO_111000.out BK109.out (by decide)) (fun _ hk => hk.2) (.slice Ao18 x111000_1.length co18)) (fun _ hk => hk.2) (.int .i64 x111001_1)) (fun _ hk => trivial), below_a⟩
      ·
       rw [if_neg c10] at H; have c10b0 : ((wrap64 (rd l0 x1_1)) == 0) = false := beq_eq_false_iff_ne.mpr c10; have c10b1 : ((wrap64 (rd l0 x1_1)) != 0) = true := bne_iff_ne.mpr c10; (try (have c10b2 : ((IntKind.i64.wrap (rd l0 x1_1)) == 0) = false := by simp only [i64_w]; exact beq_eq_false_iff_ne.mpr c10)); (try (have c10b3 : ((IntKind.i64.wrap (rd l0 x1_1)) != 0) = true := by simp only [i64_w]; exact bne_iff_ne.mpr c10))
       by_cases c20 : (wrap64 (rd l0 x1_1)) ≥ 192
       ·
        rw [if_pos c20] at H; have c20b0 : decide (192 ≤ (wrap64 (rd l0 x1_1))) = true := decide_eq_true c20; (try (have c20b1 : decide (192 ≤ (IntKind.i64.wrap (rd l0 x1_1))) = true := by simp only [i64_w]; exact decide_eq_true c20)); clear c20
        by_cases c21 : (wrap64 (x1_1 + 1)) ≥ (l0.length : Int)
        ·
         rw [if_pos c21] at H; have c21b0 : decide ((l0.length : Int) ≤ (wrap64 (x1_1 + 1))) = true := decide_eq_true c21; (try (have c21b1 : decide ((l0.length : Int) ≤ (IntKind.i64.wrap (x1_1 + 1))) = true := by simp only [i64_w]; exact decide_eq_true c21)); clear c21; simp only [Option.some.injEq, Prod.mk.injEq] at H; obtain ⟨rfl, rfl, rfl⟩ := H; have p111 : 0 ≤ (x1_1 : Int) := of_decide_eq_true (by first | (with_reducible assumption) | assumption); have q111 : x1_1 < (l0.length : Int) := of_decide_eq_true (by first | (with_reducible assumption) | assumption); obtain ⟨ad111, e111, hx111_0⟩ := Kd.at_int HR0.out x1_1 p111 q111
         cases e111
         replace hx111_0 := (HB.out.cell (World.block_lt_of_cell? w _ hx111_0)).trans hx111_0; replace p111 := eq_true p111; replace q111 := eq_true q111; have hnb22 := NB110_109.out; have hnc22 := NB109_110.out; obtain ⟨hcz23_0, hcz23_1, hfz23_0, hfz23_1⟩ := bc2_ BK110.out; obtain ⟨Ao24, co24, eo24⟩ := Kd.R_slice HO_111000.out; subst eo24; obtain ⟨hcz25_0, hcz25_1, hfz25_0, hfz25_1⟩ := bc2_ BK109.out
         go_wp2
         refine bodyPost_ret (results_ct rfl _ _ gb109 34 #[.slice Ao24 x111000_1.length co24, .int .i64 x111001_1] (0, 0) _ rfl blk_a Try.underlying34 rfl (by kernel_rfl)) rfl ?_; exact ⟨_, eq_a, by (with_reducible repeat (first | apply Kd.R_alloc | apply Kd.R_drewN | apply Kd.R_drew)); exact Kd.R_mono (Kd.R_far (p := ⟨gb109, 1, none⟩) (Kd.R_far (p := ⟨gb109, 0, none⟩) (Kd.R_types HO_111000.out BK109.out (by decide)) (fun _ hk => hk.2) (.slice Ao24 x111000_1.length co24)) (fun _ hk => hk.2) (.int .i64 x111001_1)) (fun _ hk => trivial), below_a⟩
        ·
         rw [if_neg c21] at H; have c21b0 : decide ((l0.length : Int) ≤ (wrap64 (x1_1 + 1))) = false := decide_eq_false c21; (try (have c21b1 : decide ((l0.length : Int) ≤ (IntKind.i64.wrap (x1_1 + 1))) = false := by simp only [i64_w]; exact decide_eq_false c21)); clear c21; obtain ⟨ji26, hji26⟩ : ∃ j_ : Int, (wrap64 (x1_1 + 1)) = j_ := ⟨_, rfl⟩; replace H : (if 0 ≤ (ji26) then (if (ji26) < (l0.length : Int) then (if (wrap64 ((wrap64 ((wrap64 ((wrap64 (rd l0 x1_1)) - 192)) * 256)) + (wrap64 (rd l0 (ji26))))) ≥ x1_1 then (spec_l10Read.j1 k1 l0 x1_1 (l0.length : Int) (wrap64 (x8_1 + 1)) (wrap64 ((wrap64 ((wrap64 ((wrap64 (rd l0 x1_1)) - 192)) * 256)) + (wrap64 (rd l0 (ji26))))) true x111000_1 x111001_1) else (spec_l10Read.j1 k1 l0 x1_1 (l0.length : Int) (wrap64 (x8_1 + 1)) (wrap64 ((wrap64 ((wrap64 ((wrap64 (rd l0 x1_1)) - 192)) * 256)) + (wrap64 (rd l0 (ji26))))) (decide ((wrap64 (x8_1 + 1)) > 5)) x111000_1 x111001_1)) else (none)) else (none)) = some (r1, r2, r3) := by first | (rw [hji26] at H; exact H) | (simp only [hji26] at H ⊢; exact H)
         (try rw [hji26] at c21b0); have hji26w : (IntKind.i64.wrap (x1_1 + 1)) = ji26 := (i64_w _).trans hji26
         by_cases c27 : 0 ≤ (ji26)
         ·
          rw [if_pos c27] at H; have c27b0 : decide (0 ≤ (ji26)) = true := decide_eq_true c27; clear c27
          by_cases c28 : (ji26) < (l0.length : Int)
          ·
           rw [if_pos c28] at H; have c28b0 : decide ((ji26) < (l0.length : Int)) = true := decide_eq_true c28; clear c28; have HC29 := Aside0.mk H; clear H; have p111 : 0 ≤ (x1_1 : Int) := of_decide_eq_true (by first | (with_reducible assumption) | assumption); have q111 : x1_1 < (l0.length : Int) := of_decide_eq_true (by first | (with_reducible assumption) | assumption); obtain ⟨ad111, e111, hx111_0⟩ := Kd.at_int HR0.out x1_1 p111 q111
           cases e111
           replace hx111_0 := (HB.out.cell (World.block_lt_of_cell? w _ hx111_0)).trans hx111_0; replace p111 := eq_true p111; replace q111 := eq_true q111; have p112 : 0 ≤ ((ji26) : Int) := of_decide_eq_true (by first | (with_reducible assumption) | assumption); have q112 : (ji26) < (l0.length : Int) := of_decide_eq_true (by first | (with_reducible assumption) | assumption); obtain ⟨ad112, e112, hx112_0⟩ := Kd.at_int HR0.out (ji26) p112 q112; obtain rfl : ad111 = ad112 := (by injection e112); replace hx112_0 := (HB.out.cell (World.block_lt_of_cell? w _ hx112_0)).trans hx112_0; replace p112 := eq_true p112; replace q112 := eq_true q112
           go_upto_region 16 with (fail)
           go_cut [58] (fun v58 wc => ∃ (kq : Nat) (x58_28 : Bool), v58 = .bool x58_28 ∧ Aside0 (spec_l10Read.j1 kq l0 x1_1 (l0.length : Int) (wrap64 (x8_1 + 1)) (wrap64 ((wrap64 ((wrap64 ((wrap64 (rd l0 x1_1)) - 192)) * 256)) + (wrap64 (rd l0 (ji26))))) x58_28 x111000_1 x111001_1 = some (r1, r2, r3)) ∧ Aside0 (kq ≤ k1) ∧ Aside0 (Kd.R Kd.string 9 wc w.heap.size (fun _ => True) u111000 x111000_1) ∧ Aside0 (wc.heap[gb109]? = some (.cells #[(.slice none 0 0), .int .i64 x110001_1] 34 (0, 0))) ∧ Aside0 (wc.heap[gb110]? = some (.cells #[u111000, .int .i64 x111001_1] 34 (0, 0))) ∧ Aside0 (Below w.heap.size w wc))
           case first =>
            have H := HC29.out; clear HC29
            by_cases c30 : (wrap64 ((wrap64 ((wrap64 ((wrap64 (rd l0 x1_1)) - 192)) * 256)) + (wrap64 (rd l0 (ji26))))) ≥ x1_1
            ·
             rw [if_pos c30] at H; have c30b0 : decide (x1_1 ≤ (wrap64 ((wrap64 ((wrap64 ((wrap64 (rd l0 x1_1)) - 192)) * 256)) + (wrap64 (rd l0 (ji26)))))) = true := decide_eq_true c30; (try (have c30b1 : decide (x1_1 ≤ (IntKind.i64.wrap ((IntKind.i64.wrap ((IntKind.i64.wrap ((IntKind.i64.wrap (rd l0 x1_1)) - 192)) * 256)) + (IntKind.i64.wrap (rd l0 (ji26)))))) = true := by simp only [i64_w]; exact decide_eq_true c30)); clear c30; (first | rw [c30b0] | (simp only [i64_w, i32_w]; rw [c30b0]) | skip); have H' := Aside0.mk H; clear H
             go_wp2
             go_meet
             case rel => exact ⟨_, (true), eq_b, H', ⟨by have := HK1.out; first | omega | exact Nat.le_refl _⟩, ⟨R_a HO_111000.out⟩, ⟨blk_a⟩, ⟨blk_a⟩, ⟨below_a⟩⟩
            ·
             rw [if_neg c30] at H; have c30b0 : decide (x1_1 ≤ (wrap64 ((wrap64 ((wrap64 ((wrap64 (rd l0 x1_1)) - 192)) * 256)) + (wrap64 (rd l0 (ji26)))))) = false := decide_eq_false c30; (try (have c30b1 : decide (x1_1 ≤ (IntKind.i64.wrap ((IntKind.i64.wrap ((IntKind.i64.wrap ((IntKind.i64.wrap (rd l0 x1_1)) - 192)) * 256)) + (IntKind.i64.wrap (rd l0 (ji26)))))) = false := by simp only [i64_w]; exact decide_eq_false c30)); clear c30; (first | rw [c30b0] | (simp only [i64_w, i32_w]; rw [c30b0]) | skip); have H' := Aside0.mk H; clear H
             go_wp2
             go_meet
             case rel => exact ⟨_, (decide ((wrap64 (x8_1 + 1)) > 5)), eq_b, H', ⟨by have := HK1.out; first | omega | exact Nat.le_refl _⟩, ⟨R_a HO_111000.out⟩, ⟨blk_a⟩, ⟨blk_a⟩, ⟨below_a⟩⟩
           case rest =>
            clear HC29
            try clear c1
            try clear p1
            try clear q1
            try clear hx1
            try clear c2
            try clear p2 p2
            try clear c3
            try clear c4
            try clear c5
            try clear p6
            try clear c7 c7b0
            try clear c8 c8b0
            try clear c9 c9b0
            try clear c10 c10b0 c10b1 c10b2
            try clear c11 c11b0 c11b1
            try clear p11
            try clear q11
            try clear hx11
            try clear c12
            try clear c16
            try clear c20 c20b0 c20b1
            try clear c21 c21b0 c21b1
            try clear c22
            try clear c27 c27b0
            try clear c28 c28b0
            try clear c30 c30b0 c30b1
            try clear hcz13_0 hcz13_1
            try clear hcz15_0 hcz15_1
            try clear hcz17_0 hcz17_1
            try clear hcz19_0 hcz19_1
            try clear hcz23_0 hcz23_1
            try clear hcz25_0 hcz25_1
            try clear hcz6_0 hcz6_1
            try clear hfz13_0 hfz13_1
            try clear hfz15_0 hfz15_1
            try clear hfz17_0 hfz17_1
            try clear hfz19_0 hfz19_1
            try clear hfz23_0 hfz23_1
            try clear hfz25_0 hfz25_1
            try clear hfz6_0 hfz6_1
            try clear hx111_0
            try clear hx112_0
            try clear p111
            try clear p112
            try clear q111
            try clear q112
            obtain ⟨kq, x58_28, rfl, HA, HJ28, HO_111000, BK109, BK110, HB⟩ := hcut
            cases kq with
            | zero => exact absurd HA.out (by simp [spec_l10Read.j1])
            | succ kj28 =>
             have H := HA.out; clear HA; simp only [spec_l10Read.j1] at H
             by_cases c31 : x58_28 = true
             ·
              subst c31; have H1 : (some (x111000_1, x111001_1, 5)) = some (r1, r2, r3) := by rw [if_pos rfl] at H; exact H
              clear H; have H := H1; clear H1; simp only [Option.some.injEq, Prod.mk.injEq] at H; obtain ⟨rfl, rfl, rfl⟩ := H; have hnb32 := NB110_109.out; have hnc32 := NB109_110.out; obtain ⟨hcz33_0, hcz33_1, hfz33_0, hfz33_1⟩ := bc2_ BK110.out; obtain ⟨Ao34, co34, eo34⟩ := Kd.R_slice HO_111000.out; subst eo34; obtain ⟨hcz35_0, hcz35_1, hfz35_0, hfz35_1⟩ := bc2_ BK109.out
              go_wp2
              refine bodyPost_ret (results_ct rfl _ _ gb109 34 #[.slice Ao34 x111000_1.length co34, .int .i64 x111001_1] (0, 0) _ rfl blk_a Try.underlying34 rfl (by kernel_rfl)) rfl ?_; exact ⟨_, by first | rfl | (simp [errW_none, errW_some] <;> rfl) | (simp only [← hji26]; first | rfl | (simp [errW_none, errW_some] <;> rfl)) | (simp [*, errW_none, errW_some] <;> rfl), by (with_reducible repeat (first | apply Kd.R_alloc | apply Kd.R_drewN | apply Kd.R_drew)); exact Kd.R_mono (Kd.R_far (p := ⟨gb109, 1, none⟩) (Kd.R_far (p := ⟨gb109, 0, none⟩) (Kd.R_types HO_111000.out BK109.out (by decide)) (fun _ hk => hk.2) (.slice Ao34 x111000_1.length co34)) (fun _ hk => hk.2) (.int .i64 x111001_1)) (fun _ hk => trivial), below_a⟩
             ·
              replace c31 := Bool.eq_false_iff.mpr c31; subst c31; have H1 : (if (wrap64 (x8_1 + 1)) = 1 then (spec_l10Read.l0 kj28 l0 (wrap64 ((wrap64 ((wrap64 ((wrap64 (rd l0 x1_1)) - 192)) * 256)) + (wrap64 (rd l0 (ji26))))) (l0.length : Int) (wrap64 (x8_1 + 1)) x111000_1 (wrap64 (x1_1 + 2))) else (spec_l10Read.l0 kj28 l0 (wrap64 ((wrap64 ((wrap64 ((wrap64 (rd l0 x1_1)) - 192)) * 256)) + (wrap64 (rd l0 (ji26))))) (l0.length : Int) (wrap64 (x8_1 + 1)) x111000_1 x111001_1)) = some (r1, r2, r3) := by rw [if_neg (show ¬ (false = true) by decide)] at H; exact H
              clear H; have H := H1; clear H1
              by_cases c36 : (wrap64 (x8_1 + 1)) = 1
              ·
               rw [if_pos c36] at H; have c36b0 : ((wrap64 (x8_1 + 1)) == 1) = true := beq_iff_eq.mpr c36; have c36b1 : ((wrap64 (x8_1 + 1)) != 1) = false := bne_eq_false_iff_eq.mpr c36; (try (have c36b2 : ((IntKind.i64.wrap (x8_1 + 1)) == 1) = true := by simp only [i64_w]; exact beq_iff_eq.mpr c36)); (try (have c36b3 : ((IntKind.i64.wrap (x8_1 + 1)) != 1) = false := by simp only [i64_w]; exact bne_eq_false_iff_eq.mpr c36)); clear c36; have H' := Aside0.mk H; clear H; have hnb37 := NB110_109.out; have hnc37 := NB109_110.out; obtain ⟨hcz38_0, hcz38_1, hfz38_0, hfz38_1⟩ := bc2_ BK110.out
               go_wp2
               go_roundg kj28
               case measure => have := HK1.out; have := HJ28.out; omega
               case rel => exact ⟨((wrap64 ((wrap64 ((wrap64 ((wrap64 (rd l0 x1_1)) - 192)) * 256)) + (wrap64 (rd l0 (ji26)))))), ((wrap64 (x8_1 + 1))), (x110001_1), (x111000_1), (wrap64 (x1_1 + 2)), (u111000), (by first | rfl | (simp; done) | (simp only [← hji26] <;> (first | rfl | simp)) | (simp [*]; done)), eq_b, H', ⟨by have := HK1.out; have := HJ28.out; omega⟩, ⟨by (with_reducible repeat (first | apply Kd.R_alloc | apply Kd.R_drewN | apply Kd.R_drew)); exact Kd.R_mono (Kd.R_far (p := ⟨gb110, 1, none⟩) (Kd.R_types HO_111000.out BK110.out (by decide)) (fun _ hk => hk.2) (.int .i64 (wrap64 (x1_1 + 2)))) (fun _ hk => trivial)⟩, ⟨blk_a⟩, ⟨blk_a⟩, ⟨below_a⟩⟩
              ·
               rw [if_neg c36] at H; have c36b0 : ((wrap64 (x8_1 + 1)) == 1) = false := beq_eq_false_iff_ne.mpr c36; have c36b1 : ((wrap64 (x8_1 + 1)) != 1) = true := bne_iff_ne.mpr c36; (try (have c36b2 : ((IntKind.i64.wrap (x8_1 + 1)) == 1) = false := by simp only [i64_w]; exact beq_eq_false_iff_ne.mpr c36)); (try (have c36b3 : ((IntKind.i64.wrap (x8_1 + 1)) != 1) = true := by simp only [i64_w]; exact bne_iff_ne.mpr c36)); have H' := Aside0.mk H; clear H
               go_wp2
               go_roundg kj28
               case measure => have := HK1.out; have := HJ28.out; omega
               case rel => exact ⟨((wrap64 ((wrap64 ((wrap64 ((wrap64 (rd l0 x1_1)) - 192)) * 256)) + (wrap64 (rd l0 (ji26)))))), ((wrap64 (x8_1 + 1))), (x110001_1), (x111000_1), (x111001_1), (u111000), (by first | rfl | (simp; done) | (simp only [← hji26] <;> (first | rfl | simp)) | (simp [*]; done)), eq_b, H', ⟨by have := HK1.out; have := HJ28.out; omega⟩, ⟨R_a HO_111000.out⟩, ⟨blk_a⟩, ⟨blk_a⟩, ⟨below_a⟩⟩
          ·
           rw [if_neg c28] at H; exact absurd H (by simp)
         ·
          rw [if_neg c27] at H; exact absurd H (by simp)
       ·
        rw [if_neg c20] at H; have c20b0 : decide (192 ≤ (wrap64 (rd l0 x1_1))) = false := decide_eq_false c20; (try (have c20b1 : decide (192 ≤ (IntKind.i64.wrap (rd l0 x1_1))) = false := by simp only [i64_w]; exact decide_eq_false c20)); clear c20; have HC39 := Aside0.mk H; clear H; have p111 : 0 ≤ (x1_1 : Int) := of_decide_eq_true (by first | (with_reducible assumption) | assumption); have q111 : x1_1 < (l0.length : Int) := of_decide_eq_true (by first | (with_reducible assumption) | assumption); obtain ⟨ad111, e111, hx111_0⟩ := Kd.at_int HR0.out x1_1 p111 q111
        cases e111
        replace hx111_0 := (HB.out.cell (World.block_lt_of_cell? w _ hx111_0)).trans hx111_0; replace p111 := eq_true p111; replace q111 := eq_true q111
        go_upto_region 21 with (fail)
        go_cut [66] (fun v66 wc => ∃ (kq : Nat) (x66_38 : Bool), v66 = .bool x66_38 ∧ Aside0 (spec_l10Read.j2 kq l0 x1_1 (l0.length : Int) x8_1 (wrap64 (rd l0 x1_1)) x66_38 x111000_1 x111001_1 = some (r1, r2, r3)) ∧ Aside0 (kq ≤ k1) ∧ Aside0 (Kd.R Kd.string 9 wc w.heap.size (fun _ => True) u111000 x111000_1) ∧ Aside0 (wc.heap[gb109]? = some (.cells #[(.slice none 0 0), .int .i64 x110001_1] 34 (0, 0))) ∧ Aside0 (wc.heap[gb110]? = some (.cells #[u111000, .int .i64 x111001_1] 34 (0, 0))) ∧ Aside0 (Below w.heap.size w wc))
        case first =>
         have H := HC39.out; clear HC39
         by_cases c40 : (wrap64 (rd l0 x1_1)) ≤ 20
         ·
          rw [if_pos c40] at H; have c40b0 : decide ((wrap64 (rd l0 x1_1)) ≤ 20) = true := decide_eq_true c40; (try (have c40b1 : decide ((IntKind.i64.wrap (rd l0 x1_1)) ≤ 20) = true := by simp only [i64_w]; exact decide_eq_true c40)); clear c40; (first | rw [c40b0] | (simp only [i64_w, i32_w]; rw [c40b0]) | skip)
          by_cases c41 : (wrap64 ((wrap64 (x1_1 + 1)) + (wrap64 (rd l0 x1_1)))) ≤ (l0.length : Int)
          ·
           rw [if_pos c41] at H; have c41b0 : decide ((wrap64 ((wrap64 (x1_1 + 1)) + (wrap64 (rd l0 x1_1)))) ≤ (l0.length : Int)) = true := decide_eq_true c41; (try (have c41b1 : decide ((IntKind.i64.wrap ((IntKind.i64.wrap (x1_1 + 1)) + (IntKind.i64.wrap (rd l0 x1_1)))) ≤ (l0.length : Int)) = true := by simp only [i64_w]; exact decide_eq_true c41)); clear c41; obtain ⟨ji42, hji42⟩ : ∃ j_ : Int, (wrap64 (x1_1 + 1)) = j_ := ⟨_, rfl⟩; replace H : (if 0 ≤ (ji42) then (if (ji42) ≤ (wrap64 ((ji42) + (wrap64 (rd l0 x1_1)))) then (if (wrap64 ((ji42) + (wrap64 (rd l0 x1_1)))) ≤ (l0.length : Int) then ((spec_l10Label.f k1 (strOfNums ((l0.take ((wrap64 ((ji42) + (wrap64 (rd l0 x1_1)))) : Int).toNat).drop ((ji42) : Int).toNat))).bind fun t114 => (spec_l10Read.j2 k1 l0 x1_1 (l0.length : Int) x8_1 (wrap64 (rd l0 x1_1)) t114 x111000_1 x111001_1)) else (none)) else (none)) else (none)) = some (r1, r2, r3) := by first | (rw [hji42] at H; exact H) | (simp only [hji42] at H ⊢; exact H)
           (try rw [hji42] at c41b0); have hji42w : (IntKind.i64.wrap (x1_1 + 1)) = ji42 := (i64_w _).trans hji42
           by_cases c43 : 0 ≤ (ji42)
           ·
            rw [if_pos c43] at H; have c43b0 := eq_true c43; have c43b1 : decide (0 ≤ (ji42)) = true := decide_eq_true c43; clear c43
            by_cases c44 : (ji42) ≤ (wrap64 ((ji42) + (wrap64 (rd l0 x1_1))))
            ·
             rw [if_pos c44] at H; have c44b0 := eq_true c44; have c44b1 : decide ((ji42) ≤ (wrap64 ((ji42) + (wrap64 (rd l0 x1_1))))) = true := decide_eq_true c44
             by_cases c45 : (wrap64 ((ji42) + (wrap64 (rd l0 x1_1)))) ≤ (l0.length : Int)
             ·
              rw [if_pos c45] at H; have c45b0 := eq_true c45; have c45b1 : decide ((wrap64 ((ji42) + (wrap64 (rd l0 x1_1)))) ≤ (l0.length : Int)) = true := decide_eq_true c45; replace H := Option.bind_eq_some_iff.mp H; obtain ⟨t114, A460, H⟩ := H; replace H : (spec_l10Read.j2 k1 l0 x1_1 (l0.length : Int) x8_1 (wrap64 (rd l0 x1_1)) t114 x111000_1 x111001_1) = some (r1, r2, r3) := H; have A46 := Aside0.mk A460; clear A460; have H' := Aside0.mk H; clear H; obtain ⟨i047, hi047, _, hsz47, _⟩ := info_parts info5; obtain ⟨A47, hcut47, hA47, hC47⟩ := print_mid_of (P := Try.prog) (Value.int .u8) 0 24 5 .i64 .i64 Try.underlying24 hi047 hsz47 (some ad111) c0 l0 (ji42) (wrap64 ((ji42) + (wrap64 (rd l0 x1_1)))) (of_decide_eq_true (by first | (with_reducible assumption) | assumption)) (by first | omega | exact of_decide_eq_true (by first | (with_reducible assumption) | assumption)) (of_decide_eq_true (by first | (with_reducible assumption) | assumption)) HC0.out; have HR113 := Aside0.mk (Kd.C_of_reads (h1 := fun _ => rfl) (hA47 _ (Kd.reads_of_C HR0.out))); have HC113 := Aside0.mk hC47; clear hA47 hC47 hi047 hsz47; have HLN113 := Aside0.mk (show ((l0.take ((wrap64 ((ji42) + (wrap64 (rd l0 x1_1)))) : Int).toNat).drop ((ji42) : Int).toNat).length = (wrap64 ((ji42) + (wrap64 (rd l0 x1_1)))).toNat - (ji42).toNat from by have h_ : ((wrap64 ((ji42) + (wrap64 (rd l0 x1_1)))) : Int) ≤ (l0.length : Int) := of_decide_eq_true (by first | (with_reducible assumption) | assumption); rw [List.length_drop, List.length_take]; omega); have hcv48 := Kd.C_string (P := Try.prog) (A := A47) (c := (c0 - (ji42).toNat)) Try.underlying24 Try.underlying5 Try.underlying9 (Kd.C_below HR113.out HB.out); have hlN48 : ((l0.take ((wrap64 ((ji42) + (wrap64 (rd l0 x1_1)))) : Int).toNat).drop ((ji42) : Int).toNat).length = ((wrap64 ((ji42) + (wrap64 (rd l0 x1_1)))) : Int).toNat - ((ji42) : Int).toNat := (by have h1_ : ((wrap64 ((ji42) + (wrap64 (rd l0 x1_1)))) : Int) ≤ (l0.length : Int) := of_decide_eq_true (by first | (with_reducible assumption) | assumption); rw [List.length_drop, List.length_take]; omega); have hcw48 := hcv48; rw [hlN48] at hcw48; clear hlN48
              go_wp2_with (first | (go_at_call 63; (with_reducible refine (spec_l10Label.calls k1 (strOfNums ((l0.take ((wrap64 ((ji42) + (wrap64 (rd l0 x1_1)))) : Int).toNat).drop ((ji42) : Int).toNat)) t114 _ A46.out).mono ?_); rintro e w' ⟨rfl, ⟨nd, rfl⟩⟩))
              (try subst hji42)
              go_meet
              case rel => exact ⟨_, (t114), eq_b, H', ⟨by have := HK1.out; first | omega | exact Nat.le_refl _⟩, ⟨R_a HO_111000.out⟩, ⟨blk_a⟩, ⟨blk_a⟩, ⟨below_a⟩⟩
             ·
              rw [if_neg c45] at H; exact absurd H (by simp)
            ·
             rw [if_neg c44] at H; exact absurd H (by simp)
           ·
            rw [if_neg c43] at H; exact absurd H (by simp)
          ·
           rw [if_neg c41] at H; have c41b0 : decide ((wrap64 ((wrap64 (x1_1 + 1)) + (wrap64 (rd l0 x1_1)))) ≤ (l0.length : Int)) = false := decide_eq_false c41; (try (have c41b1 : decide ((IntKind.i64.wrap ((IntKind.i64.wrap (x1_1 + 1)) + (IntKind.i64.wrap (rd l0 x1_1)))) ≤ (l0.length : Int)) = false := by simp only [i64_w]; exact decide_eq_false c41)); clear c41; have H' := Aside0.mk H; clear H
           go_wp2
           go_meet
           case rel => exact ⟨_, (false), eq_b, H', ⟨by have := HK1.out; first | omega | exact Nat.le_refl _⟩, ⟨R_a HO_111000.out⟩, ⟨blk_a⟩, ⟨blk_a⟩, ⟨below_a⟩⟩
         ·
          rw [if_neg c40] at H; have c40b0 : decide ((wrap64 (rd l0 x1_1)) ≤ 20) = false := decide_eq_false c40; (try (have c40b1 : decide ((IntKind.i64.wrap (rd l0 x1_1)) ≤ 20) = false := by simp only [i64_w]; exact decide_eq_false c40)); clear c40; (first | rw [c40b0] | (simp only [i64_w, i32_w]; rw [c40b0]) | skip); have H' := Aside0.mk H; clear H
          go_wp2
          go_meet
          case rel => exact ⟨_, (false), eq_b, H', ⟨by have := HK1.out; first | omega | exact Nat.le_refl _⟩, ⟨R_a HO_111000.out⟩, ⟨blk_a⟩, ⟨blk_a⟩, ⟨below_a⟩⟩
        case rest =>
         clear HC39
         try clear c1
         try clear p1 p1
         try clear q1 q1
         try clear hx1
         try clear c2
         try clear p2 p2
         try clear c3
         try clear c4
         try clear hcv4
         try clear c5
         try clear p6 p6
         try clear c7 c7b0
         try clear c8 c8b0
         try clear c9 c9b0
         try clear c10 c10b0 c10b1 c10b2
         try clear c11 c11b0 c11b1
         try clear p11 p11
         try clear q11 q11
         try clear hx11
         try clear c12
         try clear c16
         try clear c20 c20b0 c20b1
         try clear c21 c21b0 c21b1
         try clear c22
         try clear c27 c27b0
         try clear c28 c28b0
         try clear c30 c30b0 c30b1
         try clear c31
         try clear c32
         try clear c36 c36b0 c36b1 c36b2
         try clear c37
         try clear c40 c40b0 c40b1
         try clear c41 c41b0 c41b1
         try clear c43 c43b0 c43b1
         try clear c44 c44b0 c44b1
         try clear c45 c45b0 c45b1
         try clear c46
         try clear hcv48
         try clear hcz13_0 hcz13_1
         try clear hcz15_0 hcz15_1
         try clear hcz17_0 hcz17_1
         try clear hcz19_0 hcz19_1
         try clear hcz23_0 hcz23_1
         try clear hcz25_0 hcz25_1
         try clear hcz33_0 hcz33_1
         try clear hcz35_0 hcz35_1
         try clear hcz38_0 hcz38_1
         try clear hcz6_0 hcz6_1
         try clear hfz13_0 hfz13_1
         try clear hfz15_0 hfz15_1
         try clear hfz17_0 hfz17_1
         try clear hfz19_0 hfz19_1
         try clear hfz23_0 hfz23_1
         try clear hfz25_0 hfz25_1
         try clear hfz33_0 hfz33_1
         try clear hfz35_0 hfz35_1
         try clear hfz38_0 hfz38_1
         try clear hfz6_0 hfz6_1
         try clear hx111_0
         try clear hx112_0
         try clear p111
         try clear p112
         try clear q111
         try clear q112
         obtain ⟨kq, x66_38, rfl, HA, HJ38, HO_111000, BK109, BK110, HB⟩ := hcut
         cases kq with
         | zero => exact absurd HA.out (by simp [spec_l10Read.j2])
         | succ kj38 =>
          have H := HA.out; clear HA; simp only [spec_l10Read.j2] at H
          by_cases c49 : x66_38 = true
          ·
           subst c49; have H1 : (if (x111000_1.length : Int) ≥ 6 then (some (x111000_1, x111001_1, 2)) else (if 0 ≤ (wrap64 (x1_1 + 1)) then (if (wrap64 (x1_1 + 1)) ≤ (wrap64 ((wrap64 (x1_1 + 1)) + (wrap64 (rd l0 x1_1)))) then (if (wrap64 ((wrap64 (x1_1 + 1)) + (wrap64 (rd l0 x1_1)))) ≤ (l0.length : Int) then (if x111000_1.length < 8796093022208 then (spec_l10Read.l0 kj38 l0 (wrap64 ((wrap64 (x1_1 + 1)) + (wrap64 (rd l0 x1_1)))) (l0.length : Int) x8_1 (x111000_1 ++ [strOfNums ((l0.take ((wrap64 ((wrap64 (x1_1 + 1)) + (wrap64 (rd l0 x1_1)))) : Int).toNat).drop ((wrap64 (x1_1 + 1)) : Int).toNat)]) x111001_1) else (none)) else (none)) else (none)) else (none))) = some (r1, r2, r3) := by rw [if_pos rfl] at H; exact H
           clear H; have H := H1; clear H1
           by_cases c50 : (x111000_1.length : Int) ≥ 6
           ·
            rw [if_pos c50] at H; have c50b0 : decide (6 ≤ (x111000_1.length : Int)) = true := decide_eq_true c50; have c50b1 : decide (6 ≤ x111000_1.length) = true := decide_eq_true (by omega); clear c50; simp only [Option.some.injEq, Prod.mk.injEq] at H; obtain ⟨rfl, rfl, rfl⟩ := H; have hnb51 := NB110_109.out; have hnc51 := NB109_110.out; obtain ⟨hcz52_0, hcz52_1, hfz52_0, hfz52_1⟩ := bc2_ BK110.out; obtain ⟨Ao53, co53, eo53⟩ := Kd.R_slice HO_111000.out; subst eo53; obtain ⟨hcz54_0, hcz54_1, hfz54_0, hfz54_1⟩ := bc2_ BK109.out
            go_wp2
            refine bodyPost_ret (results_ct rfl _ _ gb109 34 #[.slice Ao53 x111000_1.length co53, .int .i64 x111001_1] (0, 0) _ rfl blk_a Try.underlying34 rfl (by kernel_rfl)) rfl ?_; exact ⟨_, eq_a, by (with_reducible repeat (first | apply Kd.R_alloc | apply Kd.R_drewN | apply Kd.R_drew)); exact Kd.R_mono (Kd.R_far (p := ⟨gb109, 1, none⟩) (Kd.R_far (p := ⟨gb109, 0, none⟩) (Kd.R_types HO_111000.out BK109.out (by decide)) (fun _ hk => hk.2) (.slice Ao53 x111000_1.length co53)) (fun _ hk => hk.2) (.int .i64 x111001_1)) (fun _ hk => trivial), below_a⟩
           ·
            rw [if_neg c50] at H; have c50b0 : decide (6 ≤ (x111000_1.length : Int)) = false := decide_eq_false c50; have c50b1 : decide (6 ≤ x111000_1.length) = false := decide_eq_false (by omega); clear c50; obtain ⟨ji55, hji55⟩ : ∃ j_ : Int, (wrap64 (x1_1 + 1)) = j_ := ⟨_, rfl⟩; replace H : (if 0 ≤ (ji55) then (if (ji55) ≤ (wrap64 ((ji55) + (wrap64 (rd l0 x1_1)))) then (if (wrap64 ((ji55) + (wrap64 (rd l0 x1_1)))) ≤ (l0.length : Int) then (if x111000_1.length < 8796093022208 then (spec_l10Read.l0 kj38 l0 (wrap64 ((ji55) + (wrap64 (rd l0 x1_1)))) (l0.length : Int) x8_1 (x111000_1 ++ [strOfNums ((l0.take ((wrap64 ((ji55) + (wrap64 (rd l0 x1_1)))) : Int).toNat).drop ((ji55) : Int).toNat)]) x111001_1) else (none)) else (none)) else (none)) else (none)) = some (r1, r2, r3) := by first | (rw [hji55] at H; exact H) | (simp only [hji55] at H ⊢; exact H)
            have hji55w : (IntKind.i64.wrap (x1_1 + 1)) = ji55 := (i64_w _).trans hji55
            by_cases c56 : 0 ≤ (ji55)
            ·
             rw [if_pos c56] at H; have c56b0 := eq_true c56; have c56b1 : decide (0 ≤ (ji55)) = true := decide_eq_true c56; clear c56
             by_cases c57 : (ji55) ≤ (wrap64 ((ji55) + (wrap64 (rd l0 x1_1))))
             ·
              rw [if_pos c57] at H; have c57b0 := eq_true c57; have c57b1 : decide ((ji55) ≤ (wrap64 ((ji55) + (wrap64 (rd l0 x1_1))))) = true := decide_eq_true c57
              by_cases c58 : (wrap64 ((ji55) + (wrap64 (rd l0 x1_1)))) ≤ (l0.length : Int)
              ·
               rw [if_pos c58] at H; have c58b0 := eq_true c58; have c58b1 : decide ((wrap64 ((ji55) + (wrap64 (rd l0 x1_1)))) ≤ (l0.length : Int)) = true := decide_eq_true c58
               by_cases c59 : x111000_1.length < 8796093022208
               ·
                rw [if_pos c59] at H; have LMc59 := Aside0.mk c59; clear c59; obtain ⟨y116, hy116⟩ : ∃ y_ : List ByteArray, y_ = (x111000_1 ++ [strOfNums ((l0.take ((wrap64 ((ji55) + (wrap64 (rd l0 x1_1)))) : Int).toNat).drop ((ji55) : Int).toNat)]) := ⟨_, rfl⟩; replace H : (spec_l10Read.l0 kj38 l0 (wrap64 ((ji55) + (wrap64 (rd l0 x1_1)))) (l0.length : Int) x8_1 y116 x111001_1) = some (r1, r2, r3) := by first | (rw [hy116]; with_reducible exact H) | (have H2_ := (Option.bind_some _ _).symm.trans H; rw [hy116]; with_reducible exact H2_) | (have H2_ := (Option.bind_some _ _).symm.trans H; with_reducible exact H2_) | with_reducible exact H | (rw [hy116]; exact H) | exact H
                have Ny116 := Aside0.mk hy116; clear hy116; have H' := Aside0.mk H; clear H; have hnb60 := NB110_109.out; have hnc60 := NB109_110.out; obtain ⟨hcz61_0, hcz61_1, hfz61_0, hfz61_1⟩ := bc2_ BK110.out; obtain ⟨Ao62, co62, eo62⟩ := Kd.R_slice HO_111000.out; subst eo62
                try go_wp2
                replace HO_111000 := Aside0.mk (Kd.R_drew HO_111000.out); replace BK109 := Aside0.mk (blk_drew BK109.out); replace BK110 := Aside0.mk (blk_drew BK110.out); replace HB := Aside0.mk (below_drew1 HB.out); obtain ⟨i064, hi064, _, hsz64, _⟩ := info_parts info5; obtain ⟨A64, hcut64, hA64, hC64⟩ := print_mid_of (P := Try.prog) (Value.int .u8) 0 24 5 .i64 .i64 Try.underlying24 hi064 hsz64 (some ad111) c0 l0 (ji55) (wrap64 ((ji55) + (wrap64 (rd l0 x1_1)))) (of_decide_eq_true (by first | (with_reducible assumption) | assumption)) (by first | omega | exact of_decide_eq_true (by first | (with_reducible assumption) | assumption)) (of_decide_eq_true (by first | (with_reducible assumption) | assumption)) HC0.out; have HR115 := Aside0.mk (Kd.C_of_reads (h1 := fun _ => rfl) (hA64 _ (Kd.reads_of_C HR0.out))); have HC115 := Aside0.mk hC64; clear hA64 hC64 hi064 hsz64; have HLN115 := Aside0.mk (show ((l0.take ((wrap64 ((ji55) + (wrap64 (rd l0 x1_1)))) : Int).toNat).drop ((ji55) : Int).toNat).length = (wrap64 ((ji55) + (wrap64 (rd l0 x1_1)))).toNat - (ji55).toNat from by have h_ : ((wrap64 ((ji55) + (wrap64 (rd l0 x1_1)))) : Int) ≤ (l0.length : Int) := of_decide_eq_true (by first | (with_reducible assumption) | assumption); rw [List.length_drop, List.length_take]; omega); refine start_ (n := 15) (S := fun w' => w'.cell? ⟨gb110, 0, none⟩ = some (.slice Ao62 x111000_1.length co62) ∧ w'.cell? ⟨gb110, 1, none⟩ = some (.int .i64 x111001_1)) (ds := [14]) #[Z',Z',Z',Z',Z',Z',Z',Z',Z',Z',Z',Z',Z',Z',Z'] (by kernel_rfl) rfl rfl ⟨(blk_cell BK110.out 0).trans rfl, (blk_cell BK110.out 1).trans rfl⟩ (fun hHeld => ?_); refine with_tabW spec_l10Read.tab24 spec_l10Read.bits24 (fun HT_ HW_ => ?_); generalize wc.drew = w63 at HO_111000 BK109 BK110 HB HR115 hHeld ⊢; refine pure_ (i := 0) (N := some 94) (v := ?_) (a' := ?_) #[Y',Z',Z',Z',Z',Z',Z',Z',Z',Z',Z',Z',Z',Z',Z'] rfl rfl (any_of HT_.out (by kernel_rfl)) (fun _ _ _ h => h) (Or.inl ⟨by rfl, ?_⟩) ?_ ?_; rotate_left
                ·
                 intro w'
                 go_simp
                 with_reducible rfl
                rotate_left
                ·
                 simp only [Act.put, List.setIfInBounds_toArray, List.set_cons_zero, List.set_cons_succ, i64_w, i32_w]; rfl
                refine pure_ (i := 2) (N := some 96) (v := ?_) (a' := ?_) #[Y',Z',Y',Z',Z',Z',Z',Z',Z',Z',Z',Z',Z',Z',Z'] rfl rfl (any_of HT_.out (by kernel_rfl)) (fun _ _ _ h => h) (Or.inl ⟨by rfl, ?_⟩) ?_ ?_; rotate_left
                ·
                 intro w'
                 go_simp
                 with_reducible rfl
                rotate_left
                ·
                 simp only [Act.put, List.setIfInBounds_toArray, List.set_cons_zero, List.set_cons_succ, i64_w, i32_w]; rfl
                refine pure_ (i := 3) (N := some 97) (v := ?_) (a' := ?_) #[Y',Z',Y',Y',Z',Z',Z',Z',Z',Z',Z',Z',Z',Z',Z'] rfl rfl (any_of HT_.out (by kernel_rfl)) (fun _ _ _ h => h) (Or.inl ⟨by rfl, ?_⟩) ?_ ?_; rotate_left
                ·
                 intro w'
                 go_simp
                 with_reducible rfl
                rotate_left
                ·
                 simp only [Act.put, List.setIfInBounds_toArray, List.set_cons_zero, List.set_cons_succ, i64_w, i32_w]; rfl
                refine pure_ (i := 4) (N := some 98) (v := ?_) (a' := ?_) #[Y',Z',Y',Y',Y',Z',Z',Z',Z',Z',Z',Z',Z',Z',Z'] rfl rfl (any_of HT_.out (by kernel_rfl)) (fun _ _ _ h => h) (Or.inl ⟨by rfl, ?_⟩) ?_ ?_; rotate_left
                ·
                 intro w'
                 go_simp
                 with_reducible rfl
                rotate_left
                ·
                 simp only [Act.put, List.setIfInBounds_toArray, List.set_cons_zero, List.set_cons_succ, i64_w, i32_w]; rfl
                refine pure_ (i := 5) (N := some 99) (v := ?_) (a' := ?_) #[Y',Z',Y',Y',Y',Y',Z',Z',Z',Z',Z',Z',Z',Z',Z'] rfl rfl (any_of HT_.out (by kernel_rfl)) (fun _ _ _ h => h) (Or.inl ⟨by rfl, ?_⟩) ?_ ?_; rotate_left
                ·
                 intro w'
                 go_simp
                 with_reducible rfl
                rotate_left
                ·
                 simp only [Act.put, List.setIfInBounds_toArray, List.set_cons_zero, List.set_cons_succ, i64_w, i32_w]; rfl
                refine pure_ (i := 6) (N := some 100) (v := ?_) (a' := ?_) #[Y',Z',Y',Y',Y',Y',Y',Z',Z',Z',Z',Z',Z',Z',Z'] rfl rfl (any_of HT_.out (by kernel_rfl)) (fun _ _ _ h => h) (Or.inl ⟨by rfl, ?_⟩) ?_ ?_; rotate_left
                ·
                 intro w'
                 go_simp
                 with_reducible rfl
                rotate_left
                ·
                 simp only [Act.put, List.setIfInBounds_toArray, List.set_cons_zero, List.set_cons_succ, i64_w, i32_w]; rfl
                refine pure_ (i := 7) (N := some 101) (v := ?_) (a' := ?_) #[Y',Z',Y',Y',Y',Y',Y',Y',Z',Z',Z',Z',Z',Z',Z'] rfl rfl (any_of HT_.out (by kernel_rfl)) (fun _ _ _ h => h) (Or.inl ⟨by rfl, ?_⟩) ?_ ?_; rotate_left
                ·
                 intro w'
                 go_simp
                 with_reducible rfl
                rotate_left
                ·
                 simp only [Act.put, List.setIfInBounds_toArray, List.set_cons_zero, List.set_cons_succ, i64_w, i32_w]; rfl
                refine pure_ (i := 8) (N := some 102) (v := ?_) (a' := ?_) #[Y',Z',Y',Y',Y',Y',Y',Y',Y',Z',Z',Z',Z',Z',Z'] rfl rfl (any_of HT_.out (by kernel_rfl)) (fun _ _ _ h => h) (Or.inl ⟨by rfl, ?_⟩) ?_ ?_; rotate_left
                ·
                 intro w'
                 go_simp
                 with_reducible rfl
                rotate_left
                ·
                 simp only [Act.put, List.setIfInBounds_toArray, List.set_cons_zero, List.set_cons_succ, i64_w, i32_w]; rfl
                refine pure_ (i := 9) (N := some 103) (v := ?_) (a' := ?_) #[Y',Z',Y',Y',Y',Y',Y',Y',Y',Y',Z',Z',Z',Z',Z'] rfl rfl (any_of HT_.out (by kernel_rfl)) (fun _ _ _ h => h) (Or.inl ⟨by rfl, ?_⟩) ?_ ?_; rotate_left
                ·
                 intro w'
                 go_simp
                 with_reducible rfl
                rotate_left
                ·
                 simp only [Act.put, List.setIfInBounds_toArray, List.set_cons_zero, List.set_cons_succ, i64_w, i32_w]; rfl
                refine take_ (i := 1) (N := some 95) (v := ?_) (a' := ?_) #[Y',Y',Y',Y',Y',Y',Y',Y',Y',Y',Z',Z',Z',Z',Z'] rfl rfl (take_ofW HT_.out HW_.out (by kernel_rfl)) (fun _ _ _ h => h) (Or.inl ⟨by rfl, ?_⟩) hHeld ?_ ?_; rotate_left
                ·
                 rintro w' ⟨s0, s1⟩
                 go_simp
                 with_reducible rfl
                rotate_left
                ·
                 simp only [Act.put, List.setIfInBounds_toArray, List.set_cons_zero, List.set_cons_succ, i64_w, i32_w]; rfl
                refine one_ (i := 10) (N := some 104) #[Y',Y',Y',Y',Y',Y',Y',Y',Y',Y',Y',Z',Z',Z',Z'] rfl rfl (one_of HT_.out (by kernel_rfl)) (by decide) (fun K hK => ?_)
                (have hcv65 := Kd.C_string (P := Try.prog) (A := A64) (c := (c0 - (ji55).toNat)) Try.underlying24 Try.underlying5 Try.underlying9 (Kd.C_below HR115.out below_a); have hlN65 : ((l0.take ((wrap64 ((ji55) + (wrap64 (rd l0 x1_1)))) : Int).toNat).drop ((ji55) : Int).toNat).length = ((wrap64 ((ji55) + (wrap64 (rd l0 x1_1)))) : Int).toNat - ((ji55) : Int).toNat := (by have h1_ : ((wrap64 ((ji55) + (wrap64 (rd l0 x1_1)))) : Int) ≤ (l0.length : Int) := of_decide_eq_true (by first | (with_reducible assumption) | assumption); rw [List.length_drop, List.length_take]; omega); have hcw65 := hcv65; rw [hlN65] at hcw65; clear hlN65)
                refine value_ (w1 := ?_) (v := ?_) (by rfl) rfl ?_ ?_; rotate_left 2
                ·
                 go_simp
                 constructor
                 ·
                  rfl
                 ·
                  rfl
                (try clear hcv65) <;> (try clear hcw65); refine hK.out _ _ ⟨(blk_cell BK110.out 0).trans rfl, (blk_cell BK110.out 1).trans rfl⟩ (fun hHeld => ?_); clear hK K; refine norm_ (a' := ?_) ?_ ?_; rotate_left
                ·
                 show Act.put _ (some 104) _ = _; simp only [Act.put, List.setIfInBounds_toArray, List.set_cons_zero, List.set_cons_succ, i64_w, i32_w]; rfl
                refine one_ (i := 11) (N := some 105) #[Y',Y',Y',Y',Y',Y',Y',Y',Y',Y',Y',Y',Z',Z',Z'] rfl rfl (one_of HT_.out (by kernel_rfl)) (by decide) (fun K hK => ?_); refine value_ (w1 := ?_) (v := ?_) (by rfl) rfl ?_ ?_; rotate_left 2
                ·
                 go_simp
                 constructor
                 ·
                  rfl
                 ·
                  rfl
                refine hK.out _ _ ⟨(blk_cell (blk_alloc BK110.out _) 0).trans rfl, (blk_cell (blk_alloc BK110.out _) 1).trans rfl⟩ (fun hHeld => ?_); clear hK K; refine norm_ (a' := ?_) ?_ ?_; rotate_left
                ·
                 show Act.put _ (some 105) _ = _; simp only [Act.put, List.setIfInBounds_toArray, List.set_cons_zero, List.set_cons_succ, i64_w, i32_w]; rfl
                refine one_ (i := 12) (N := some 106) #[Y',Y',Y',Y',Y',Y',Y',Y',Y',Y',Y',Y',Y',Z',Z'] rfl rfl (one_of HT_.out (by kernel_rfl)) (by decide) (fun K hK => ?_); refine Kd.R_append_step Kd.string (w0 := w) w.heap.size (by rfl) (.tmp 95) (.tmp 105) 22 9 (.string ⟨#[]⟩) 16 rfl Try.underlying22 info9 rfl (by decide) (by omega) (.slice Ao62 x111000_1.length co62) x111000_1 (strOfNums ((l0.take ((wrap64 ((ji55) + (wrap64 (rd l0 x1_1)))) : Int).toNat).drop ((ji55) : Int).toNat)) [.string (strOfNums ((l0.take ((wrap64 ((ji55) + (wrap64 (rd l0 x1_1)))) : Int).toNat).drop ((ji55) : Int).toNat))] (fun _ => True) (fun _ => False) rfl rfl ?aP (fun _ hk => hk.elim) ?aF ?aO ?aB ?aS ?aL ?_; (case aP => exact rfl); (case aB => exact below_a); (case aF => exact (fun _ _ => trivial)); (case aO => exact (R_a HO_111000.out)); (case aS => exact (below_size below_a)); (case aL => have := LMc59.out; omega); intro v117 w66 ho hb hg hat; rw [← Ny116.out] at ho; replace BK109 := Aside0.mk (blk_grown (g := gb109) blk_c hg (Kd.R_ne HO_111000.out BK109.out (by decide))); replace BK110 := Aside0.mk (blk_grown (g := gb110) blk_c hg (Kd.R_ne HO_111000.out BK110.out (by decide))); replace HB := Aside0.mk (hb); have HO118 := Aside0.mk (ho); clear HO_111000 ho hb hg hat; obtain ⟨Ao67, co67, eo67⟩ := Kd.R_slice HO118.out; (first | subst eo67 | (injection eo67 with f1_ f2_ f3_; have f4_ := f1_.symm; have f5_ := f3_.symm; clear f1_ f2_ f3_; subst f4_; subst f5_)); refine hK.out _ _ ⟨(blk_cell BK110.out 0).trans rfl, (blk_cell BK110.out 1).trans rfl⟩ (fun hHeld => ?_); clear hK K; refine norm_ (a' := ?_) ?_ ?_; rotate_left
                ·
                 show Act.put _ (some 106) _ = _; simp only [Act.put, List.setIfInBounds_toArray, List.set_cons_zero, List.set_cons_succ, i64_w, i32_w]; rfl
                refine pure_ (i := 13) (N := some 107) (v := ?_) (a' := ?_) #[Y',Y',Y',Y',Y',Y',Y',Y',Y',Y',Y',Y',Y',Y',Z'] rfl rfl (any_of HT_.out (by kernel_rfl)) (fun _ _ _ h => h) (Or.inl ⟨by rfl, ?_⟩) ?_ ?_; rotate_left
                ·
                 intro w'
                 go_simp
                 with_reducible rfl
                rotate_left
                ·
                 simp only [Act.put, List.setIfInBounds_toArray, List.set_cons_zero, List.set_cons_succ, i64_w, i32_w]; rfl
                refine last_ (i := 14) (N := none) #[Y',Y',Y',Y',Y',Y',Y',Y',Y',Y',Y',Y',Y',Y',Y'] rfl rfl (one_of HT_.out (by kernel_rfl)) (by decide) (fun K hK => ?_); have hs68 : w66.cell? ⟨gb110, 0, none⟩ = some (.slice Ao62 x111000_1.length co62) := (blk_cell BK110.out 0).trans rfl; have hfs68 := blk_frozen BK110.out 0; have hns68_0 := NB109_110.out; have hms68_0 := NB110_109.out; refine skip_ (w1 := ?_) (by rfl) rfl ?_ ?_; rotate_left
                ·
                 go_simp
                 rfl
                refine hK.out _ _ ?_; clear hK K; refine done_ (done_of HT_.out (by kernel_rfl)) ?_
                try go_wp2
                go_roundg kj38
                case measure => have := HK1.out; have := HJ38.out; omega
                case rel => exact ⟨(wrap64 ((ji55) + (wrap64 (rd l0 x1_1)))), (x8_1), (x110001_1), (y116), (x111001_1), (.slice Ao67 y116.length co67), (by first | rfl | (simp; done) | (simp only [← hji55] <;> (first | rfl | simp)) | (simp [*]; done)), eq_b, H', ⟨by have := HK1.out; have := HJ38.out; omega⟩, ⟨by (with_reducible repeat (first | apply Kd.R_alloc | apply Kd.R_drewN | apply Kd.R_drew)); exact Kd.R_mono (Kd.R_far (p := ⟨gb110, 0, none⟩) (Kd.R_types HO118.out BK110.out (by decide)) (fun _ hk => hk.2) (.slice Ao67 y116.length co67)) (fun _ hk => trivial)⟩, ⟨blk_a⟩, ⟨blk_a⟩, ⟨below_a⟩⟩
               ·
                rw [if_neg c59] at H; exact absurd H (by simp)
              ·
               rw [if_neg c58] at H; exact absurd H (by simp)
             ·
              rw [if_neg c57] at H; exact absurd H (by simp)
            ·
             rw [if_neg c56] at H; exact absurd H (by simp)
          ·
           replace c49 := Bool.eq_false_iff.mpr c49; subst c49; have H1 : (some (x111000_1, x111001_1, 5)) = some (r1, r2, r3) := by rw [if_neg (show ¬ (false = true) by decide)] at H; exact H
           clear H; have H := H1; clear H1; simp only [Option.some.injEq, Prod.mk.injEq] at H; obtain ⟨rfl, rfl, rfl⟩ := H; have hnb69 := NB110_109.out; have hnc69 := NB109_110.out; obtain ⟨hcz70_0, hcz70_1, hfz70_0, hfz70_1⟩ := bc2_ BK110.out; obtain ⟨Ao71, co71, eo71⟩ := Kd.R_slice HO_111000.out; subst eo71; obtain ⟨hcz72_0, hcz72_1, hfz72_0, hfz72_1⟩ := bc2_ BK109.out
           go_wp2
           refine bodyPost_ret (results_ct rfl _ _ gb109 34 #[.slice Ao71 x111000_1.length co71, .int .i64 x111001_1] (0, 0) _ rfl blk_a Try.underlying34 rfl (by kernel_rfl)) rfl ?_; exact ⟨_, eq_a, by (with_reducible repeat (first | apply Kd.R_alloc | apply Kd.R_drewN | apply Kd.R_drew)); exact Kd.R_mono (Kd.R_far (p := ⟨gb109, 1, none⟩) (Kd.R_far (p := ⟨gb109, 0, none⟩) (Kd.R_types HO_111000.out BK109.out (by decide)) (fun _ hk => hk.2) (.slice Ao71 x111000_1.length co71)) (fun _ hk => hk.2) (.int .i64 x111001_1)) (fun _ hk => trivial), below_a⟩
     ·
      rw [if_neg c9] at H; exact absurd H (by simp)
    ·
     rw [if_neg c8] at H; exact absurd H (by simp)
   ·
    rw [if_neg c7] at H; have c7b0 : decide (x1_1 < (l0.length : Int)) = false := decide_eq_false c7; clear c7; simp only [Option.some.injEq, Prod.mk.injEq] at H; obtain ⟨rfl, rfl, rfl⟩ := H; have hnb73 := NB110_109.out; have hnc73 := NB109_110.out; obtain ⟨hcz74_0, hcz74_1, hfz74_0, hfz74_1⟩ := bc2_ BK110.out; obtain ⟨Ao75, co75, eo75⟩ := Kd.R_slice HO_111000.out; subst eo75; obtain ⟨hcz76_0, hcz76_1, hfz76_0, hfz76_1⟩ := bc2_ BK109.out
    go_wp2
    refine bodyPost_ret (results_ct rfl _ _ gb109 34 #[.slice Ao75 x111000_1.length co75, .int .i64 x111001_1] (0, 0) _ rfl blk_a Try.underlying34 rfl (by kernel_rfl)) rfl ?_; exact ⟨_, eq_a, by (with_reducible repeat (first | apply Kd.R_alloc | apply Kd.R_drewN | apply Kd.R_drew)); exact Kd.R_mono (Kd.R_far (p := ⟨gb109, 1, none⟩) (Kd.R_far (p := ⟨gb109, 0, none⟩) (Kd.R_types HO_111000.out BK109.out (by decide)) (fun _ hk => hk.2) (.slice Ao75 x111000_1.length co75)) (fun _ hk => hk.2) (.int .i64 x111001_1)) (fun _ hk => trivial), below_a⟩

end Go.Proofs.Ytllkeaghjacalaa.MFnExactReadQuery
