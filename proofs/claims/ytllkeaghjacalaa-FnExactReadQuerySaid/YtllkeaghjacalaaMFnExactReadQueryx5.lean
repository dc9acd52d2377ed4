-- Laid by a program of this session (the kit's print, turned where it falls short; the texts of functions that it does not take are proved by hand).
import Derived.Test.YtllkeaghjacalaaMFnExactReadQueryx0
import Derived.Test.YtllkeaghjacalaaMFnExactReadQueryx4
namespace Go.Proofs.Ytllkeaghjacalaa.MFnExactReadQuery
open Go.RowKit Go.Proofs.YtllkeaghjacalaaW.PrintWords Go.Proofs.YtllkeaghjacalaaW.PrintLast Go.Proofs.YtllkeaghjacalaaW.PrintMore
attribute [local go_sem] max2_int min2_int max_two min_two max_three min_three max_four min_four   -- for this text's walks alone
set_option linter.unusedVariables false
set_option linter.unusedSimpArgs false

attribute [local go_sem] isSome_setCell
/-! ### impl_ReadName: function 19 -/
mutual
def impl_ReadName.l0 : Nat → List Int → Int → Int → Int → List ByteArray → Int → Option (Int × List ByteArray × Int)
 | 0, _, _, _, _, _, _ => none
 | k + 1, x0, x6, x7, x179000, x179001, x179002 => if x6 < (x0.length : Int) then (if 0 ≤ x6 then (if (wrap64 (rd x0 x6)) = 0 then (if x7 = 0 then (some (x179000, x179001, wrap64 (x6 + 1))) else (some (x179000, x179001, x179002))) else (if (wrap64 (rd x0 x6)) ≤ 20 then (if (wrap64 ((wrap64 (x6 + 1)) + (wrap64 (rd x0 x6)))) > (x0.length : Int) then (impl_ReadName.j1 k x0 x6 x7 (wrap64 ((wrap64 (x6 + 1)) + (wrap64 (rd x0 x6)))) true x179000 x179001 x179002) else (if 0 ≤ (wrap64 (x6 + 1)) then (if (wrap64 (x6 + 1)) ≤ (wrap64 ((wrap64 (x6 + 1)) + (wrap64 (rd x0 x6)))) then (if (wrap64 ((wrap64 (x6 + 1)) + (wrap64 (rd x0 x6)))) ≤ (x0.length : Int) then ((impl_isLabel.f k (strOfNums ((x0.take ((wrap64 ((wrap64 (x6 + 1)) + (wrap64 (rd x0 x6)))) : Int).toNat).drop ((wrap64 (x6 + 1)) : Int).toNat))).bind fun t181 => (impl_ReadName.j1 k x0 x6 x7 (wrap64 ((wrap64 (x6 + 1)) + (wrap64 (rd x0 x6)))) (!t181) x179000 x179001 x179002)) else (none)) else (none)) else (none))) else (if (wrap64 (rd x0 x6)) ≥ 192 then (impl_ReadName.j2 k x0 x6 x7 (wrap64 (rd x0 x6)) (decide ((wrap64 (x6 + 1)) < (x0.length : Int))) x179000 x179001 x179002) else (impl_ReadName.j2 k x0 x6 x7 (wrap64 (rd x0 x6)) false x179000 x179001 x179002)))) else (none)) else (some (5, ([] : List ByteArray), 0))
def impl_ReadName.j1 : Nat → List Int → Int → Int → Int → Bool → Int → List ByteArray → Int → Option (Int × List ByteArray × Int)
 | 0, _, _, _, _, _, _, _, _ => none
 | k + 1, x0, x6, x7, x9, x60, x179000, x179001, x179002 => if x60 = true then (some (5, ([] : List ByteArray), 0)) else (if (x179001.length : Int) = 6 then (some (2, ([] : List ByteArray), 0)) else (if 0 ≤ (wrap64 (x6 + 1)) then (if (wrap64 (x6 + 1)) ≤ x9 then (if x9 ≤ (x0.length : Int) then (if x179001.length < 8796093022208 then (impl_ReadName.l0 k x0 x9 x7 x179000 (x179001 ++ [strOfNums ((x0.take (x9 : Int).toNat).drop ((wrap64 (x6 + 1)) : Int).toNat)]) x179002) else (none)) else (none)) else (none)) else (none)))
def impl_ReadName.j2 : Nat → List Int → Int → Int → Int → Bool → Int → List ByteArray → Int → Option (Int × List ByteArray × Int)
 | 0, _, _, _, _, _, _, _, _ => none
 | k + 1, x0, x6, x7, x8, x82, x179000, x179001, x179002 => if x82 = true then (if 0 ≤ (wrap64 (x6 + 1)) then (if (wrap64 (x6 + 1)) < (x0.length : Int) then (if x7 = 0 then (if (wrap64 ((wrap64 ((wrap64 (x8 - 192)) * 256)) + (wrap64 (rd x0 (wrap64 (x6 + 1)))))) ≥ x6 then (some (5, ([] : List ByteArray), 0)) else (if (wrap64 (x7 + 1)) > 5 then (some (5, ([] : List ByteArray), 0)) else (impl_ReadName.l0 k x0 (wrap64 ((wrap64 ((wrap64 (x8 - 192)) * 256)) + (wrap64 (rd x0 (wrap64 (x6 + 1)))))) (wrap64 (x7 + 1)) x179000 x179001 (wrap64 (x6 + 2))))) else (if (wrap64 ((wrap64 ((wrap64 (x8 - 192)) * 256)) + (wrap64 (rd x0 (wrap64 (x6 + 1)))))) ≥ x6 then (some (5, ([] : List ByteArray), 0)) else (if (wrap64 (x7 + 1)) > 5 then (some (5, ([] : List ByteArray), 0)) else (impl_ReadName.l0 k x0 (wrap64 ((wrap64 ((wrap64 (x8 - 192)) * 256)) + (wrap64 (rd x0 (wrap64 (x6 + 1)))))) (wrap64 (x7 + 1)) x179000 x179001 x179002)))) else (none)) else (none)) else (some (5, ([] : List ByteArray), 0))
end
def impl_ReadName.f (k : Nat) (l0 : List Int) (a1 : Int) : Option (Int × List ByteArray × Int) := (impl_in.f a1 0 (wrap64 ((l0.length : Int) - 1))).bind fun t177 => (if t177 = true then (impl_ReadName.l0 k l0 a1 0 0 ([] : List ByteArray) 0) else (some (3, ([] : List ByteArray), 0)))
theorem impl_ReadName.mono_l : ∀ k, (∀ y0 y1 y2 y3 y4 y5, LeO (impl_ReadName.l0 k y0 y1 y2 y3 y4 y5) (impl_ReadName.l0 (k + 1) y0 y1 y2 y3 y4 y5)) ∧ (∀ y0 y1 y2 y3 y4 y5 y6 y7, LeO (impl_ReadName.j1 k y0 y1 y2 y3 y4 y5 y6 y7) (impl_ReadName.j1 (k + 1) y0 y1 y2 y3 y4 y5 y6 y7)) ∧ (∀ y0 y1 y2 y3 y4 y5 y6 y7, LeO (impl_ReadName.j2 k y0 y1 y2 y3 y4 y5 y6 y7) (impl_ReadName.j2 (k + 1) y0 y1 y2 y3 y4 y5 y6 y7))
 | 0 => ⟨fun _ _ _ _ _ _ r h => by simp [impl_ReadName.l0] at h, fun _ _ _ _ _ _ _ _ r h => by simp [impl_ReadName.j1] at h, fun _ _ _ _ _ _ _ _ r h => by simp [impl_ReadName.j2] at h⟩
 | k + 1 => by
  obtain ⟨ih0, ih1, ih2⟩ := impl_ReadName.mono_l k; refine ⟨?_, ?_, ?_⟩
  ·
   intro y0 y1 y2 y3 y4 y5
   unfold impl_ReadName.l0
   repeat' first
   | (with_reducible exact ih0 _ _ _ _ _ _)
   | (with_reducible exact ih1 _ _ _ _ _ _ _ _)
   | (with_reducible exact ih2 _ _ _ _ _ _ _ _)
   | (with_reducible exact impl_isLabel.mono _ _)
   | (with_reducible exact LeO.refl _)
   | (with_reducible exact LeO.none _)
   | (with_reducible refine LeO.ite ?_ ?_)
   | (with_reducible refine LeO.bind ?_ (fun _ => ?_))
   | exact ih0 _ _ _ _ _ _
   | exact ih1 _ _ _ _ _ _ _ _
   | exact ih2 _ _ _ _ _ _ _ _
   | exact impl_isLabel.mono _ _
   | exact LeO.none _
   | refine LeO.ite ?_ ?_
   | refine LeO.bind ?_ (fun _ => ?_)
  ·
   intro y0 y1 y2 y3 y4 y5 y6 y7
   unfold impl_ReadName.j1
   repeat' first
   | (with_reducible exact ih0 _ _ _ _ _ _)
   | (with_reducible exact ih1 _ _ _ _ _ _ _ _)
   | (with_reducible exact ih2 _ _ _ _ _ _ _ _)
   | (with_reducible exact impl_isLabel.mono _ _)
   | (with_reducible exact LeO.refl _)
   | (with_reducible exact LeO.none _)
   | (with_reducible refine LeO.ite ?_ ?_)
   | (with_reducible refine LeO.bind ?_ (fun _ => ?_))
   | exact ih0 _ _ _ _ _ _
   | exact ih1 _ _ _ _ _ _ _ _
   | exact ih2 _ _ _ _ _ _ _ _
   | exact impl_isLabel.mono _ _
   | exact LeO.none _
   | refine LeO.ite ?_ ?_
   | refine LeO.bind ?_ (fun _ => ?_)
  ·
   intro y0 y1 y2 y3 y4 y5 y6 y7
   unfold impl_ReadName.j2
   repeat' first
   | (with_reducible exact ih0 _ _ _ _ _ _)
   | (with_reducible exact ih1 _ _ _ _ _ _ _ _)
   | (with_reducible exact ih2 _ _ _ _ _ _ _ _)
   | (with_reducible exact impl_isLabel.mono _ _)
   | (with_reducible exact LeO.refl _)
   | (with_reducible exact LeO.none _)
   | (with_reducible refine LeO.ite ?_ ?_)
   | (with_reducible refine LeO.bind ?_ (fun _ => ?_))
   | exact ih0 _ _ _ _ _ _
   | exact ih1 _ _ _ _ _ _ _ _
   | exact ih2 _ _ _ _ _ _ _ _
   | exact impl_isLabel.mono _ _
   | exact LeO.none _
   | refine LeO.ite ?_ ?_
   | refine LeO.bind ?_ (fun _ => ?_)
theorem impl_ReadName.mono : ∀ a0 a1 k, LeO (impl_ReadName.f k a0 a1) (impl_ReadName.f (k + 1) a0 a1) := by
 intro a0 a1 k
 obtain ⟨ih0, ih1, ih2⟩ := impl_ReadName.mono_l k
 unfold impl_ReadName.f
 repeat' first
   | (with_reducible exact ih0 _ _ _ _ _ _)
   | (with_reducible exact ih1 _ _ _ _ _ _ _ _)
   | (with_reducible exact ih2 _ _ _ _ _ _ _ _)
   | (with_reducible exact impl_isLabel.mono _ _)
   | (with_reducible exact LeO.refl _)
   | (with_reducible exact LeO.none _)
   | (with_reducible refine LeO.ite ?_ ?_)
   | (with_reducible refine LeO.bind ?_ (fun _ => ?_))
   | exact ih0 _ _ _ _ _ _
   | exact ih1 _ _ _ _ _ _ _ _
   | exact ih2 _ _ _ _ _ _ _ _
   | exact impl_isLabel.mono _ _
   | exact LeO.none _
   | refine LeO.ite ?_ ?_
   | refine LeO.bind ?_ (fun _ => ?_)
def impl_ReadName.T18 : Bool × List (List Nat × List Nat) := (true, [([], []), ([0], [0]), ([1], [1]), ([], []), ([], []), ([4], [4]), ([], []), ([3, 5, 6], [3, 5, 6]), ([7], [7]), ([8], [8]), ([2, 9], [2, 9]), ([0, 1, 2, 3, 4, 5, 6, 7, 8, 9, 10], []), ([11, 0, 1, 2, 3, 4, 5, 6, 7, 8, 9, 10], [11]), ([12, 10, 10, 0, 1, 2, 3, 4, 5, 6, 7, 8, 9, 10], [10, 12])])
def impl_ReadName.B18 : List Nat := [0, 1, 3, 0, 0, 16, 0, 120, 248, 504, 1023, 2047, 4095, 8191]
theorem impl_ReadName.tab18 : rtab .any (opsOf Try.f19 18) = impl_ReadName.T18 := by kernel_rfl
theorem impl_ReadName.bits18 : waitsOk impl_ReadName.T18.2 impl_ReadName.B18 = true := by kernel_rfl
set_option maxHeartbeats 8000000 in
set_option maxRecDepth 100000 in
theorem impl_ReadName.calls (k : Nat) (A0 : Option Addr) (c0 : Nat) (l0 : List Int) (a1 : Int) (r1 : Int) (r2 : List ByteArray) (r3 : Int) (w : World) (hr0 : Kd.C (Kd.int .u8) w A0 l0.length l0) (hc0 : l0.length ≤ c0) (h : impl_ReadName.f k l0 a1 = some (r1, r2, r3)) :
  Calls Try.prog 19 #[.slice A0 l0.length c0, .int .i64 a1] w fun e w' => ∃ v1_ : Value, e = .returned (.agg #[.int .i64 r1, v1_, .int .i64 r3]) ∧ Kd.R Kd.string 9 w' w.heap.size (fun _ => True) v1_ r2 ∧ Below w.heap.size w w' := by
 have hu36 := Try.underlying36
 have HR0 := Aside0.mk hr0
 have HC0 := Aside0.mk hc0
 clear hr0 hc0
 have HB := Aside0.mk (Below.refl w.heap.size w)
 have H : ((impl_in.f a1 0 (wrap64 ((l0.length : Int) - 1))).bind fun t177 => (if t177 = true then (impl_ReadName.l0 k l0 a1 0 0 ([] : List ByteArray) 0) else (some (3, ([] : List ByteArray), 0)))) = some (r1, r2, r3) := h
 clear h
 replace H := Option.bind_eq_some_iff.mp H
 obtain ⟨t177, A30, H⟩ := H
 replace H : (if t177 = true then (impl_ReadName.l0 k l0 a1 0 0 ([] : List ByteArray) 0) else (some (3, ([] : List ByteArray), 0))) = some (r1, r2, r3) := H
 have A3 := Aside0.mk A30
 clear A30
 by_cases c4 : t177 = true
 ·
  subst c4; have H1 : (impl_ReadName.l0 k l0 a1 0 0 ([] : List ByteArray) 0) = some (r1, r2, r3) := by rw [if_pos rfl] at H; exact H
  clear H; have H := H1; clear H1; have H' := Aside0.mk H; clear H
  go_enter Try.func19, Try.ntmps19
  go_wp2_with (first | ((with_reducible refine gate_dst (N := 4) rfl ?_); (try (refine gate_guard (by rfl) ?_; dsimp only)); refine box_event ?hg (N := 4) ?hd (cs := #[.int .i64 0, .slice none 0 0, .int .i64 0]) (t := 36) ?hr ?_; (case hd => rfl); (case hg => rfl); (case hr => first | (go_simp; done) | (go_simp; rfl)); intro gb176 hg w5 hbox hb; have n0_ := Aside0.mk (below_step below_a hb); have BK176 := Aside0.mk (hbox); have GW176 := Aside0.mk (bsz_ (w := w) hg); have GE176 := Aside0.mk (bsz_ (w := w) hg); replace HB := n0_; clear n0_; clear hb hbox hg) | ((with_reducible refine gate_callee (f := 47) rfl ?_); refine goesL_ (some 15) rfl rfl Try.func47 (by kernel_rfl) rfl #[.int .i64 a1, .int .i64 0, .int .i64 (wrap64 ((l0.length : Int) - 1))] rfl args_a ?_; (with_reducible refine (impl_in.calls a1 0 (wrap64 ((l0.length : Int) - 1)) true _ A3.out).mono ?_); rintro e w' ⟨rfl, ⟨nd, rfl⟩⟩; refine ⟨_, rfl, ?_⟩; (try (rw [drewN_self w5]; generalize hq_ : World.drewN w5 _ = w5; have n0_ : Aside0 (w5.heap[gb176]? = some (.cells #[.int .i64 0, .slice none 0 0, .int .i64 0] 36 (0, 0))) := ⟨by rw [← hq_]; exact blk_a⟩; have n1_ : Aside0 (Below w.heap.size w w5) := ⟨by rw [← hq_]; exact below_a⟩; clear BK176 HB hq_; have BK176 := n0_; have HB := n1_; clear n0_ n1_))) | ((with_reducible refine gate_dst (N := 5) rfl ?_); (try (refine gate_guard (by rfl) ?_; dsimp only)); refine box_event ?hg (N := 5) ?hd (cs := #[.int .i64 0, .slice none 0 0, .int .i64 0]) (t := 36) ?hr ?_; (case hd => rfl); (case hg => rfl); (case hr => first | (go_simp; done) | (go_simp; rfl)); intro gb178 hg w6 hbox hb; have n0_ := Aside0.mk (blk_below (g := gb176) blk_c hb); have n1_ := Aside0.mk (below_step below_a hb); have BK178 := Aside0.mk (hbox); have GW178 := Aside0.mk (bsz_ (w := w) hg); have GE178 := Aside0.mk (bsz_ (w := w) hg); have NB176_178 := Aside0.mk (bne_ (g := gb176) hg); have NB178_176 := Aside0.mk (bne_ (g := gb176) hg).symm; replace BK176 := n0_; replace HB := n1_; clear n0_ n1_; clear hb hbox hg; have hnb7 := NB178_176.out; have hnc7 := NB176_178.out; obtain ⟨hcz8_0, hcz8_1, hcz8_2, hfz8_0, hfz8_1, hfz8_2⟩ := bc3_ BK178.out))
  go_loopg [6, 7] k (fun kq v6 v7 w' => ∃ (x6_1 : Int) (x7_1 : Int) (x177000_1 : Int) (x177002_1 : Int) (x179001_1 : List ByteArray) (x179002_1 : Int) (u179001 : Value), v6 = .int .i64 x6_1 ∧ v7 = .int .i64 x7_1 ∧ Aside0 (impl_ReadName.l0 kq l0 x6_1 x7_1 0 x179001_1 x179002_1 = some (r1, r2, r3)) ∧ Aside0 (kq ≤ k) ∧ Aside0 (Kd.R Kd.string 9 w' w.heap.size (fun _ => True) u179001 x179001_1) ∧ Aside0 (w'.heap[gb176]? = some (.cells #[.int .i64 x177000_1, (.slice none 0 0), .int .i64 x177002_1] 36 (0, 0))) ∧ Aside0 (w'.heap[gb178]? = some (.cells #[.int .i64 0, u179001, .int .i64 x179002_1] 36 (0, 0))) ∧ Aside0 (Below w.heap.size w w'))
  case atStart => exact ⟨(a1), (0), (0), (0), (([] : List ByteArray)), (0), (.slice none 0 0), eq_b, eq_b, H', ⟨Nat.le_refl _⟩, ⟨by first | exact Kd.R_nil _ _ _ _ _ | exact Kd.N_nil _ _ _ _ _ | exact Kd.V_nil _ _ _ _ _ | exact Kd.Q_nil _ _ _ _ _ | exact Kd.S_nil _ _ _ _ _⟩, ⟨blk_a⟩, ⟨blk_a⟩, ⟨below_a⟩⟩
  case round =>
   clear H'
   try clear c1
   try clear p2
   try clear c4
   try clear p6
   try clear c7
   try clear hcz8_0 hcz8_1 hcz8_2
   try clear hfz8_0 hfz8_1 hfz8_2
   obtain ⟨x6_1, x7_1, x177000_1, x177002_1, x179001_1, x179002_1, u179001, rfl, rfl, HA, HK1, HO_179001, BK176, BK178, HB⟩ := hrel
   cases gk with
   | zero => exact absurd HA.out (by simp [impl_ReadName.l0])
   | succ k1 =>
    have H := HA.out; clear HA; simp only [impl_ReadName.l0] at H
    by_cases c9 : x6_1 < (l0.length : Int)
    ·
     rw [if_pos c9] at H; have c9b0 : decide (x6_1 < (l0.length : Int)) = true := decide_eq_true c9; clear c9
     by_cases c10 : 0 ≤ x6_1
     ·
      rw [if_pos c10] at H; have c10b0 : decide (0 ≤ x6_1) = true := decide_eq_true c10; clear c10
      by_cases c11 : (wrap64 (rd l0 x6_1)) = 0
      ·
       rw [if_pos c11] at H; have c11b0 : ((wrap64 (rd l0 x6_1)) == 0) = true := beq_iff_eq.mpr c11; have c11b1 : ((wrap64 (rd l0 x6_1)) != 0) = false := bne_eq_false_iff_eq.mpr c11; (try (have c11b2 : ((IntKind.i64.wrap (rd l0 x6_1)) == 0) = true := by simp only [i64_w]; exact beq_iff_eq.mpr c11)); (try (have c11b3 : ((IntKind.i64.wrap (rd l0 x6_1)) != 0) = false := by simp only [i64_w]; exact bne_eq_false_iff_eq.mpr c11)); clear c11
       by_cases c12 : x7_1 = 0
       ·
        rw [if_pos c12] at H; have c12b0 : (x7_1 == 0) = true := beq_iff_eq.mpr c12; have c12b1 : (x7_1 != 0) = false := bne_eq_false_iff_eq.mpr c12; clear c12; simp only [Option.some.injEq, Prod.mk.injEq] at H; obtain ⟨rfl, rfl, rfl⟩ := H; have p179 : 0 ≤ (x6_1 : Int) := of_decide_eq_true (by first | (with_reducible assumption) | assumption); have q179 : x6_1 < (l0.length : Int) := of_decide_eq_true (by first | (with_reducible assumption) | assumption); obtain ⟨ad179, e179, hx179_0⟩ := Kd.at_int HR0.out x6_1 p179 q179
        cases e179
        replace hx179_0 := (HB.out.cell (World.block_lt_of_cell? w _ hx179_0)).trans hx179_0; replace p179 := eq_true p179; replace q179 := eq_true q179; have hnb13 := NB178_176.out; have hnc13 := NB176_178.out; obtain ⟨hcz14_0, hcz14_1, hcz14_2, hfz14_0, hfz14_1, hfz14_2⟩ := bc3_ BK178.out; obtain ⟨hcz15_0, hcz15_1, hcz15_2, hfz15_0, hfz15_1, hfz15_2⟩ := bc3_ BK176.out; obtain ⟨Ao16, co16, eo16⟩ := Kd.R_slice HO_179001.out; subst eo16
        go_wp2
        try simp only [i64_w]
        refine bodyPost_ret (results_cell_row rfl _ _ gb176 36 #[.int .i64 0, .slice Ao16 x179001_1.length co16, .int .i64 (wrap64 (x6_1 + 1))] (0, 0) _ rfl (by (with_reducible repeat (first | refine blk_drewN ?_ _ | refine blk_drew ?_ | refine blk_alloc ?_ _)); refine blk_put (cs := #[.int .i64 0, .slice Ao16 x179001_1.length co16, .int .i64 x177002_1]) ?_ 2 _ rfl; (with_reducible repeat (first | refine blk_drewN ?_ _ | refine blk_drew ?_ | refine blk_alloc ?_ _)); refine blk_put (cs := #[.int .i64 0, .slice none 0 0, .int .i64 x177002_1]) ?_ 1 _ rfl; (with_reducible repeat (first | refine blk_drewN ?_ _ | refine blk_drew ?_ | refine blk_alloc ?_ _)); refine blk_put (cs := #[.int .i64 x177000_1, .slice none 0 0, .int .i64 x177002_1]) ?_ 0 _ rfl; (with_reducible repeat (first | refine blk_drewN ?_ _ | refine blk_drew ?_ | refine blk_alloc ?_ _)); refine blk_far ?_ NB176_178.out _; (with_reducible repeat (first | refine blk_drewN ?_ _ | refine blk_drew ?_ | refine blk_alloc ?_ _)); exact BK176.out) Try.underlying36 rfl (by kernel_rfl)) rfl ?_; exact ⟨_, eq_a, by (with_reducible repeat (first | apply Kd.R_alloc | apply Kd.R_drewN | apply Kd.R_drew)); exact Kd.R_mono (Kd.R_far (p := ⟨gb176, 2, none⟩) (Kd.R_far (p := ⟨gb176, 1, none⟩) (Kd.R_far (p := ⟨gb176, 0, none⟩) (Kd.R_far (p := ⟨gb178, 2, none⟩) (Kd.R_types (Kd.R_types HO_179001.out BK178.out (by decide)) BK176.out (by decide)) (fun _ hk => hk.1.2) (.int .i64 (wrap64 (x6_1 + 1)))) (fun _ hk => hk.2) (.int .i64 0)) (fun _ hk => hk.2) (.slice Ao16 x179001_1.length co16)) (fun _ hk => hk.2) (.int .i64 (wrap64 (x6_1 + 1)))) (fun _ hk => trivial), below_a⟩
       ·
        rw [if_neg c12] at H; have c12b0 : (x7_1 == 0) = false := beq_eq_false_iff_ne.mpr c12; have c12b1 : (x7_1 != 0) = true := bne_iff_ne.mpr c12; simp only [Option.some.injEq, Prod.mk.injEq] at H; obtain ⟨rfl, rfl, rfl⟩ := H; have p179 : 0 ≤ (x6_1 : Int) := of_decide_eq_true (by first | (with_reducible assumption) | assumption); have q179 : x6_1 < (l0.length : Int) := of_decide_eq_true (by first | (with_reducible assumption) | assumption); obtain ⟨ad179, e179, hx179_0⟩ := Kd.at_int HR0.out x6_1 p179 q179
        cases e179
        replace hx179_0 := (HB.out.cell (World.block_lt_of_cell? w _ hx179_0)).trans hx179_0; replace p179 := eq_true p179; replace q179 := eq_true q179; have hnb17 := NB178_176.out; have hnc17 := NB176_178.out; obtain ⟨hcz18_0, hcz18_1, hcz18_2, hfz18_0, hfz18_1, hfz18_2⟩ := bc3_ BK178.out; obtain ⟨hcz19_0, hcz19_1, hcz19_2, hfz19_0, hfz19_1, hfz19_2⟩ := bc3_ BK176.out; obtain ⟨Ao20, co20, eo20⟩ := Kd.R_slice HO_179001.out; subst eo20
        go_wp2
        refine bodyPost_ret (results_cell_row rfl _ _ gb176 36 #[.int .i64 0, .slice Ao20 x179001_1.length co20, .int .i64 x179002_1] (0, 0) _ rfl blk_a Try.underlying36 rfl (by kernel_rfl)) rfl ?_; exact ⟨_, eq_a, by (with_reducible repeat (first | apply Kd.R_alloc | apply Kd.R_drewN | apply Kd.R_drew)); exact Kd.R_mono (Kd.R_far (p := ⟨gb176, 2, none⟩) (Kd.R_far (p := ⟨gb176, 1, none⟩) (Kd.R_far (p := ⟨gb176, 0, none⟩) (Kd.R_types HO_179001.out BK176.out (by decide)) (fun _ hk => hk.2) (.int .i64 0)) (fun _ hk => hk.2) (.slice Ao20 x179001_1.length co20)) (fun _ hk => hk.2) (.int .i64 x179002_1)) (fun _ hk => trivial), below_a⟩
      ·
       rw [if_neg c11] at H; have c11b0 : ((wrap64 (rd l0 x6_1)) == 0) = false := beq_eq_false_iff_ne.mpr c11; have c11b1 : ((wrap64 (rd l0 x6_1)) != 0) = true := bne_iff_ne.mpr c11; (try (have c11b2 : ((IntKind.i64.wrap (rd l0 x6_1)) == 0) = false := by simp only [i64_w]; exact beq_eq_false_iff_ne.mpr c11)); (try (have c11b3 : ((IntKind.i64.wrap (rd l0 x6_1)) != 0) = true := by simp only [i64_w]; exact bne_iff_ne.mpr c11))
       by_cases c21 : (wrap64 (rd l0 x6_1)) ≤ 20
       ·
        rw [if_pos c21] at H; have c21b0 : decide ((wrap64 (rd l0 x6_1)) ≤ 20) = true := decide_eq_true c21; (try (have c21b1 : decide ((IntKind.i64.wrap (rd l0 x6_1)) ≤ 20) = true := by simp only [i64_w]; exact decide_eq_true c21)); clear c21; have HC22 := Aside0.mk H; clear H; have p179 : 0 ≤ (x6_1 : Int) := of_decide_eq_true (by first | (with_reducible assumption) | assumption); have q179 : x6_1 < (l0.length : Int) := of_decide_eq_true (by first | (with_reducible assumption) | assumption); obtain ⟨ad179, e179, hx179_0⟩ := Kd.at_int HR0.out x6_1 p179 q179
        cases e179
        replace hx179_0 := (HB.out.cell (World.block_lt_of_cell? w _ hx179_0)).trans hx179_0; replace p179 := eq_true p179; replace q179 := eq_true q179
        go_upto_region 14 with (fail)
        go_cut [60] (fun v60 wc => ∃ (kq : Nat) (x60_21 : Bool), v60 = .bool x60_21 ∧ Aside0 (impl_ReadName.j1 kq l0 x6_1 x7_1 (wrap64 ((wrap64 (x6_1 + 1)) + (wrap64 (rd l0 x6_1)))) x60_21 0 x179001_1 x179002_1 = some (r1, r2, r3)) ∧ Aside0 (kq ≤ k1) ∧ Aside0 (Kd.R Kd.string 9 wc w.heap.size (fun _ => True) u179001 x179001_1) ∧ Aside0 (wc.heap[gb176]? = some (.cells #[.int .i64 x177000_1, (.slice none 0 0), .int .i64 x177002_1] 36 (0, 0))) ∧ Aside0 (wc.heap[gb178]? = some (.cells #[.int .i64 0, u179001, .int .i64 x179002_1] 36 (0, 0))) ∧ Aside0 (Below w.heap.size w wc))
        case first =>
         have H := HC22.out; clear HC22
         by_cases c23 : (wrap64 ((wrap64 (x6_1 + 1)) + (wrap64 (rd l0 x6_1)))) > (l0.length : Int)
         ·
          rw [if_pos c23] at H; have c23b0 : decide ((l0.length : Int) < (wrap64 ((wrap64 (x6_1 + 1)) + (wrap64 (rd l0 x6_1))))) = true := decide_eq_true c23; (try (have c23b1 : decide ((l0.length : Int) < (IntKind.i64.wrap ((IntKind.i64.wrap (x6_1 + 1)) + (IntKind.i64.wrap (rd l0 x6_1))))) = true := by simp only [i64_w]; exact decide_eq_true c23)); clear c23; (first | rw [c23b0] | (simp only [i64_w, i32_w]; rw [c23b0]) | skip); have H' := Aside0.mk H; clear H
          go_wp2
          go_meet
          case rel => exact ⟨_, (true), eq_b, H', ⟨by have := HK1.out; first | omega | exact Nat.le_refl _⟩, ⟨R_a HO_179001.out⟩, ⟨blk_a⟩, ⟨blk_a⟩, ⟨below_a⟩⟩
         ·
          rw [if_neg c23] at H; have c23b0 : decide ((l0.length : Int) < (wrap64 ((wrap64 (x6_1 + 1)) + (wrap64 (rd l0 x6_1))))) = false := decide_eq_false c23; (try (have c23b1 : decide ((l0.length : Int) < (IntKind.i64.wrap ((IntKind.i64.wrap (x6_1 + 1)) + (IntKind.i64.wrap (rd l0 x6_1))))) = false := by simp only [i64_w]; exact decide_eq_false c23)); clear c23; (first | rw [c23b0] | (simp only [i64_w, i32_w]; rw [c23b0]) | skip); obtain ⟨ji24, hji24⟩ : ∃ j_ : Int, (wrap64 (x6_1 + 1)) = j_ := ⟨_, rfl⟩; replace H : (if 0 ≤ (ji24) then (if (ji24) ≤ (wrap64 ((ji24) + (wrap64 (rd l0 x6_1)))) then (if (wrap64 ((ji24) + (wrap64 (rd l0 x6_1)))) ≤ (l0.length : Int) then ((impl_isLabel.f k1 (strOfNums ((l0.take ((wrap64 ((ji24) + (wrap64 (rd l0 x6_1)))) : Int).toNat).drop ((ji24) : Int).toNat))).bind fun t181 => (impl_ReadName.j1 k1 l0 x6_1 x7_1 (wrap64 ((ji24) + (wrap64 (rd l0 x6_1)))) (!t181) 0 x179001_1 x179002_1)) else (none)) else (none)) else (none)) = some (r1, r2, r3) := by first | (rw [hji24] at H; exact H) | (simp only [hji24] at H ⊢; exact H)
          (try rw [hji24] at c23b0); have hji24w : (IntKind.i64.wrap (x6_1 + 1)) = ji24 := (i64_w _).trans hji24
          by_cases c25 : 0 ≤ (ji24)
          ·
           rw [if_pos c25] at H; have c25b0 := eq_true c25; have c25b1 : decide (0 ≤ (ji24)) = true := decide_eq_true c25; clear c25
           by_cases c26 : (ji24) ≤ (wrap64 ((ji24) + (wrap64 (rd l0 x6_1))))
           ·
            rw [if_pos c26] at H; have c26b0 := eq_true c26; have c26b1 : decide ((ji24) ≤ (wrap64 ((ji24) + (wrap64 (rd l0 x6_1))))) = true := decide_eq_true c26
            by_cases c27 : (wrap64 ((ji24) + (wrap64 (rd l0 x6_1)))) ≤ (l0.length : Int)
            ·
             rw [if_pos c27] at H; have c27b0 := eq_true c27; have c27b1 : decide ((wrap64 ((ji24) + (wrap64 (rd l0 x6_1)))) ≤ (l0.length : Int)) = true := decide_eq_true c27; replace H := Option.bind_eq_some_iff.mp H; obtain ⟨t181, A280, H⟩ := H; replace H : (impl_ReadName.j1 k1 l0 x6_1 x7_1 (wrap64 ((ji24) + (wrap64 (rd l0 x6_1)))) (!t181) 0 x179001_1 x179002_1) = some (r1, r2, r3) := H; have A28 := Aside0.mk A280; clear A280; have H' := Aside0.mk H; clear H; obtain ⟨i029, hi029, _, hsz29, _⟩ := info_parts info5; obtain ⟨A29, hcut29, hA29, hC29⟩ := print_mid_of (P := Try.prog) (Value.int .u8) 0 24 5 .i64 .i64 Try.underlying24 hi029 hsz29 (some ad179) c0 l0 (ji24) (wrap64 ((ji24) + (wrap64 (rd l0 x6_1)))) (of_decide_eq_true (by first | (with_reducible assumption) | assumption)) (by first | omega | exact of_decide_eq_true (by first | (with_reducible assumption) | assumption)) (of_decide_eq_true (by first | (with_reducible assumption) | assumption)) HC0.out; have HR180 := Aside0.mk (Kd.C_of_reads (h1 := fun _ => rfl) (hA29 _ (Kd.reads_of_C HR0.out))); have HC180 := Aside0.mk hC29; clear hA29 hC29 hi029 hsz29; have HLN180 := Aside0.mk (show ((l0.take ((wrap64 ((ji24) + (wrap64 (rd l0 x6_1)))) : Int).toNat).drop ((ji24) : Int).toNat).length = (wrap64 ((ji24) + (wrap64 (rd l0 x6_1)))).toNat - (ji24).toNat from by have h_ : ((wrap64 ((ji24) + (wrap64 (rd l0 x6_1)))) : Int) ≤ (l0.length : Int) := of_decide_eq_true (by first | (with_reducible assumption) | assumption); rw [List.length_drop, List.length_take]; omega); have hcv30 := Kd.C_string (P := Try.prog) (A := A29) (c := (c0 - (ji24).toNat)) Try.underlying24 Try.underlying5 Try.underlying9 (Kd.C_below HR180.out HB.out); have hlN30 : ((l0.take ((wrap64 ((ji24) + (wrap64 (rd l0 x6_1)))) : Int).toNat).drop ((ji24) : Int).toNat).length = ((wrap64 ((ji24) + (wrap64 (rd l0 x6_1)))) : Int).toNat - ((ji24) : Int).toNat := (by have h1_ : ((wrap64 ((ji24) + (wrap64 (rd l0 x6_1)))) : Int) ≤ (l0.length : Int) := of_decide_eq_true (by first | (with_reducible assumption) | assumption); rw [List.length_drop, List.length_take]; omega); have hcw30 := hcv30; rw [hlN30] at hcw30; clear hlN30
             go_wp2_with (first | (go_at_call 42; (with_reducible refine (impl_isLabel.calls k1 (strOfNums ((l0.take ((wrap64 ((ji24) + (wrap64 (rd l0 x6_1)))) : Int).toNat).drop ((ji24) : Int).toNat)) t181 _ A28.out).mono ?_); rintro e w' ⟨rfl, ⟨nd, rfl⟩⟩))
             (try subst hji24)
             go_meet
             case rel => exact ⟨_, (!t181), eq_b, H', ⟨by have := HK1.out; first | omega | exact Nat.le_refl _⟩, ⟨R_a HO_179001.out⟩, ⟨blk_a⟩, ⟨blk_a⟩, ⟨below_a⟩⟩
            ·
             rw [if_neg c27] at H; exact absurd H (by simp)
           ·
            rw [if_neg c26] at H; exact absurd H (by simp)
          ·
           rw [if_neg c25] at H; exact absurd H (by simp)
        case rest =>
         clear HC22
         try clear c1
         try clear p1
         try clear q1
         try clear hx1
         try clear c2
         try clear p2 p2
         try clear hcv3
         try clear c4
         try clear p6 p6
         try clear c7
         try clear c9 c9b0
         try clear c10 c10b0
         try clear c11 c11b0 c11b1 c11b2
         try clear c12 c12b0 c12b1
         try clear c13
         try clear c17
         try clear p17
         try clear q17
         try clear hx17
         try clear c19
         try clear c21 c21b0 c21b1
         try clear c23 c23b0 c23b1
         try clear c25 c25b0 c25b1
         try clear c26 c26b0 c26b1
         try clear c27 c27b0 c27b1
         try clear hcv30
         try clear hcz14_0 hcz14_1 hcz14_2
         try clear hcz15_0 hcz15_1 hcz15_2
         try clear hcz18_0 hcz18_1 hcz18_2
         try clear hcz19_0 hcz19_1 hcz19_2
         try clear hcz8_0 hcz8_1 hcz8_2
         try clear hfz14_0 hfz14_1 hfz14_2
         try clear hfz15_0 hfz15_1 hfz15_2
         try clear hfz18_0 hfz18_1 hfz18_2
         try clear hfz19_0 hfz19_1 hfz19_2
         try clear hfz8_0 hfz8_1 hfz8_2
         try clear hx179_0
         try clear p179
         try clear q179
         obtain ⟨kq, x60_21, rfl, HA, HJ21, HO_179001, BK176, BK178, HB⟩ := hcut
         cases kq with
         | zero => exact absurd HA.out (by simp [impl_ReadName.j1])
         | succ kj21 =>
          have H := HA.out; clear HA; simp only [impl_ReadName.j1] at H
          by_cases c31 : x60_21 = true
          ·
           subst c31; have H1 : (some (5, ([] : List ByteArray), 0)) = some (r1, r2, r3) := by rw [if_pos rfl] at H; exact H
           clear H; have H := H1; clear H1; simp only [Option.some.injEq, Prod.mk.injEq] at H; obtain ⟨rfl, rfl, rfl⟩ := H; have hnb32 := NB176_178.out; have hnc32 := NB178_176.out; obtain ⟨hcz33_0, hcz33_1, hcz33_2, hfz33_0, hfz33_1, hfz33_2⟩ := bc3_ BK176.out
           go_wp2
           refine bodyPost_ret (results_cell_row rfl _ _ gb176 36 #[.int .i64 5, .slice none 0 0, .int .i64 0] (0, 0) _ rfl blk_a Try.underlying36 rfl (by kernel_rfl)) rfl ?_; exact ⟨_, eq_a, by first | exact Kd.R_nil _ _ _ _ _ | exact Kd.N_nil _ _ _ _ _ | exact Kd.V_nil _ _ _ _ _ | exact Kd.Q_nil _ _ _ _ _ | exact Kd.S_nil _ _ _ _ _, below_a⟩
          ·
           replace c31 := Bool.eq_false_iff.mpr c31; subst c31; have H1 : (if (x179001_1.length : Int) = 6 then (some (2, ([] : List ByteArray), 0)) else (if 0 ≤ (wrap64 (x6_1 + 1)) then (if (wrap64 (x6_1 + 1)) ≤ (wrap64 ((wrap64 (x6_1 + 1)) + (wrap64 (rd l0 x6_1)))) then (if (wrap64 ((wrap64 (x6_1 + 1)) + (wrap64 (rd l0 x6_1)))) ≤ (l0.length : Int) then (if x179001_1.length < 8796093022208 then (impl_ReadName.l0 kj21 l0 (wrap64 ((wrap64 (x6_1 + 1)) + (wrap64 (rd l0 x6_1)))) x7_1 0 (x179001_1 ++ [strOfNums ((l0.take ((wrap64 ((wrap64 (x6_1 + 1)) + (wrap64 (rd l0 x6_1)))) : Int).toNat).drop ((wrap64 (x6_1 + 1)) : Int).toNat)]) x179002_1) else (none)) else (none)) else (none)) else (none))) = some (r1, r2, r3) := by rw [if_neg (show ¬ (false = true) by decide)] at H; exact H
           clear H; have H := H1; clear H1
           by_cases c34 : (x179001_1.length : Int) = 6
           ·
            rw [if_pos c34] at H; have c34b0 : ((x179001_1.length : Int) == 6) = true := beq_iff_eq.mpr c34; have c34b1 : ((x179001_1.length : Int) != 6) = false := bne_eq_false_iff_eq.mpr c34; clear c34; simp only [Option.some.injEq, Prod.mk.injEq] at H; obtain ⟨rfl, rfl, rfl⟩ := H; have hnb35 := NB178_176.out; have hnc35 := NB176_178.out; obtain ⟨hcz36_0, hcz36_1, hcz36_2, hfz36_0, hfz36_1, hfz36_2⟩ := bc3_ BK178.out; obtain ⟨Ao37, co37, eo37⟩ := Kd.R_slice HO_179001.out; subst eo37; obtain ⟨hcz38_0, hcz38_1, hcz38_2, hfz38_0, hfz38_1, hfz38_2⟩ := bc3_ BK176.out
            go_wp2
            refine bodyPost_ret (results_cell_row rfl _ _ gb176 36 #[.int .i64 2, .slice none 0 0, .int .i64 0] (0, 0) _ rfl blk_a Try.underlying36 rfl (by kernel_rfl)) rfl ?_; exact ⟨_, eq_a, by first | exact Kd.R_nil _ _ _ _ _ | exact Kd.N_nil _ _ _ _ _ | exact Kd.V_nil _ _ _ _ _ | exact Kd.Q_nil _ _ _ _ _ | exact Kd.S_nil _ _ _ _ _, below_a⟩
           ·
            rw [if_neg c34] at H; have c34b0 : ((x179001_1.length : Int) == 6) = false := beq_eq_false_iff_ne.mpr c34; have c34b1 : ((x179001_1.length : Int) != 6) = true := bne_iff_ne.mpr c34; obtain ⟨ji39, hji39⟩ : ∃ j_ : Int, (wrap64 (x6_1 + 1)) = j_ := ⟨_, rfl⟩; replace H : (if 0 ≤ (ji39) then (if (ji39) ≤ (wrap64 ((ji39) + (wrap64 (rd l0 x6_1)))) then (if (wrap64 ((ji39) + (wrap64 (rd l0 x6_1)))) ≤ (l0.length : Int) then (if x179001_1.length < 8796093022208 then (impl_ReadName.l0 kj21 l0 (wrap64 ((ji39) + (wrap64 (rd l0 x6_1)))) x7_1 0 (x179001_1 ++ [strOfNums ((l0.take ((wrap64 ((ji39) + (wrap64 (rd l0 x6_1)))) : Int).toNat).drop ((ji39) : Int).toNat)]) x179002_1) else (none)) else (none)) else (none)) else (none)) = some (r1, r2, r3) := by first | (rw [hji39] at H; exact H) | (simp only [hji39] at H ⊢; exact H)
            have hji39w : (IntKind.i64.wrap (x6_1 + 1)) = ji39 := (i64_w _).trans hji39
            by_cases c40 : 0 ≤ (ji39)
            ·
             rw [if_pos c40] at H; have c40b0 := eq_true c40; have c40b1 : decide (0 ≤ (ji39)) = true := decide_eq_true c40; clear c40
             by_cases c41 : (ji39) ≤ (wrap64 ((ji39) + (wrap64 (rd l0 x6_1))))
             ·
              rw [if_pos c41] at H; have c41b0 := eq_true c41; have c41b1 : decide ((ji39) ≤ (wrap64 ((ji39) + (wrap64 (rd l0 x6_1))))) = true := decide_eq_true c41
              by_cases c42 : (wrap64 ((ji39) + (wrap64 (rd l0 x6_1)))) ≤ (l0.length : Int)
              ·
               rw [if_pos c42] at H; have c42b0 := eq_true c42; have c42b1 : decide ((wrap64 ((ji39) + (wrap64 (rd l0 x6_1)))) ≤ (l0.length : Int)) = true := decide_eq_true c42
               by_cases c43 : x179001_1.length < 8796093022208
               ·
                rw [if_pos c43] at H; have LMc43 := Aside0.mk c43; clear c43; obtain ⟨y183, hy183⟩ : ∃ y_ : List ByteArray, y_ = (x179001_1 ++ [strOfNums ((l0.take ((wrap64 ((ji39) + (wrap64 (rd l0 x6_1)))) : Int).toNat).drop ((ji39) : Int).toNat)]) := ⟨_, rfl⟩; replace H : (impl_ReadName.l0 kj21 l0 (wrap64 ((ji39) + (wrap64 (rd l0 x6_1)))) x7_1 0 y183 x179002_1) = some (r1, r2, r3) := by first | (rw [hy183]; with_reducible exact H) | (have H2_ := (Option.bind_some _ _).symm.trans H; rw [hy183]; with_reducible exact H2_) | (have H2_ := (Option.bind_some _ _).symm.trans H; with_reducible exact H2_) | with_reducible exact H | (rw [hy183]; exact H) | exact H
                have Ny183 := Aside0.mk hy183; clear hy183; have H' := Aside0.mk H; clear H; have hnb44 := NB178_176.out; have hnc44 := NB176_178.out; obtain ⟨hcz45_0, hcz45_1, hcz45_2, hfz45_0, hfz45_1, hfz45_2⟩ := bc3_ BK178.out; obtain ⟨Ao46, co46, eo46⟩ := Kd.R_slice HO_179001.out; subst eo46
                try go_wp2
                replace HO_179001 := Aside0.mk (Kd.R_drew HO_179001.out); replace BK176 := Aside0.mk (blk_drew BK176.out); replace BK178 := Aside0.mk (blk_drew BK178.out); replace HB := Aside0.mk (below_drew1 HB.out); obtain ⟨i048, hi048, _, hsz48, _⟩ := info_parts info5; obtain ⟨A48, hcut48, hA48, hC48⟩ := print_mid_of (P := Try.prog) (Value.int .u8) 0 24 5 .i64 .i64 Try.underlying24 hi048 hsz48 (some ad179) c0 l0 (ji39) (wrap64 ((ji39) + (wrap64 (rd l0 x6_1)))) (of_decide_eq_true (by first | (with_reducible assumption) | assumption)) (by first | omega | exact of_decide_eq_true (by first | (with_reducible assumption) | assumption)) (of_decide_eq_true (by first | (with_reducible assumption) | assumption)) HC0.out; have HR182 := Aside0.mk (Kd.C_of_reads (h1 := fun _ => rfl) (hA48 _ (Kd.reads_of_C HR0.out))); have HC182 := Aside0.mk hC48; clear hA48 hC48 hi048 hsz48; have HLN182 := Aside0.mk (show ((l0.take ((wrap64 ((ji39) + (wrap64 (rd l0 x6_1)))) : Int).toNat).drop ((ji39) : Int).toNat).length = (wrap64 ((ji39) + (wrap64 (rd l0 x6_1)))).toNat - (ji39).toNat from by have h_ : ((wrap64 ((ji39) + (wrap64 (rd l0 x6_1)))) : Int) ≤ (l0.length : Int) := of_decide_eq_true (by first | (with_reducible assumption) | assumption); rw [List.length_drop, List.length_take]; omega); refine start_ (n := 14) (S := fun w' => w'.cell? ⟨gb178, 0, none⟩ = some (.int .i64 0) ∧ w'.cell? ⟨gb178, 1, none⟩ = some (.slice Ao46 x179001_1.length co46) ∧ w'.cell? ⟨gb178, 2, none⟩ = some (.int .i64 x179002_1)) (ds := [13]) #[Z',Z',Z',Z',Z',Z',Z',Z',Z',Z',Z',Z',Z',Z'] (by kernel_rfl) rfl rfl ⟨(blk_cell BK178.out 0).trans rfl, (blk_cell BK178.out 1).trans rfl, (blk_cell BK178.out 2).trans rfl⟩ (fun hHeld => ?_); refine with_tabW impl_ReadName.tab18 impl_ReadName.bits18 (fun HT_ HW_ => ?_); generalize wc.drew = w47 at HO_179001 BK176 BK178 HB HR182 hHeld ⊢; refine pure_ (i := 0) (N := some 68) (v := ?_) (a' := ?_) #[Y',Z',Z',Z',Z',Z',Z',Z',Z',Z',Z',Z',Z',Z'] rfl rfl (any_of HT_.out (by kernel_rfl)) (fun _ _ _ h => h) (Or.inl ⟨by rfl, ?_⟩) ?_ ?_; rotate_left
                ·
                 intro w'
                 go_simp
                 with_reducible rfl
                rotate_left
                ·
                 simp only [Act.put, List.setIfInBounds_toArray, List.set_cons_zero, List.set_cons_succ, i64_w, i32_w]; rfl
                refine pure_ (i := 1) (N := some 69) (v := ?_) (a' := ?_) #[Y',Y',Z',Z',Z',Z',Z',Z',Z',Z',Z',Z',Z',Z'] rfl rfl (any_of HT_.out (by kernel_rfl)) (fun _ _ _ h => h) (Or.inl ⟨by rfl, ?_⟩) ?_ ?_; rotate_left
                ·
                 intro w'
                 go_simp
                 with_reducible rfl
                rotate_left
                ·
                 simp only [Act.put, List.setIfInBounds_toArray, List.set_cons_zero, List.set_cons_succ, i64_w, i32_w]; rfl
                refine pure_ (i := 3) (N := some 71) (v := ?_) (a' := ?_) #[Y',Y',Z',Y',Z',Z',Z',Z',Z',Z',Z',Z',Z',Z'] rfl rfl (any_of HT_.out (by kernel_rfl)) (fun _ _ _ h => h) (Or.inl ⟨by rfl, ?_⟩) ?_ ?_; rotate_left
                ·
                 intro w'
                 go_simp
                 with_reducible rfl
                rotate_left
                ·
                 simp only [Act.put, List.setIfInBounds_toArray, List.set_cons_zero, List.set_cons_succ, i64_w, i32_w]; rfl
                refine pure_ (i := 4) (N := some 72) (v := ?_) (a' := ?_) #[Y',Y',Z',Y',Y',Z',Z',Z',Z',Z',Z',Z',Z',Z'] rfl rfl (any_of HT_.out (by kernel_rfl)) (fun _ _ _ h => h) (Or.inl ⟨by rfl, ?_⟩) ?_ ?_; rotate_left
                ·
                 intro w'
                 go_simp
                 with_reducible rfl
                rotate_left
                ·
                 simp only [Act.put, List.setIfInBounds_toArray, List.set_cons_zero, List.set_cons_succ, i64_w, i32_w]; rfl
                refine pure_ (i := 5) (N := some 73) (v := ?_) (a' := ?_) #[Y',Y',Z',Y',Y',Y',Z',Z',Z',Z',Z',Z',Z',Z'] rfl rfl (any_of HT_.out (by kernel_rfl)) (fun _ _ _ h => h) (Or.inl ⟨by rfl, ?_⟩) ?_ ?_; rotate_left
                ·
                 intro w'
                 go_simp
                 with_reducible rfl
                rotate_left
                ·
                 simp only [Act.put, List.setIfInBounds_toArray, List.set_cons_zero, List.set_cons_succ, i64_w, i32_w]; rfl
                refine pure_ (i := 6) (N := some 74) (v := ?_) (a' := ?_) #[Y',Y',Z',Y',Y',Y',Y',Z',Z',Z',Z',Z',Z',Z'] rfl rfl (any_of HT_.out (by kernel_rfl)) (fun _ _ _ h => h) (Or.inl ⟨by rfl, ?_⟩) ?_ ?_; rotate_left
                ·
                 intro w'
                 go_simp
                 with_reducible rfl
                rotate_left
                ·
                 simp only [Act.put, List.setIfInBounds_toArray, List.set_cons_zero, List.set_cons_succ, i64_w, i32_w]; rfl
                refine pure_ (i := 7) (N := some 75) (v := ?_) (a' := ?_) #[Y',Y',Z',Y',Y',Y',Y',Y',Z',Z',Z',Z',Z',Z'] rfl rfl (any_of HT_.out (by kernel_rfl)) (fun _ _ _ h => h) (Or.inl ⟨by rfl, ?_⟩) ?_ ?_; rotate_left
                ·
                 intro w'
                 go_simp
                 with_reducible rfl
                rotate_left
                ·
                 simp only [Act.put, List.setIfInBounds_toArray, List.set_cons_zero, List.set_cons_succ, i64_w, i32_w]; rfl
                refine take_ (i := 2) (N := some 70) (v := ?_) (a' := ?_) #[Y',Y',Y',Y',Y',Y',Y',Y',Z',Z',Z',Z',Z',Z'] rfl rfl (take_ofW HT_.out HW_.out (by kernel_rfl)) (fun _ _ _ h => h) (Or.inl ⟨by rfl, ?_⟩) hHeld ?_ ?_; rotate_left
                ·
                 rintro w' ⟨s0, s1, s2⟩
                 go_simp
                 with_reducible rfl
                rotate_left
                ·
                 simp only [Act.put, List.setIfInBounds_toArray, List.set_cons_zero, List.set_cons_succ, i64_w, i32_w]; rfl
                refine one_ (i := 8) (N := some 76) #[Y',Y',Y',Y',Y',Y',Y',Y',Y',Z',Z',Z',Z',Z'] rfl rfl (one_of HT_.out (by kernel_rfl)) (by decide) (fun K hK => ?_)
                (have hcv49 := Kd.C_string (P := Try.prog) (A := A48) (c := (c0 - (ji39).toNat)) Try.underlying24 Try.underlying5 Try.underlying9 (Kd.C_below HR182.out below_a); have hlN49 : ((l0.take ((wrap64 ((ji39) + (wrap64 (rd l0 x6_1)))) : Int).toNat).drop ((ji39) : Int).toNat).length = ((wrap64 ((ji39) + (wrap64 (rd l0 x6_1)))) : Int).toNat - ((ji39) : Int).toNat := (by have h1_ : ((wrap64 ((ji39) + (wrap64 (rd l0 x6_1)))) : Int) ≤ (l0.length : Int) := of_decide_eq_true (by first | (with_reducible assumption) | assumption); rw [List.length_drop, List.length_take]; omega); have hcw49 := hcv49; rw [hlN49] at hcw49; clear hlN49)
                refine value_ (w1 := ?_) (v := ?_) (by rfl) rfl ?_ ?_; rotate_left 2
                ·
                 go_simp
                 constructor
                 ·
                  rfl
                 ·
                  rfl
                (try clear hcv49) <;> (try clear hcw49); refine hK.out _ _ ⟨(blk_cell BK178.out 0).trans rfl, (blk_cell BK178.out 1).trans rfl, (blk_cell BK178.out 2).trans rfl⟩ (fun hHeld => ?_); clear hK K; refine norm_ (a' := ?_) ?_ ?_; rotate_left
                ·
                 show Act.put _ (some 76) _ = _; simp only [Act.put, List.setIfInBounds_toArray, List.set_cons_zero, List.set_cons_succ, i64_w, i32_w]; rfl
                refine one_ (i := 9) (N := some 77) #[Y',Y',Y',Y',Y',Y',Y',Y',Y',Y',Z',Z',Z',Z'] rfl rfl (one_of HT_.out (by kernel_rfl)) (by decide) (fun K hK => ?_); refine value_ (w1 := ?_) (v := ?_) (by rfl) rfl ?_ ?_; rotate_left 2
                ·
                 go_simp
                 constructor
                 ·
                  rfl
                 ·
                  rfl
                refine hK.out _ _ ⟨(blk_cell (blk_alloc BK178.out _) 0).trans rfl, (blk_cell (blk_alloc BK178.out _) 1).trans rfl, (blk_cell (blk_alloc BK178.out _) 2).trans rfl⟩ (fun hHeld => ?_); clear hK K; refine norm_ (a' := ?_) ?_ ?_; rotate_left
                ·
                 show Act.put _ (some 77) _ = _; simp only [Act.put, List.setIfInBounds_toArray, List.set_cons_zero, List.set_cons_succ, i64_w, i32_w]; rfl
                refine one_ (i := 10) (N := some 78) #[Y',Y',Y',Y',Y',Y',Y',Y',Y',Y',Y',Z',Z',Z'] rfl rfl (one_of HT_.out (by kernel_rfl)) (by decide) (fun K hK => ?_); refine Kd.R_append_step Kd.string (w0 := w) w.heap.size (by rfl) (.tmp 70) (.tmp 77) 22 9 (.string ⟨#[]⟩) 16 rfl Try.underlying22 info9 rfl (by decide) (by omega) (.slice Ao46 x179001_1.length co46) x179001_1 (strOfNums ((l0.take ((wrap64 ((ji39) + (wrap64 (rd l0 x6_1)))) : Int).toNat).drop ((ji39) : Int).toNat)) [.string (strOfNums ((l0.take ((wrap64 ((ji39) + (wrap64 (rd l0 x6_1)))) : Int).toNat).drop ((ji39) : Int).toNat))] (fun _ => True) (fun _ => False) rfl rfl ?aP (fun _ hk => hk.elim) ?aF ?aO ?aB ?aS ?aL ?_; (case aP => exact rfl); (case aB => exact below_a); (case aF => exact (fun _ _ => trivial)); (case aO => exact (R_a HO_179001.out)); (case aS => exact (below_size below_a)); (case aL => have := LMc43.out; omega); intro v184 w50 ho hb hg hat; rw [← Ny183.out] at ho; replace BK176 := Aside0.mk (blk_grown (g := gb176) blk_c hg (Kd.R_ne HO_179001.out BK176.out (by decide))); replace BK178 := Aside0.mk (blk_grown (g := gb178) blk_c hg (Kd.R_ne HO_179001.out BK178.out (by decide))); replace HB := Aside0.mk (hb); have HO185 := Aside0.mk (ho); clear HO_179001 ho hb hg hat; obtain ⟨Ao51, co51, eo51⟩ := Kd.R_slice HO185.out; (first | subst eo51 | (injection eo51 with f1_ f2_ f3_; have f4_ := f1_.symm; have f5_ := f3_.symm; clear f1_ f2_ f3_; subst f4_; subst f5_)); refine hK.out _ _ ⟨(blk_cell BK178.out 0).trans rfl, (blk_cell BK178.out 1).trans rfl, (blk_cell BK178.out 2).trans rfl⟩ (fun hHeld => ?_); clear hK K; refine norm_ (a' := ?_) ?_ ?_; rotate_left
                ·
                 show Act.put _ (some 78) _ = _; simp only [Act.put, List.setIfInBounds_toArray, List.set_cons_zero, List.set_cons_succ, i64_w, i32_w]; rfl
                refine pure_ (i := 11) (N := some 79) (v := ?_) (a' := ?_) #[Y',Y',Y',Y',Y',Y',Y',Y',Y',Y',Y',Y',Z',Z'] rfl rfl (any_of HT_.out (by kernel_rfl)) (fun _ _ _ h => h) (Or.inl ⟨by rfl, ?_⟩) ?_ ?_; rotate_left
                ·
                 intro w'
                 go_simp
                 with_reducible rfl
                rotate_left
                ·
                 simp only [Act.put, List.setIfInBounds_toArray, List.set_cons_zero, List.set_cons_succ, i64_w, i32_w]; rfl
                refine pure_ (i := 12) (N := some 80) (v := ?_) (a' := ?_) #[Y',Y',Y',Y',Y',Y',Y',Y',Y',Y',Y',Y',Y',Z'] rfl rfl (any_of HT_.out (by kernel_rfl)) (fun _ _ _ h => h) (Or.inl ⟨by rfl, ?_⟩) ?_ ?_; rotate_left
                ·
                 intro w'
                 go_simp
                 with_reducible rfl
                rotate_left
                ·
                 simp only [Act.put, List.setIfInBounds_toArray, List.set_cons_zero, List.set_cons_succ, i64_w, i32_w]; rfl
                refine last_ (i := 13) (N := none) #[Y',Y',Y',Y',Y',Y',Y',Y',Y',Y',Y',Y',Y',Y'] rfl rfl (one_of HT_.out (by kernel_rfl)) (by decide) (fun K hK => ?_); have hs52 : w50.cell? ⟨gb178, 1, none⟩ = some (.slice Ao46 x179001_1.length co46) := (blk_cell BK178.out 1).trans rfl; have hfs52 := blk_frozen BK178.out 1; have hns52_0 := NB176_178.out; have hms52_0 := NB178_176.out; refine skip_ (w1 := ?_) (by rfl) rfl ?_ ?_; rotate_left
                ·
                 go_simp
                 rfl
                refine hK.out _ _ ?_; clear hK K; refine done_ (done_of HT_.out (by kernel_rfl)) ?_
                try go_wp2
                go_roundg kj21
                case measure => have := HK1.out; have := HJ21.out; omega
                case rel => exact ⟨((wrap64 ((ji39) + (wrap64 (rd l0 x6_1))))), (x7_1), (x177000_1), (x177002_1), (y183), (x179002_1), (.slice Ao51 y183.length co51), (by first | rfl | (simp; done) | (simp only [← hji39] <;> (first | rfl | simp)) | (simp [*]; done)), eq_b, H', ⟨by have := HK1.out; have := HJ21.out; omega⟩, ⟨by (with_reducible repeat (first | apply Kd.R_alloc | apply Kd.R_drewN | apply Kd.R_drew)); exact Kd.R_mono (Kd.R_far (p := ⟨gb178, 1, none⟩) (Kd.R_types HO185.out BK178.out (by decide)) (fun _ hk => hk.2) (.slice Ao51 y183.length co51)) (fun _ hk => trivial)⟩, ⟨blk_a⟩, ⟨blk_a⟩, ⟨below_a⟩⟩
               ·
                rw [if_neg c43] at H; exact absurd H (by simp)
              ·
               rw [if_neg c42] at H; exact absurd H (by simp)
             ·
              rw [if_neg c41] at H; exact absurd H (by simp)
            ·
             rw [if_neg c40] at H; exact absurd H (by simp)
       ·
        rw [if_neg c21] at H; have c21b0 : decide ((wrap64 (rd l0 x6_1)) ≤ 20) = false := decide_eq_false c21; (try (have c21b1 : decide ((IntKind.i64.wrap (rd l0 x6_1)) ≤ 20) = false := by simp only [i64_w]; exact decide_eq_false c21)); clear c21; have HC53 := Aside0.mk H; clear H; have p179 : 0 ≤ (x6_1 : Int) := of_decide_eq_true (by first | (with_reducible assumption) | assumption); have q179 : x6_1 < (l0.length : Int) := of_decide_eq_true (by first | (with_reducible assumption) | assumption); obtain ⟨ad179, e179, hx179_0⟩ := Kd.at_int HR0.out x6_1 p179 q179
        cases e179
        replace hx179_0 := (HB.out.cell (World.block_lt_of_cell? w _ hx179_0)).trans hx179_0; replace p179 := eq_true p179; replace q179 := eq_true q179
        go_upto_region 20 with (fail)
        go_cut [82] (fun v82 wc => ∃ (kq : Nat) (x82_52 : Bool), v82 = .bool x82_52 ∧ Aside0 (impl_ReadName.j2 kq l0 x6_1 x7_1 (wrap64 (rd l0 x6_1)) x82_52 0 x179001_1 x179002_1 = some (r1, r2, r3)) ∧ Aside0 (kq ≤ k1) ∧ Aside0 (Kd.R Kd.string 9 wc w.heap.size (fun _ => True) u179001 x179001_1) ∧ Aside0 (wc.heap[gb176]? = some (.cells #[.int .i64 x177000_1, (.slice none 0 0), .int .i64 x177002_1] 36 (0, 0))) ∧ Aside0 (wc.heap[gb178]? = some (.cells #[.int .i64 0, u179001, .int .i64 x179002_1] 36 (0, 0))) ∧ Aside0 (Below w.heap.size w wc))
        case first =>
         have H := HC53.out; clear HC53
         by_cases c54 : (wrap64 (rd l0 x6_1)) ≥ 192
         ·
          rw [if_pos c54] at H; have c54b0 : decide (192 ≤ (wrap64 (rd l0 x6_1))) = true := decide_eq_true c54; (try (have c54b1 : decide (192 ≤ (IntKind.i64.wrap (rd l0 x6_1))) = true := by simp only [i64_w]; exact decide_eq_true c54)); clear c54; (first | rw [c54b0] | (simp only [i64_w, i32_w]; rw [c54b0]) | skip); have H' := Aside0.mk H; clear H
          go_wp2
          go_meet
          case rel => exact ⟨_, (decide ((wrap64 (x6_1 + 1)) < (l0.length : Int))), eq_b, H', ⟨by have := HK1.out; first | omega | exact Nat.le_refl _⟩, ⟨R_a HO_179001.out⟩, ⟨blk_a⟩, ⟨blk_a⟩, ⟨below_a⟩⟩
         ·
          rw [if_neg c54] at H; have c54b0 : decide (192 ≤ (wrap64 (rd l0 x6_1))) = false := decide_eq_false c54; (try (have c54b1 : decide (192 ≤ (IntKind.i64.wrap (rd l0 x6_1))) = false := by simp only [i64_w]; exact decide_eq_false c54)); clear c54; (first | rw [c54b0] | (simp only [i64_w, i32_w]; rw [c54b0]) | skip); have H' := Aside0.mk H; clear H
          go_wp2
          go_meet
          case rel => exact ⟨_, (false), eq_b, H', ⟨by have := HK1.out; first | omega | exact Nat.le_refl _⟩, ⟨R_a HO_179001.out⟩, ⟨blk_a⟩, ⟨blk_a⟩, ⟨below_a⟩⟩
        case rest =>
         clear HC53
         try clear c1
         try clear p1 p1
         try clear q1 q1
         try clear hx1
         try clear c2
         try clear p2 p2
         try clear c3
         try clear hcv3
         try clear c4
         try clear hcv4
         try clear c5
         try clear p6 p6
         try clear c7
         try clear c9 c9b0
         try clear c10 c10b0
         try clear c11 c11b0 c11b1 c11b2
         try clear c12 c12b0 c12b1
         try clear c13
         try clear c17
         try clear p17 p17
         try clear q17 q17
         try clear hx17
         try clear c19
         try clear c21 c21b0 c21b1
         try clear c23 c23b0 c23b1
         try clear c25 c25b0 c25b1
         try clear c26 c26b0 c26b1
         try clear c27 c27b0 c27b1
         try clear hcv30
         try clear c31
         try clear c32
         try clear c34 c34b0 c34b1
         try clear c35
         try clear c40 c40b0 c40b1
         try clear c41 c41b0 c41b1
         try clear c42 c42b0 c42b1
         try clear c43
         try clear c44
         try clear c47
         try clear hcv49
         try clear c54 c54b0 c54b1
         try clear hcz14_0 hcz14_1 hcz14_2
         try clear hcz15_0 hcz15_1 hcz15_2
         try clear hcz18_0 hcz18_1 hcz18_2
         try clear hcz19_0 hcz19_1 hcz19_2
         try clear hcz33_0 hcz33_1 hcz33_2
         try clear hcz36_0 hcz36_1 hcz36_2
         try clear hcz38_0 hcz38_1 hcz38_2
         try clear hcz45_0 hcz45_1 hcz45_2
         try clear hcz8_0 hcz8_1 hcz8_2
         try clear hfz14_0 hfz14_1 hfz14_2
         try clear hfz15_0 hfz15_1 hfz15_2
         try clear hfz18_0 hfz18_1 hfz18_2
         try clear hfz19_0 hfz19_1 hfz19_2
         try clear hfz33_0 hfz33_1 hfz33_2
         try clear hfz36_0 hfz36_1 hfz36_2
         try clear hfz38_0 hfz38_1 hfz38_2
         try clear hfz45_0 hfz45_1 hfz45_2
         try clear hfz8_0 hfz8_1 hfz8_2
         try clear hx179_0
         try clear p179
         try clear q179
         obtain ⟨kq, x82_52, rfl, HA, HJ52, HO_179001, BK176, BK178, HB⟩ := hcut
         cases kq with
         | zero => exact absurd HA.out (by simp [impl_ReadName.j2])
         | succ kj52 =>
          have H := HA.out; clear HA; simp only [impl_ReadName.j2] at H
          by_cases c55 : x82_52 = true
          ·
           subst c55; have H1 : (if 0 ≤ (wrap64 (x6_1 + 1)) then (if (wrap64 (x6_1 + 1)) < (l0.length : Int) then (if x7_1 = 0 then (if (wrap64 ((wrap64 ((wrap64 ((wrap64 (rd l0 x6_1)) - 192)) * 256)) + (wrap64 (rd l0 (wrap64 (x6_1 + 1)))))) ≥ x6_1 then (some (5, ([] : List ByteArray), 0)) else (if (wrap64 (x7_1 + 1)) > 5 then (some (5, ([] : List ByteArray), 0)) else (impl_ReadName.l0 kj52 l0 (wrap64 ((wrap64 ((wrap64 ((wrap64 (rd l0 x6_1)) - 192)) * 256)) + (wrap64 (rd l0 (wrap64 (x6_1 + 1)))))) (wrap64 (x7_1 + 1)) 0 x179001_1 (wrap64 (x6_1 + 2))))) else (if (wrap64 ((wrap64 ((wrap64 ((wrap64 (rd l0 x6_1)) - 192)) * 256)) + (wrap64 (rd l0 (wrap64 (x6_1 + 1)))))) ≥ x6_1 then (some (5, ([] : List ByteArray), 0)) else (if (wrap64 (x7_1 + 1)) > 5 then (some (5, ([] : List ByteArray), 0)) else (impl_ReadName.l0 kj52 l0 (wrap64 ((wrap64 ((wrap64 ((wrap64 (rd l0 x6_1)) - 192)) * 256)) + (wrap64 (rd l0 (wrap64 (x6_1 + 1)))))) (wrap64 (x7_1 + 1)) 0 x179001_1 x179002_1)))) else (none)) else (none)) = some (r1, r2, r3) := by rw [if_pos rfl] at H; exact H
           clear H; have H := H1; clear H1; obtain ⟨ji56, hji56⟩ : ∃ j_ : Int, (wrap64 (x6_1 + 1)) = j_ := ⟨_, rfl⟩; replace H : (if 0 ≤ (ji56) then (if (ji56) < (l0.length : Int) then (if x7_1 = 0 then (if (wrap64 ((wrap64 ((wrap64 ((wrap64 (rd l0 x6_1)) - 192)) * 256)) + (wrap64 (rd l0 (ji56))))) ≥ x6_1 then (some (5, ([] : List ByteArray), 0)) else (if (wrap64 (x7_1 + 1)) > 5 then (some (5, ([] : List ByteArray), 0)) else (impl_ReadName.l0 kj52 l0 (wrap64 ((wrap64 ((wrap64 ((wrap64 (rd l0 x6_1)) - 192)) * 256)) + (wrap64 (rd l0 (ji56))))) (wrap64 (x7_1 + 1)) 0 x179001_1 (wrap64 (x6_1 + 2))))) else (if (wrap64 ((wrap64 ((wrap64 ((wrap64 (rd l0 x6_1)) - 192)) * 256)) + (wrap64 (rd l0 (ji56))))) ≥ x6_1 then (some (5, ([] : List ByteArray), 0)) else (if (wrap64 (x7_1 + 1)) > 5 then (some (5, ([] : List ByteArray), 0)) else (impl_ReadName.l0 kj52 l0 (wrap64 ((wrap64 ((wrap64 ((wrap64 (rd l0 x6_1)) - 192)) * 256)) + (wrap64 (rd l0 (ji56))))) (wrap64 (x7_1 + 1)) 0 x179001_1 x179002_1)))) else (none)) else (none)) = some (r1, r2, r3) := by first | (rw [hji56] at H; exact H) | (simp only [hji56] at H ⊢; exact H)
           have hji56w : (IntKind.i64.wrap (x6_1 + 1)) = ji56 := (i64_w _).trans hji56
           by_cases c57 : 0 ≤ (ji56)
           ·
            rw [if_pos c57] at H; have c57b0 : decide (0 ≤ (ji56)) = true := decide_eq_true c57; clear c57
            by_cases c58 : (ji56) < (l0.length : Int)
            ·
             rw [if_pos c58] at H; have c58b0 : decide ((ji56) < (l0.length : Int)) = true := decide_eq_true c58; clear c58
             by_cases c59 : x7_1 = 0
             ·
              rw [if_pos c59] at H; have c59b0 : (x7_1 == 0) = true := beq_iff_eq.mpr c59; have c59b1 : (x7_1 != 0) = false := bne_eq_false_iff_eq.mpr c59; clear c59
              by_cases c60 : (wrap64 ((wrap64 ((wrap64 ((wrap64 (rd l0 x6_1)) - 192)) * 256)) + (wrap64 (rd l0 (ji56))))) ≥ x6_1
              ·
               rw [if_pos c60] at H; have c60b0 : decide (x6_1 ≤ (wrap64 ((wrap64 ((wrap64 ((wrap64 (rd l0 x6_1)) - 192)) * 256)) + (wrap64 (rd l0 (ji56)))))) = true := decide_eq_true c60; (try (have c60b1 : decide (x6_1 ≤ (IntKind.i64.wrap ((IntKind.i64.wrap ((IntKind.i64.wrap ((IntKind.i64.wrap (rd l0 x6_1)) - 192)) * 256)) + (IntKind.i64.wrap (rd l0 (ji56)))))) = true := by simp only [i64_w]; exact decide_eq_true c60)); clear c60; simp only [Option.some.injEq, Prod.mk.injEq] at H; obtain ⟨rfl, rfl, rfl⟩ := H; have p186 : 0 ≤ ((ji56) : Int) := of_decide_eq_true (by first | (with_reducible assumption) | assumption); have q186 : (ji56) < (l0.length : Int) := of_decide_eq_true (by first | (with_reducible assumption) | assumption); obtain ⟨ad186, e186, hx186_0⟩ := Kd.at_int HR0.out (ji56) p186 q186; obtain rfl : ad179 = ad186 := (by injection e186); replace hx186_0 := (HB.out.cell (World.block_lt_of_cell? w _ hx186_0)).trans hx186_0; replace p186 := eq_true p186; replace q186 := eq_true q186; have hnb61 := NB178_176.out; have hnc61 := NB176_178.out; obtain ⟨hcz62_0, hcz62_1, hcz62_2, hfz62_0, hfz62_1, hfz62_2⟩ := bc3_ BK178.out; obtain ⟨hcz63_0, hcz63_1, hcz63_2, hfz63_0, hfz63_1, hfz63_2⟩ := bc3_ BK176.out
               go_wp2
               refine bodyPost_ret (results_cell_row rfl _ _ gb176 36 #[.int .i64 5, .slice none 0 0, .int .i64 0] (0, 0) _ rfl (by (with_reducible repeat (first | refine blk_drewN ?_ _ | refine blk_drew ?_ | refine blk_alloc ?_ _)); refine blk_put (cs := #[.int .i64 5, .slice none 0 0, .int .i64 x177002_1]) ?_ 2 _ rfl; (with_reducible repeat (first | refine blk_drewN ?_ _ | refine blk_drew ?_ | refine blk_alloc ?_ _)); refine blk_put (cs := #[.int .i64 5, .slice none 0 0, .int .i64 x177002_1]) ?_ 1 _ rfl; (with_reducible repeat (first | refine blk_drewN ?_ _ | refine blk_drew ?_ | refine blk_alloc ?_ _)); refine blk_put (cs := #[.int .i64 x177000_1, .slice none 0 0, .int .i64 x177002_1]) ?_ 0 _ rfl; (with_reducible repeat (first | refine blk_drewN ?_ _ | refine blk_drew ?_ | refine blk_alloc ?_ _)); refine blk_far ?_ NB176_178.out _; (with_reducible repeat (first | refine blk_drewN ?_ _ | refine blk_drew ?_ | refine blk_alloc ?_ _)); exact BK176.out) Try.underlying36 rfl (by kernel_rfl)) rfl ?_; exact ⟨_, by first | rfl | (simp [errW_none, errW_some] <;> rfl) | (simp only [← hji56]; first | rfl | (simp [errW_none, errW_some] <;> rfl)) | (simp [*, errW_none, errW_some] <;> rfl), by first | exact Kd.R_nil _ _ _ _ _ | exact Kd.N_nil _ _ _ _ _ | exact Kd.V_nil _ _ _ _ _ | exact Kd.Q_nil _ _ _ _ _ | exact Kd.S_nil _ _ _ _ _, below_a⟩
              ·
               rw [if_neg c60] at H; have c60b0 : decide (x6_1 ≤ (wrap64 ((wrap64 ((wrap64 ((wrap64 (rd l0 x6_1)) - 192)) * 256)) + (wrap64 (rd l0 (ji56)))))) = false := decide_eq_false c60; (try (have c60b1 : decide (x6_1 ≤ (IntKind.i64.wrap ((IntKind.i64.wrap ((IntKind.i64.wrap ((IntKind.i64.wrap (rd l0 x6_1)) - 192)) * 256)) + (IntKind.i64.wrap (rd l0 (ji56)))))) = false := by simp only [i64_w]; exact decide_eq_false c60)); clear c60
               by_cases c64 : (wrap64 (x7_1 + 1)) > 5
               ·
                rw [if_pos c64] at H; have c64b0 : decide (5 < (wrap64 (x7_1 + 1))) = true := decide_eq_true c64; (try (have c64b1 : decide (5 < (IntKind.i64.wrap (x7_1 + 1))) = true := by simp only [i64_w]; exact decide_eq_true c64)); clear c64; simp only [Option.some.injEq, Prod.mk.injEq] at H; obtain ⟨rfl, rfl, rfl⟩ := H; have p186 : 0 ≤ ((ji56) : Int) := of_decide_eq_true (by first | (with_reducible assumption) | assumption); have q186 : (ji56) < (l0.length : Int) := of_decide_eq_true (by first | (with_reducible assumption) | assumption); obtain ⟨ad186, e186, hx186_0⟩ := Kd.at_int HR0.out (ji56) p186 q186; obtain rfl : ad179 = ad186 := (by injection e186); replace hx186_0 := (HB.out.cell (World.block_lt_of_cell? w _ hx186_0)).trans hx186_0; replace p186 := eq_true p186; replace q186 := eq_true q186; have hnb65 := NB178_176.out; have hnc65 := NB176_178.out; obtain ⟨hcz66_0, hcz66_1, hcz66_2, hfz66_0, hfz66_1, hfz66_2⟩ := bc3_ BK178.out; obtain ⟨hcz67_0, hcz67_1, hcz67_2, hfz67_0, hfz67_1, hfz67_2⟩ := bc3_ BK176.out
                go_wp2
                refine bodyPost_ret (results_cell_row rfl _ _ gb176 36 #[.int .i64 5, .slice none 0 0, .int .i64 0] (0, 0) _ rfl (by (with_reducible repeat (first | refine blk_drewN ?_ _ | refine blk_drew ?_ | refine blk_alloc ?_ _)); refine blk_put (cs := #[.int .i64 5, .slice none 0 0, .int .i64 x177002_1]) ?_ 2 _ rfl; (with_reducible repeat (first | refine blk_drewN ?_ _ | refine blk_drew ?_ | refine blk_alloc ?_ _)); refine blk_put (cs := #[.int .i64 5, .slice none 0 0, .int .i64 x177002_1]) ?_ 1 _ rfl; (with_reducible repeat (first | refine blk_drewN ?_ _ | refine blk_drew ?_ | refine blk_alloc ?_ _)); refine blk_put (cs := #[.int .i64 x177000_1, .slice none 0 0, .int .i64 x177002_1]) ?_ 0 _ rfl; (with_reducible repeat (first | refine blk_drewN ?_ _ | refine blk_drew ?_ | refine blk_alloc ?_ _)); refine blk_far ?_ NB176_178.out _; (with_reducible repeat (first | refine blk_drewN ?_ _ | refine blk_drew ?_ | refine blk_alloc ?_ _)); exact BK176.out) Try.underlying36 rfl (by kernel_rfl)) rfl ?_; exact ⟨_, by first | rfl | (simp [errW_none, errW_some] <;> rfl) | (simp only [← hji56]; first | rfl | (simp [errW_none, errW_some] <;> rfl)) | (simp [*, errW_none, errW_some] <;> rfl), by first | exact Kd.R_nil _ _ _ _ _ | exact Kd.N_nil _ _ _ _ _ | exact Kd.V_nil _ _ _ _ _ | exact Kd.Q_nil _ _ _ _ _ | exact Kd.S_nil _ _ _ _ _, below_a⟩
               ·
                rw [if_neg c64] at H; have c64b0 : decide (5 < (wrap64 (x7_1 + 1))) = false := decide_eq_false c64; (try (have c64b1 : decide (5 < (IntKind.i64.wrap (x7_1 + 1))) = false := by simp only [i64_w]; exact decide_eq_false c64)); clear c64; have H' := Aside0.mk H; clear H; have p186 : 0 ≤ ((ji56) : Int) := of_decide_eq_true (by first | (with_reducible assumption) | assumption); have q186 : (ji56) < (l0.length : Int) := of_decide_eq_true (by first | (with_reducible assumption) | assumption); obtain ⟨ad186, e186, hx186_0⟩ := Kd.at_int HR0.out (ji56) p186 q186; obtain rfl : ad179 = ad186 := (by injection e186); replace hx186_0 := (HB.out.cell (World.block_lt_of_cell? w _ hx186_0)).trans hx186_0; replace p186 := eq_true p186; replace q186 := eq_true q186; have hnb68 := NB178_176.out; have hnc68 := NB176_178.out; obtain ⟨hcz69_0, hcz69_1, hcz69_2, hfz69_0, hfz69_1, hfz69_2⟩ := bc3_ BK178.out
                go_wp2
                go_roundg kj52
                case measure => have := HK1.out; have := HJ52.out; omega
                case rel => exact ⟨(wrap64 ((wrap64 ((wrap64 ((wrap64 (rd l0 x6_1)) - 192)) * 256)) + (wrap64 (rd l0 (ji56))))), (wrap64 (x7_1 + 1)), (x177000_1), (x177002_1), (x179001_1), (wrap64 (x6_1 + 2)), (u179001), (by first | rfl | (simp; done) | (simp only [← hji56] <;> (first | rfl | simp)) | (simp [*]; done)), eq_b, H', ⟨by have := HK1.out; have := HJ52.out; omega⟩, ⟨by (with_reducible repeat (first | apply Kd.R_alloc | apply Kd.R_drewN | apply Kd.R_drew)); exact Kd.R_mono (Kd.R_far (p := ⟨gb178, 2, none⟩) (Kd.R_types HO_179001.out BK178.out (by decide)) (fun _ hk => hk.2) (.int .i64 (wrap64 (x6_1 + 2)))) (fun _ hk => trivial)⟩, ⟨blk_a⟩, ⟨blk_a⟩, ⟨below_a⟩⟩
             ·
              rw [if_neg c59] at H; have c59b0 : (x7_1 == 0) = false := beq_eq_false_iff_ne.mpr c59; have c59b1 : (x7_1 != 0) = true := bne_iff_ne.mpr c59
              by_cases c70 : (wrap64 ((wrap64 ((wrap64 ((wrap64 (rd l0 x6_1)) - 192)) * 256)) + (wrap64 (rd l0 (ji56))))) ≥ x6_1
              ·
               rw [if_pos c70] at H; have c70b0 : decide (x6_1 ≤ (wrap64 ((wrap64 ((wrap64 ((wrap64 (rd l0 x6_1)) - 192)) * 256)) + (wrap64 (rd l0 (ji56)))))) = true := decide_eq_true c70; (try (have c70b1 : decide (x6_1 ≤ (IntKind.i64.wrap ((IntKind.i64.wrap ((IntKind.i64.wrap ((IntKind.i64.wrap (rd l0 x6_1)) - 192)) * 256)) + (IntKind.i64.wrap (rd l0 (ji56)))))) = true := by simp only [i64_w]; exact decide_eq_true c70)); clear c70; simp only [Option.some.injEq, Prod.mk.injEq] at H; obtain ⟨rfl, rfl, rfl⟩ := H; have p186 : 0 ≤ ((ji56) : Int) := of_decide_eq_true (by first | (with_reducible assumption) | assumption); have q186 : (ji56) < (l0.length : Int) := of_decide_eq_true (by first | (with_reducible assumption) | assumption); obtain ⟨ad186, e186, hx186_0⟩ := Kd.at_int HR0.out (ji56) p186 q186; obtain rfl : ad179 = ad186 := (by injection e186); replace hx186_0 := (HB.out.cell (World.block_lt_of_cell? w _ hx186_0)).trans hx186_0; replace p186 := eq_true p186; replace q186 := eq_true q186; have hnb71 := NB176_178.out; have hnc71 := NB178_176.out; obtain ⟨hcz72_0, hcz72_1, hcz72_2, hfz72_0, hfz72_1, hfz72_2⟩ := bc3_ BK176.out
               go_wp2
               refine bodyPost_ret (results_cell_row rfl _ _ gb176 36 #[.int .i64 5, .slice none 0 0, .int .i64 0] (0, 0) _ rfl blk_a Try.underlying36 rfl (by kernel_rfl)) rfl ?_; exact ⟨_, by first | rfl | (simp [errW_none, errW_some] <;> rfl) | (simp only [← hji56]; first | rfl | (simp [errW_none, errW_some] <;> rfl)) | (simp [*, errW_none, errW_some] <;> rfl), by first | exact Kd.R_nil _ _ _ _ _ | exact Kd.N_nil _ _ _ _ _ | exact Kd.V_nil _ _ _ _ _ | exact Kd.Q_nil _ _ _ _ _ | exact Kd.S_nil _ _ _ _ _, below_a⟩
              ·
               rw [if_neg c70] at H; have c70b0 : decide (x6_1 ≤ (wrap64 ((wrap64 ((wrap64 ((wrap64 (rd l0 x6_1)) - 192)) * 256)) + (wrap64 (rd l0 (ji56)))))) = false := decide_eq_false c70; (try (have c70b1 : decide (x6_1 ≤ (IntKind.i64.wrap ((IntKind.i64.wrap ((IntKind.i64.wrap ((IntKind.i64.wrap (rd l0 x6_1)) - 192)) * 256)) + (IntKind.i64.wrap (rd l0 (ji56)))))) = false := by simp only [i64_w]; exact decide_eq_false c70)); clear c70
               by_cases c73 : (wrap64 (x7_1 + 1)) > 5
               ·
                rw [if_pos c73] at H; have c73b0 : decide (5 < (wrap64 (x7_1 + 1))) = true := decide_eq_true c73; (try (have c73b1 : decide (5 < (IntKind.i64.wrap (x7_1 + 1))) = true := by simp only [i64_w]; exact decide_eq_true c73)); clear c73; simp only [Option.some.injEq, Prod.mk.injEq] at H; obtain ⟨rfl, rfl, rfl⟩ := H; have p186 : 0 ≤ ((ji56) : Int) := of_decide_eq_true (by first | (with_reducible assumption) | assumption); have q186 : (ji56) < (l0.length : Int) := of_decide_eq_true (by first | (with_reducible assumption) | assumption); obtain ⟨ad186, e186, hx186_0⟩ := Kd.at_int HR0.out (ji56) p186 q186; obtain rfl : ad179 = ad186 := (by injection e186); replace hx186_0 := (HB.out.cell (World.block_lt_of_cell? w _ hx186_0)).trans hx186_0; replace p186 := eq_true p186; replace q186 := eq_true q186; have hnb74 := NB176_178.out; have hnc74 := NB178_176.out; obtain ⟨hcz75_0, hcz75_1, hcz75_2, hfz75_0, hfz75_1, hfz75_2⟩ := bc3_ BK176.out
                go_wp2
                refine bodyPost_ret (results_cell_row rfl _ _ gb176 36 #[.int .i64 5, .slice none 0 0, .int .i64 0] (0, 0) _ rfl blk_a Try.underlying36 rfl (by kernel_rfl)) rfl ?_; exact ⟨_, by first | rfl | (simp [errW_none, errW_some] <;> rfl) | (simp only [← hji56]; first | rfl | (simp [errW_none, errW_some] <;> rfl)) | (simp [*, errW_none, errW_some] <;> rfl), by first | exact Kd.R_nil _ _ _ _ _ | exact Kd.N_nil _ _ _ _ _ | exact Kd.V_nil _ _ _ _ _ | exact Kd.Q_nil _ _ _ _ _ | exact Kd.S_nil _ _ _ _ _, below_a⟩
               ·
                rw [if_neg c73] at H; have c73b0 : decide (5 < (wrap64 (x7_1 + 1))) = false := decide_eq_false c73; (try (have c73b1 : decide (5 < (IntKind.i64.wrap (x7_1 + 1))) = false := by simp only [i64_w]; exact decide_eq_false c73)); clear c73; have H' := Aside0.mk H; clear H; have p186 : 0 ≤ ((ji56) : Int) := of_decide_eq_true (by first | (with_reducible assumption) | assumption); have q186 : (ji56) < (l0.length : Int) := of_decide_eq_true (by first | (with_reducible assumption) | assumption); obtain ⟨ad186, e186, hx186_0⟩ := Kd.at_int HR0.out (ji56) p186 q186; obtain rfl : ad179 = ad186 := (by injection e186); replace hx186_0 := (HB.out.cell (World.block_lt_of_cell? w _ hx186_0)).trans hx186_0; replace p186 := eq_true p186; replace q186 := eq_true q186
                go_wp2
                go_roundg kj52
                case measure => have := HK1.out; have := HJ52.out; omega
                case rel => exact ⟨(wrap64 ((wrap64 ((wrap64 ((wrap64 (rd l0 x6_1)) - 192)) * 256)) + (wrap64 (rd l0 (ji56))))), (wrap64 (x7_1 + 1)), (x177000_1), (x177002_1), (x179001_1), (x179002_1), (u179001), (by first | rfl | (simp; done) | (simp only [← hji56] <;> (first | rfl | simp)) | (simp [*]; done)), eq_b, H', ⟨by have := HK1.out; have := HJ52.out; omega⟩, ⟨R_a HO_179001.out⟩, ⟨blk_a⟩, ⟨blk_a⟩, ⟨below_a⟩⟩
            ·
             rw [if_neg c58] at H; exact absurd H (by simp)
           ·
            rw [if_neg c57] at H; exact absurd H (by simp)
          ·
           replace c55 := Bool.eq_false_iff.mpr c55; subst c55; have H1 : (some (5, ([] : List ByteArray), 0)) = some (r1, r2, r3) := by rw [if_neg (show ¬ (false = true) by decide)] at H; exact H
           clear H; have H := H1; clear H1; simp only [Option.some.injEq, Prod.mk.injEq] at H; obtain ⟨rfl, rfl, rfl⟩ := H; have hnb76 := NB176_178.out; have hnc76 := NB178_176.out; obtain ⟨hcz77_0, hcz77_1, hcz77_2, hfz77_0, hfz77_1, hfz77_2⟩ := bc3_ BK176.out
           go_wp2
           refine bodyPost_ret (results_cell_row rfl _ _ gb176 36 #[.int .i64 5, .slice none 0 0, .int .i64 0] (0, 0) _ rfl blk_a Try.underlying36 rfl (by kernel_rfl)) rfl ?_; exact ⟨_, eq_a, by first | exact Kd.R_nil _ _ _ _ _ | exact Kd.N_nil _ _ _ _ _ | exact Kd.V_nil _ _ _ _ _ | exact Kd.Q_nil _ _ _ _ _ | exact Kd.S_nil _ _ _ _ _, below_a⟩
     ·
      rw [if_neg c10] at H; exact absurd H (by simp)
    ·
     rw [if_neg c9] at H; have c9b0 : decide (x6_1 < (l0.length : Int)) = false := decide_eq_false c9; clear c9; simp only [Option.some.injEq, Prod.mk.injEq] at H; obtain ⟨rfl, rfl, rfl⟩ := H; have hnb78 := NB176_178.out; have hnc78 := NB178_176.out; obtain ⟨hcz79_0, hcz79_1, hcz79_2, hfz79_0, hfz79_1, hfz79_2⟩ := bc3_ BK176.out
     go_wp2
     refine bodyPost_ret (results_cell_row rfl _ _ gb176 36 #[.int .i64 5, .slice none 0 0, .int .i64 0] (0, 0) _ rfl blk_a Try.underlying36 rfl (by kernel_rfl)) rfl ?_; exact ⟨_, eq_a, by first | exact Kd.R_nil _ _ _ _ _ | exact Kd.N_nil _ _ _ _ _ | exact Kd.V_nil _ _ _ _ _ | exact Kd.Q_nil _ _ _ _ _ | exact Kd.S_nil _ _ _ _ _, below_a⟩
 ·
  replace c4 := Bool.eq_false_iff.mpr c4; subst c4; have H1 : (some (3, ([] : List ByteArray), 0)) = some (r1, r2, r3) := by rw [if_neg (show ¬ (false = true) by decide)] at H; exact H
  clear H; have H := H1; clear H1; simp only [Option.some.injEq, Prod.mk.injEq] at H; obtain ⟨rfl, rfl, rfl⟩ := H
  go_enter Try.func19, Try.ntmps19
  go_wp2_with (first | ((with_reducible refine gate_dst (N := 4) rfl ?_); (try (refine gate_guard (by rfl) ?_; dsimp only)); refine box_event ?hg (N := 4) ?hd (cs := #[.int .i64 0, .slice none 0 0, .int .i64 0]) (t := 36) ?hr ?_; (case hd => rfl); (case hg => rfl); (case hr => first | (go_simp; done) | (go_simp; rfl)); intro gb176 hg w80 hbox hb; have n0_ := Aside0.mk (below_step below_a hb); have BK176 := Aside0.mk (hbox); have GW176 := Aside0.mk (bsz_ (w := w) hg); have GE176 := Aside0.mk (bsz_ (w := w) hg); replace HB := n0_; clear n0_; clear hb hbox hg) | ((with_reducible refine gate_callee (f := 47) rfl ?_); refine goesL_ (some 15) rfl rfl Try.func47 (by kernel_rfl) rfl #[.int .i64 a1, .int .i64 0, .int .i64 (wrap64 ((l0.length : Int) - 1))] rfl args_a ?_; (with_reducible refine (impl_in.calls a1 0 (wrap64 ((l0.length : Int) - 1)) false _ A3.out).mono ?_); rintro e w' ⟨rfl, ⟨nd, rfl⟩⟩; refine ⟨_, rfl, ?_⟩; (try (rw [drewN_self w80]; generalize hq_ : World.drewN w80 _ = w80; have n0_ : Aside0 (w80.heap[gb176]? = some (.cells #[.int .i64 0, .slice none 0 0, .int .i64 0] 36 (0, 0))) := ⟨by rw [← hq_]; exact blk_a⟩; have n1_ : Aside0 (Below w.heap.size w w80) := ⟨by rw [← hq_]; exact below_a⟩; clear BK176 HB hq_; have BK176 := n0_; have HB := n1_; clear n0_ n1_)); obtain ⟨hcz81_0, hcz81_1, hcz81_2, hfz81_0, hfz81_1, hfz81_2⟩ := bc3_ BK176.out))
  refine bodyPost_ret (results_cell_row rfl _ _ gb176 36 #[.int .i64 3, .slice none 0 0, .int .i64 0] (0, 0) _ rfl blk_a Try.underlying36 rfl (by kernel_rfl)) rfl ?_; exact ⟨_, eq_a, by first | exact Kd.R_nil _ _ _ _ _ | exact Kd.N_nil _ _ _ _ _ | exact Kd.V_nil _ _ _ _ _ | exact Kd.Q_nil _ _ _ _ _ | exact Kd.S_nil _ _ _ _ _, below_a⟩

/-! ### impl_noBytes: function 41 -/
def impl_noBytes.f (a0 : Int) : Option (Int × List Int) := some (a0, ([] : List Int))
set_option maxHeartbeats 8000000 in
set_option maxRecDepth 100000 in
theorem impl_noBytes.calls (a0 : Int) (r1 : Int) (r2 : List Int) (w : World) (h : impl_noBytes.f a0 = some (r1, r2)) :
  Calls Try.prog 41 #[.int .i64 a0] w fun e w' => ∃ v1_ : Value, e = .returned (.agg #[.int .i64 r1, v1_]) ∧ Kd.R (Kd.int .u8) 5 w' w.heap.size (fun _ => True) v1_ r2 ∧ Below w.heap.size w w' := by
 have hu26 := Try.underlying26
 have HB := Aside0.mk (Below.refl w.heap.size w)
 have H : (some (a0, ([] : List Int))) = some (r1, r2) := h
 clear h
 simp only [Option.some.injEq, Prod.mk.injEq] at H
 obtain ⟨rfl, rfl⟩ := H
 go_enter Try.func41, Try.ntmps41
 go_wp2_with (first | ((with_reducible refine gate_dst (N := 2) rfl ?_); refine box_event ?hg (N := 2) ?hd (cs := #[.int .i64 0, .slice none 0 0]) (t := 26) ?hr ?_; (case hd => rfl); (case hg => rfl); (case hr => first | (go_simp; done) | (go_simp; rfl)); intro gb187 hg w2 hbox hb; have n0_ := Aside0.mk (below_step below_a hb); have BK187 := Aside0.mk (hbox); have GW187 := Aside0.mk (bsz_ (w := w) hg); have GE187 := Aside0.mk (bsz_ (w := w) hg); replace HB := n0_; clear n0_; clear hb hbox hg; obtain ⟨hcz3_0, hcz3_1, hfz3_0, hfz3_1⟩ := bc2_ BK187.out))
 refine bodyPost_ret (results_cell_row rfl _ _ gb187 26 #[.int .i64 a0, .slice none 0 0] (0, 0) _ rfl blk_a Try.underlying26 rfl (by kernel_rfl)) rfl ?_
 exact ⟨_, eq_a, by first | exact Kd.R_nil _ _ _ _ _ | exact Kd.N_nil _ _ _ _ _ | exact Kd.V_nil _ _ _ _ _ | exact Kd.Q_nil _ _ _ _ _ | exact Kd.S_nil _ _ _ _ _, below_a⟩

/-! ### impl_EncodeName: function 11 -/
def impl_EncodeName.l0 : Nat → List Int → List ByteArray → Int → Int → Option (Int × List Int)
 | 0, _, _, _, _ => none
 | k + 1, x3, x10, x11, x12 => if x12 < x11 then (if 0 ≤ x12 then (if x12 < (x10.length : Int) then ((impl_isLabel.f k (rdOf ByteArray.empty x10 x12)).bind fun t197 => (if t197 = true then (if x3.length < 140737488355328 then ((some (x3 ++ [(((rdOf ByteArray.empty x10 x12).size : Int)) % 256] : List Int)).bind fun y198 => (if y198.length + (rdOf ByteArray.empty x10 x12).size < 140737488355328 then (impl_EncodeName.l0 k (y198 ++ bytesOf (rdOf ByteArray.empty x10 x12)) x10 x11 (wrap64 (x12 + 1))) else (none))) else (none)) else ((impl_noBytes.f 5).bind fun bt204 => (some (bt204.1, bt204.2))))) else (none)) else (none)) else (if x3.length < 140737488355328 then (some (0, (x3 ++ [0]))) else (none))
def impl_EncodeName.f (k : Nat) (l0 : List ByteArray) : Option (Int × List Int) := if (l0.length : Int) > 6 then ((impl_noBytes.f 2).bind fun bt189 => (some (bt189.1, bt189.2))) else (impl_EncodeName.l0 k ([] : List Int) l0 (l0.length : Int) 0)
theorem impl_EncodeName.mono_l : ∀ k, (∀ y0 y1 y2 y3, LeO (impl_EncodeName.l0 k y0 y1 y2 y3) (impl_EncodeName.l0 (k + 1) y0 y1 y2 y3))
 | 0 => fun _ _ _ _ r h => by simp [impl_EncodeName.l0] at h
 | k + 1 => by
  have ih0 := impl_EncodeName.mono_l k
  ·
   intro y0 y1 y2 y3
   unfold impl_EncodeName.l0
   repeat' first
   | (with_reducible exact ih0 _ _ _ _)
   | (with_reducible exact impl_isLabel.mono _ _)
   | (with_reducible exact LeO.refl _)
   | (with_reducible exact LeO.none _)
   | (with_reducible refine LeO.ite ?_ ?_)
   | (with_reducible refine LeO.bind ?_ (fun _ => ?_))
   | exact ih0 _ _ _ _
   | exact impl_isLabel.mono _ _
   | exact LeO.none _
   | refine LeO.ite ?_ ?_
   | refine LeO.bind ?_ (fun _ => ?_)
theorem impl_EncodeName.mono : ∀ a0 k, LeO (impl_EncodeName.f k a0) (impl_EncodeName.f (k + 1) a0) := by
 intro a0 k
 have ih0 := impl_EncodeName.mono_l k
 unfold impl_EncodeName.f
 repeat' first
   | (with_reducible exact ih0 _ _ _ _)
   | (with_reducible exact impl_isLabel.mono _ _)
   | (with_reducible exact LeO.refl _)
   | (with_reducible exact LeO.none _)
   | (with_reducible refine LeO.ite ?_ ?_)
   | (with_reducible refine LeO.bind ?_ (fun _ => ?_))
   | exact ih0 _ _ _ _
   | exact impl_isLabel.mono _ _
   | exact LeO.none _
   | refine LeO.ite ?_ ?_
   | refine LeO.bind ?_ (fun _ => ?_)
set_option maxHeartbeats 8000000 in
set_option maxRecDepth 100000 in
theorem impl_EncodeName.calls (k : Nat) (A0 : Option Addr) (c0 : Nat) (l0 : List ByteArray) (r1 : Int) (r2 : List Int) (w : World) (hr0 : Kd.C Kd.string w A0 l0.length l0) (hc0 : l0.length ≤ c0) (h : impl_EncodeName.f k l0 = some (r1, r2)) :
  Calls Try.prog 11 #[.slice A0 l0.length c0] w fun e w' => ∃ v1_ : Value, e = .returned (.agg #[.int .i64 r1, v1_]) ∧ Kd.R (Kd.int .u8) 5 w' w.heap.size (fun _ => True) v1_ r2 ∧ Below w.heap.size w w' := by
 have hu26 := Try.underlying26
 have HR0 := Aside0.mk hr0
 have HC0 := Aside0.mk hc0
 clear hr0 hc0
 have HB := Aside0.mk (Below.refl w.heap.size w)
 have H : (if (l0.length : Int) > 6 then ((impl_noBytes.f 2).bind fun bt189 => (some (bt189.1, bt189.2))) else (impl_EncodeName.l0 k ([] : List Int) l0 (l0.length : Int) 0)) = some (r1, r2) := h
 clear h
 by_cases c2 : (l0.length : Int) > 6
 ·
  rw [if_pos c2] at H; have c2b0 : decide (6 < (l0.length : Int)) = true := decide_eq_true c2; have c2b1 : decide (6 < l0.length) = true := decide_eq_true (by omega); clear c2; replace H := Option.bind_eq_some_iff.mp H; obtain ⟨⟨t189, t190⟩, A30, H⟩ := H; replace H : (some (t189, t190)) = some (r1, r2) := H; have A3 := Aside0.mk A30; clear A30; simp only [Option.some.injEq, Prod.mk.injEq] at H; obtain ⟨rfl, rfl⟩ := H
  go_enter Try.func11, Try.ntmps11
  go_wp2_with (first | ((with_reducible refine gate_dst (N := 2) rfl ?_); refine box_event ?hg (N := 2) ?hd (cs := #[.int .i64 0, .slice none 0 0]) (t := 26) ?hr ?_; (case hd => rfl); (case hg => rfl); (case hr => first | (go_simp; done) | (go_simp; rfl)); intro gb188 hg w4 hbox hb; have n0_ := Aside0.mk (below_step below_a hb); have BK188 := Aside0.mk (hbox); have GW188 := Aside0.mk (bsz_ (w := w) hg); have GE188 := Aside0.mk (bsz_ (w := w) hg); replace HB := n0_; clear n0_; clear hb hbox hg) | ((with_reducible refine gate_callee (f := 41) rfl ?_); refine goesL_ (some 9) rfl rfl Try.func41 (by kernel_rfl) rfl #[.int .i64 2] rfl args_a ?_; (with_reducible refine (impl_noBytes.calls 2 t189 t190 _ A3.out).mono ?_); rintro e w5 ⟨v191, rfl, ho0, hb⟩; refine ⟨_, rfl, ?_⟩; have HO192 := Aside0.mk (Kd.R_lower ho0 (below_size below_a)); replace BK188 := Aside0.mk (blk_below (g := gb188) blk_c hb); replace HB := Aside0.mk (below_step below_a hb); (try clear hb); (try clear hb2); (try clear hk); (try clear hi); (try clear ho0); obtain ⟨hcz6_0, hcz6_1, hfz6_0, hfz6_1⟩ := bc2_ BK188.out; obtain ⟨Ao7, co7, eo7⟩ := Kd.R_slice HO192.out; subst eo7))
  refine bodyPost_ret (results_cell_row rfl _ _ gb188 26 #[.int .i64 t189, .slice Ao7 t190.length co7] (0, 0) _ rfl blk_a Try.underlying26 rfl (by kernel_rfl)) rfl ?_; exact ⟨_, eq_a, by (with_reducible repeat (first | apply Kd.R_alloc | apply Kd.R_drewN | apply Kd.R_drew)); exact Kd.R_mono (Kd.R_far (p := ⟨gb188, 1, none⟩) (Kd.R_far (p := ⟨gb188, 0, none⟩) (Kd.R_types HO192.out BK188.out (by decide)) (fun _ hk => hk.2) (.int .i64 t189)) (fun _ hk => hk.2) (.slice Ao7 t190.length co7)) (fun _ hk => trivial), below_a⟩
 ·
  rw [if_neg c2] at H; have c2b0 : decide (6 < (l0.length : Int)) = false := decide_eq_false c2; have c2b1 : decide (6 < l0.length) = false := decide_eq_false (by omega); clear c2; have H' := Aside0.mk H; clear H
  go_enter Try.func11, Try.ntmps11
  go_wp2_with (first | ((with_reducible refine gate_dst (N := 2) rfl ?_); refine box_event ?hg (N := 2) ?hd (cs := #[.int .i64 0, .slice none 0 0]) (t := 26) ?hr ?_; (case hd => rfl); (case hg => rfl); (case hr => first | (go_simp; done) | (go_simp; rfl)); intro gb188 hg w8 hbox hb; have n0_ := Aside0.mk (below_step below_a hb); have BK188 := Aside0.mk (hbox); have GW188 := Aside0.mk (bsz_ (w := w) hg); have GE188 := Aside0.mk (bsz_ (w := w) hg); replace HB := n0_; clear n0_; clear hb hbox hg))
  go_loopg [3, 12] k (fun kq v3 v12 w' => ∃ (x3_1 : List Int) (x12_1 : Int) (x189000_1 : Int), v12 = .int .i64 x12_1 ∧ Aside0 (impl_EncodeName.l0 kq x3_1 l0 (l0.length : Int) x12_1 = some (r1, r2)) ∧ Aside0 (kq ≤ k) ∧ Aside0 (Kd.R (Kd.int .u8) 5 w' w.heap.size (fun _ => True) v3 x3_1) ∧ Aside0 (w'.heap[gb188]? = some (.cells #[.int .i64 x189000_1, (.slice none 0 0)] 26 (0, 0))) ∧ Aside0 (Below w.heap.size w w'))
  case atStart => exact ⟨(([] : List Int)), (0), (0), eq_b, H', ⟨Nat.le_refl _⟩, ⟨by first | exact Kd.R_nil _ _ _ _ _ | exact Kd.N_nil _ _ _ _ _ | exact Kd.V_nil _ _ _ _ _ | exact Kd.Q_nil _ _ _ _ _ | exact Kd.S_nil _ _ _ _ _⟩, ⟨blk_a⟩, ⟨below_a⟩⟩
  case round =>
   clear H'
   try clear c1
   try clear c2 c2b0 c2b1
   try clear p2
   try clear c4
   try clear hcz6_0 hcz6_1
   try clear hfz6_0 hfz6_1
   obtain ⟨x3_1, x12_1, x189000_1, rfl, HA, HK1, HO_3, BK188, HB⟩ := hrel
   cases gk with
   | zero => exact absurd HA.out (by simp [impl_EncodeName.l0])
   | succ k1 =>
    have H := HA.out; clear HA; simp only [impl_EncodeName.l0] at H
    by_cases c9 : x12_1 < (l0.length : Int)
    ·
     rw [if_pos c9] at H; have c9b0 : decide (x12_1 < (l0.length : Int)) = true := decide_eq_true c9; clear c9
     by_cases c10 : 0 ≤ x12_1
     ·
      rw [if_pos c10] at H; have c10b0 : decide (0 ≤ x12_1) = true := decide_eq_true c10; clear c10
      by_cases c11 : x12_1 < (l0.length : Int)
      ·
       rw [if_pos c11] at H; have c11b0 : decide (x12_1 < (l0.length : Int)) = true := decide_eq_true c11; clear c11; replace H := Option.bind_eq_some_iff.mp H; obtain ⟨t197, A120, H⟩ := H; replace H : (if t197 = true then (if x3_1.length < 140737488355328 then ((some (x3_1 ++ [(((rdOf ByteArray.empty l0 x12_1).size : Int)) % 256] : List Int)).bind fun y198 => (if y198.length + (rdOf ByteArray.empty l0 x12_1).size < 140737488355328 then (impl_EncodeName.l0 k1 (y198 ++ bytesOf (rdOf ByteArray.empty l0 x12_1)) l0 (l0.length : Int) (wrap64 (x12_1 + 1))) else (none))) else (none)) else ((impl_noBytes.f 5).bind fun bt204 => (some (bt204.1, bt204.2)))) = some (r1, r2) := H; have A12 := Aside0.mk A120; clear A120
       by_cases c13 : t197 = true
       ·
        subst c13; have H1 : (if x3_1.length < 140737488355328 then ((some (x3_1 ++ [(((rdOf ByteArray.empty l0 x12_1).size : Int)) % 256] : List Int)).bind fun y198 => (if y198.length + (rdOf ByteArray.empty l0 x12_1).size < 140737488355328 then (impl_EncodeName.l0 k1 (y198 ++ bytesOf (rdOf ByteArray.empty l0 x12_1)) l0 (l0.length : Int) (wrap64 (x12_1 + 1))) else (none))) else (none)) = some (r1, r2) := by rw [if_pos rfl] at H; exact H
        clear H; have H := H1; clear H1
        by_cases c14 : x3_1.length < 140737488355328
        ·
         rw [if_pos c14] at H; have LMc14 := Aside0.mk c14; clear c14; obtain ⟨y198, hy198⟩ : ∃ y_ : List Int, y_ = (x3_1 ++ [(((rdOf ByteArray.empty l0 x12_1).size : Int)) % 256]) := ⟨_, rfl⟩; replace H : (if y198.length + (rdOf ByteArray.empty l0 x12_1).size < 140737488355328 then (impl_EncodeName.l0 k1 (y198 ++ bytesOf (rdOf ByteArray.empty l0 x12_1)) l0 (l0.length : Int) (wrap64 (x12_1 + 1))) else (none)) = some (r1, r2) := by first | (rw [hy198]; with_reducible exact H) | (have H2_ := (Option.bind_some _ _).symm.trans H; rw [hy198]; with_reducible exact H2_) | (have H2_ := (Option.bind_some _ _).symm.trans H; with_reducible exact H2_) | with_reducible exact H | (rw [hy198]; exact H) | exact H
         have Ny198 := Aside0.mk hy198; clear hy198
         by_cases c15 : y198.length + (rdOf ByteArray.empty l0 x12_1).size < 140737488355328
         ·
          rw [if_pos c15] at H; have LMc15 := Aside0.mk c15; clear c15; obtain ⟨y201, hy201⟩ : ∃ y_ : List Int, y_ = (y198 ++ bytesOf (rdOf ByteArray.empty l0 x12_1)) := ⟨_, rfl⟩; replace H : (impl_EncodeName.l0 k1 y201 l0 (l0.length : Int) (wrap64 (x12_1 + 1))) = some (r1, r2) := by first | (rw [hy201]; with_reducible exact H) | (have H2_ := (Option.bind_some _ _).symm.trans H; rw [hy201]; with_reducible exact H2_) | (have H2_ := (Option.bind_some _ _).symm.trans H; with_reducible exact H2_) | with_reducible exact H | (rw [hy201]; exact H) | exact H
          have Ny201 := Aside0.mk hy201; clear hy201; have H' := Aside0.mk H; clear H; have p196 : 0 ≤ (x12_1 : Int) := of_decide_eq_true (by first | (with_reducible assumption) | assumption); have q196 : x12_1 < (l0.length : Int) := of_decide_eq_true (by first | (with_reducible assumption) | assumption); obtain ⟨ad196, e196, hx196_0⟩ := Kd.at_string HR0.out x12_1 p196 q196
          cases e196
          replace hx196_0 := (HB.out.cell (World.block_lt_of_cell? w _ hx196_0)).trans hx196_0; replace p196 := eq_true p196; replace q196 := eq_true q196
          go_wp2_with (first | ((with_reducible refine gate_callee (f := 42) rfl ?_); refine goesL_ (some 17) rfl rfl Try.func42 (by kernel_rfl) rfl #[.string (rdOf ByteArray.empty l0 x12_1)] rfl args_a ?_; (with_reducible refine (impl_isLabel.calls k1 (rdOf ByteArray.empty l0 x12_1) true _ A12.out).mono ?_); rintro e w' ⟨rfl, ⟨nd, rfl⟩⟩; refine ⟨_, rfl, ?_⟩) | ((with_reducible refine gate_builtin (b := .append) (xs := #[.tmp 20, .tmp 24]) rfl ?_); at_builtin; refine Kd.R_append (Kd.int .u8) (w0 := w) w.heap.size rfl (.tmp 20) (.tmp 24) 24 5 (.int .u8 0) 1 rfl Try.underlying24 info5 rfl (by decide) (by omega) u3 x3_1 ((((rdOf ByteArray.empty l0 x12_1).size : Int)) % 256) [.int .u8 ((((rdOf ByteArray.empty l0 x12_1).size : Int)) % 256)] (fun _ => True) (fun _ => False) rfl rfl ?aP (fun _ hk => hk.elim) ?aF ?aO ?aB ?aS ?aL ?_; (case aP => exact rfl); (case aB => exact below_a); (case aF => exact (fun _ _ => trivial)); (case aO => exact (R_a HO_3.out)); (case aS => exact (below_size below_a)); (case aL => have := LMc14.out; omega); intro v199 w16 ho hb hg hat; rw [← Ny198.out] at ho; replace BK188 := Aside0.mk (blk_grown (g := gb188) blk_c hg (Kd.R_ne HO_3.out BK188.out (by decide))); replace HB := Aside0.mk (hb); have HO200 := Aside0.mk (ho); clear HO_3; clear ho hb hg hat) | (at_builtin; refine print_append_str (w0 := w) w.heap.size rfl (.tmp 25) _ 24 9 5 rfl Try.underlying24 Try.underlying9 info5 v199 y198 (rdOf ByteArray.empty l0 x12_1) rfl rfl ?aO ?aB ?aS ?aL ?_; (case aB => exact below_a); (case aO => exact (Kd.own_of_R (R_a HO200.out))); (case aS => exact (below_size below_a)); (case aL => have := LMc15.out; omega); intro v202 w17 ho0 hb hg; have ho := Kd.R_of_own (h1 := fun _ => rfl) (ok := fun _ => True) ho0 (fun _ _ => trivial); clear ho0; have hat := True.intro; rw [← Ny201.out] at ho; change Kd.R (Kd.int .u8) 5 w17 w.heap.size (fun _ => True) v202 y201 at ho; replace BK188 := Aside0.mk (blk_grown (g := gb188) blk_c hg (Kd.R_ne HO200.out BK188.out (by decide))); replace HB := Aside0.mk (hb); have HO203 := Aside0.mk (ho); clear HO200; clear ho hb hg hat))
          go_roundg k1
          case measure => have := HK1.out; omega
          case rel => exact ⟨(y201), (wrap64 (x12_1 + 1)), (x189000_1), eq_b, H', ⟨by have := HK1.out; omega⟩, ⟨R_a HO203.out⟩, ⟨blk_a⟩, ⟨below_a⟩⟩
         ·
          rw [if_neg c15] at H; exact absurd H (by simp)
        ·
         rw [if_neg c14] at H; exact absurd H (by simp)
       ·
        replace c13 := Bool.eq_false_iff.mpr c13; subst c13; have H1 : ((impl_noBytes.f 5).bind fun bt204 => (some (bt204.1, bt204.2))) = some (r1, r2) := by rw [if_neg (show ¬ (false = true) by decide)] at H; exact H
        clear H; have H := H1; clear H1; replace H := Option.bind_eq_some_iff.mp H; obtain ⟨⟨t204, t205⟩, A180, H⟩ := H; replace H : (some (t204, t205)) = some (r1, r2) := H; have A18 := Aside0.mk A180; clear A180; simp only [Option.some.injEq, Prod.mk.injEq] at H; obtain ⟨rfl, rfl⟩ := H; have p196 : 0 ≤ (x12_1 : Int) := of_decide_eq_true (by first | (with_reducible assumption) | assumption); have q196 : x12_1 < (l0.length : Int) := of_decide_eq_true (by first | (with_reducible assumption) | assumption); obtain ⟨ad196, e196, hx196_0⟩ := Kd.at_string HR0.out x12_1 p196 q196
        cases e196
        replace hx196_0 := (HB.out.cell (World.block_lt_of_cell? w _ hx196_0)).trans hx196_0; replace p196 := eq_true p196; replace q196 := eq_true q196
        go_wp2_with (first | ((with_reducible refine gate_callee (f := 42) rfl ?_); refine goesL_ (some 17) rfl rfl Try.func42 (by kernel_rfl) rfl #[.string (rdOf ByteArray.empty l0 x12_1)] rfl args_a ?_; (with_reducible refine (impl_isLabel.calls k1 (rdOf ByteArray.empty l0 x12_1) false _ A12.out).mono ?_); rintro e w' ⟨rfl, ⟨nd, rfl⟩⟩; refine ⟨_, rfl, ?_⟩; (try (rw [drewN_self wr]; generalize hq_ : World.drewN wr _ = wr; have n0_ : Aside0 (Kd.R (Kd.int .u8) 5 wr w.heap.size (fun _ => True) u3 x3_1) := ⟨by rw [← hq_]; exact (R_a HO_3.out)⟩; have n1_ : Aside0 (wr.heap[gb188]? = some (.cells #[.int .i64 x189000_1, .slice none 0 0] 26 (0, 0))) := ⟨by rw [← hq_]; exact blk_a⟩; have n2_ : Aside0 (Below w.heap.size w wr) := ⟨by rw [← hq_]; exact below_a⟩; clear HO_3 BK188 HB hq_; have HO_3 := n0_; have BK188 := n1_; have HB := n2_; clear n0_ n1_ n2_))) | ((with_reducible refine gate_callee (f := 41) rfl ?_); refine goesL_ (some 19) rfl rfl Try.func41 (by kernel_rfl) rfl #[.int .i64 5] rfl args_a ?_; (with_reducible refine (impl_noBytes.calls 5 t204 t205 _ A18.out).mono ?_); rintro e w19 ⟨v206, rfl, ho0, hb⟩; refine ⟨_, rfl, ?_⟩; have n0_ := Aside0.mk (Kd.R_elder' (R_a HO_3.out) (Kd.R_base ho0) hb); have HO207 := Aside0.mk (Kd.R_lower (Kd.R_new' ho0 (Kd.R_lt (R_a HO_3.out))) (below_size below_a)); replace BK188 := Aside0.mk (blk_below (g := gb188) blk_c hb); replace HB := Aside0.mk (below_step below_a hb); replace HO_3 := n0_; clear n0_; (try clear hb); (try clear hb2); (try clear hk); (try clear hi); (try clear ho0); obtain ⟨hcz20_0, hcz20_1, hfz20_0, hfz20_1⟩ := bc2_ BK188.out; obtain ⟨Ao21, co21, eo21⟩ := Kd.R_slice HO207.out; subst eo21))
        refine bodyPost_ret (results_cell_row rfl _ _ gb188 26 #[.int .i64 t204, .slice Ao21 t205.length co21] (0, 0) _ rfl blk_a Try.underlying26 rfl (by kernel_rfl)) rfl ?_; exact ⟨_, eq_a, by (with_reducible repeat (first | apply Kd.R_alloc | apply Kd.R_drewN | apply Kd.R_drew)); exact Kd.R_mono (Kd.R_far (p := ⟨gb188, 1, none⟩) (Kd.R_far (p := ⟨gb188, 0, none⟩) (Kd.R_types HO207.out BK188.out (by decide)) (fun _ hk => hk.2) (.int .i64 t204)) (fun _ hk => hk.2) (.slice Ao21 t205.length co21)) (fun _ hk => trivial), below_a⟩
      ·
       rw [if_neg c11] at H; exact absurd H (by simp)
     ·
      rw [if_neg c10] at H; exact absurd H (by simp)
    ·
     rw [if_neg c9] at H; have c9b0 : decide (x12_1 < (l0.length : Int)) = false := decide_eq_false c9; clear c9
     by_cases c22 : x3_1.length < 140737488355328
     ·
      rw [if_pos c22] at H; have LMc22 := Aside0.mk c22; clear c22; obtain ⟨y193, hy193⟩ : ∃ y_ : List Int, y_ = (x3_1 ++ [0]) := ⟨_, rfl⟩; replace H : (some (0, y193)) = some (r1, r2) := by first | (rw [hy193]; with_reducible exact H) | (have H2_ := (Option.bind_some _ _).symm.trans H; rw [hy193]; with_reducible exact H2_) | (have H2_ := (Option.bind_some _ _).symm.trans H; with_reducible exact H2_) | with_reducible exact H | (rw [hy193]; exact H) | exact H
      have Ny193 := Aside0.mk hy193; clear hy193; simp only [Option.some.injEq, Prod.mk.injEq] at H; obtain ⟨rfl, rfl⟩ := H
      go_wp2_with (first | ((with_reducible refine gate_builtin (b := .append) (xs := #[.tmp 29, .tmp 30]) rfl ?_); at_builtin; refine Kd.R_append (Kd.int .u8) (w0 := w) w.heap.size rfl (.tmp 29) (.tmp 30) 24 5 (.int .u8 0) 1 rfl Try.underlying24 info5 rfl (by decide) (by omega) u3 x3_1 0 [.int .u8 0] (fun _ => True) (fun _ => False) rfl rfl ?aP (fun _ hk => hk.elim) ?aF ?aO ?aB ?aS ?aL ?_; (case aP => exact rfl); (case aB => exact below_a); (case aF => exact (fun _ _ => trivial)); (case aO => exact (R_a HO_3.out)); (case aS => exact (below_size below_a)); (case aL => have := LMc22.out; omega); intro v194 w23 ho hb hg hat; rw [← Ny193.out] at ho; replace BK188 := Aside0.mk (blk_grown (g := gb188) blk_c hg (Kd.R_ne HO_3.out BK188.out (by decide))); replace HB := Aside0.mk (hb); have HO195 := Aside0.mk (ho); clear HO_3; clear ho hb hg hat; obtain ⟨Ao24, co24, eo24⟩ := Kd.R_slice HO195.out; subst eo24; obtain ⟨hcz25_0, hcz25_1, hfz25_0, hfz25_1⟩ := bc2_ BK188.out))
      refine bodyPost_ret (results_cell_row rfl _ _ gb188 26 #[.int .i64 0, .slice Ao24 y193.length co24] (0, 0) _ rfl blk_a Try.underlying26 rfl (by kernel_rfl)) rfl ?_; exact ⟨_, eq_a, by (with_reducible repeat (first | apply Kd.R_alloc | apply Kd.R_drewN | apply Kd.R_drew)); exact Kd.R_mono (Kd.R_far (p := ⟨gb188, 1, none⟩) (Kd.R_far (p := ⟨gb188, 0, none⟩) (Kd.R_types HO195.out BK188.out (by decide)) (fun _ hk => hk.2) (.int .i64 0)) (fun _ hk => hk.2) (.slice Ao24 y193.length co24)) (fun _ hk => trivial), below_a⟩
     ·
      rw [if_neg c22] at H; exact absurd H (by simp)

/-! ### slices_Grow_byte_byte: function 66 -/
def slices_Grow_byte_byte.f (l0 : List Int) (a1 : Int) : Option (List Int) := if l0.length = 0 then (if 0 ≤ a1 then (if a1 < 140737488355328 then some [] else none) else none) else none
set_option maxHeartbeats 8000000 in
set_option maxRecDepth 100000 in
theorem slices_Grow_byte_byte.calls (A0 : Option Addr) (c0 : Nat) (l0 : List Int) (a1 : Int) (r : List Int) (w : World) (hr0 : Kd.C (Kd.int .u8) w A0 l0.length l0) (hc0 : l0.length ≤ c0) (hA0 : A0 = none) (hC0 : c0 = 0) (h : slices_Grow_byte_byte.f l0 a1 = some r) :
    Calls Try.prog 66 #[.slice A0 l0.length c0, .int .i64 a1] w fun e w' => ∃ v0_ : Value, e = .returned (v0_) ∧ Kd.R (Kd.int .u8) 5 w' w.heap.size (fun _ => True) v0_ r ∧ Below w.heap.size w w' := by
  subst hA0 hC0
  obtain rfl : l0 = [] := List.length_eq_zero_iff.1 (by omega)
  clear hr0 hc0
  unfold slices_Grow_byte_byte.f at h
  rw [if_pos (show ([] : List Int).length = 0 from rfl)] at h
  by_cases c1 : 0 ≤ a1
  rotate_left
  · rw [if_neg c1] at h; exact absurd h (by simp)
  rw [if_pos c1] at h
  by_cases c2 : a1 < 140737488355328
  rotate_left
  · rw [if_neg c2] at h; exact absurd h (by simp)
  rw [if_pos c2] at h
  obtain rfl := Option.some.inj h
  clear h
  obtain ⟨n, rfl⟩ : ∃ n : Nat, a1 = (n : Int) := ⟨a1.toNat, by omega⟩
  obtain ⟨i0, hi0, hz0, hsz, hby⟩ := info_parts info5
  have h1 : ¬ ((n : Int) < 0) := by omega
  by_cases hn : n = 0
  · subst hn
    go_enter Try.func66, Try.ntmps66
    go_wp2
    go_ret
    exact ⟨_, rfl, Kd.R_nil _ _ _ _ _, Below.refl _ _⟩
  · have h4 : (n : Int) > 0 := by omega
    have hold : (Builtin.firstCells i0.size 0 (.slice none 0 0)).run Try.prog w.drew = .ok ([] : List Value).toArray w.drew := run_firstCells_none w.drew i0.size 0 0 0
    have hrz : ∀ ty, (Builtin.append_ #[24, 3] ty #[.slice none 0 0, .int .i64 (n : Int)]).run Try.prog w = _ := fun ty =>
      Lib.run_append_grow_zeros w 24 3 ty 5 i0 (.int .u8 0) .i64 .i64 Try.underlying24 Try.underlying3 hi0 hz0 none 0 0 [] hold n (by omega) (by rw [hsz]; omega) (by omega) (by omega) (by rw [hby]; omega) (by rw [hby]; exact growslice_fits (by omega) (by omega))
    have hGn : 0 + n ≤ grownCap w (0 + n) 0 5 := grownCap_ge w _ _ _
    have hGm := grownCap_le_maxLen w (0 + n) 0 5 (by unfold maxLen; omega)
    obtain ⟨G, hG⟩ : ∃ G, G = grownCap w (0 + n) 0 5 := ⟨_, rfl⟩
    rw [← hG] at hrz hGn hGm
    have HG := Aside0.mk hGm
    have C2 := Aside0.mk c2
    clear hGm hold hG hi0 hz0 hsz hby c2
    rw [Nat.zero_add] at hrz hGn
    have hw : wrap64 (n : Int) = (n : Int) := by have := C2.out; unfold wrap64; omega
    rw [← hw] at hrz
    have h5 : wrap64 (n : Int) > 0 := by rw [hw]; exact h4
    clear hw
    go_enter Try.func66, Try.ntmps66
    go_wp2_with (at_builtin; refine Lib.wpList_append_run _ rfl _ _ _ _ rfl _ _ rfl rfl _ _ (hrz _) ?_)
    go_ret
    refine ⟨_, rfl, ⟨fun _ _ => trivial, [], ⟨by simp, .inr ⟨w.heap.size, G, _, rfl, Nat.le_refl _, heap_alloc_new _ _, Nat.zero_le _, HG.out, ?_, by simp⟩⟩, Reps.none _ _⟩, ?_⟩
    · show _ = G * 1
      simp [Builtin.zeroCells, Value.cells]; omega
    · exact below_alloc (below_drew1 (Below.refl _ _)) _

end Go.Proofs.Ytllkeaghjacalaa.MFnExactReadQuery
