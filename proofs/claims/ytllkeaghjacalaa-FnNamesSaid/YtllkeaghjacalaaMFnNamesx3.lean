-- Laid by a program of this session (the kit's print, turned where it falls short; the texts of functions that it does not take are proved by hand).
import Derived.Test.YtllkeaghjacalaaMFnNamesx0
import Derived.Test.YtllkeaghjacalaaMFnNamesx1
import Derived.Test.YtllkeaghjacalaaMFnNamesx2
namespace Go.Proofs.Ytllkeaghjacalaa.MFnNames
open Go.RowKit Go.Proofs.YtllkeaghjacalaaW.PrintWords Go.Proofs.YtllkeaghjacalaaW.PrintLast Go.Proofs.YtllkeaghjacalaaW.PrintMore
attribute [local go_sem] max2_int min2_int max_two min_two max_three min_three max_four min_four   -- for this text's walks alone
set_option linter.unusedVariables false
set_option linter.unusedSimpArgs false

attribute [local go_sem] isSome_setCell
/-! ### spec_ReadName: function 17 -/
def spec_ReadName.f (k : Nat) (l0 : List Int) (a1 : Int) : Option (Int × List ByteArray × Int) := (spec_l1In.f a1 0 (wrap64 ((l0.length : Int) - 1))).bind fun t141 => (if t141 = true then ((spec_l10Read.f k l0 a1).bind fun bt142 => (if bt142.2.2 = 0 then (some (0, bt142.1, bt142.2.1)) else (some (bt142.2.2, ([] : List ByteArray), 0)))) else (some (3, ([] : List ByteArray), 0)))
theorem spec_ReadName.mono : ∀ a0 a1 k, LeO (spec_ReadName.f k a0 a1) (spec_ReadName.f (k + 1) a0 a1) := by
 intro a0 a1 k
 unfold spec_ReadName.f
 repeat' first
   | (with_reducible exact spec_l10Read.mono _ _ _)
   | (with_reducible exact LeO.refl _)
   | (with_reducible exact LeO.none _)
   | (with_reducible refine LeO.ite ?_ ?_)
   | (with_reducible refine LeO.bind ?_ (fun _ => ?_))
   | exact spec_l10Read.mono _ _ _
   | exact LeO.none _
   | refine LeO.ite ?_ ?_
   | refine LeO.bind ?_ (fun _ => ?_)
set_option maxHeartbeats 8000000 in
set_option maxRecDepth 100000 in
theorem spec_ReadName.calls (k : Nat) (A0 : Option Addr) (c0 : Nat) (l0 : List Int) (a1 : Int) (r1 : Int) (r2 : List ByteArray) (r3 : Int) (w : World) (hr0 : Kd.C (Kd.int .u8) w A0 l0.length l0) (hc0 : l0.length ≤ c0) (h : spec_ReadName.f k l0 a1 = some (r1, r2, r3)) :
  Calls Try.prog 17 #[.slice A0 l0.length c0, .int .i64 a1] w fun e w' => ∃ v1_ : Value, e = .returned (.agg #[.int .i64 r1, v1_, .int .i64 r3]) ∧ Kd.R Kd.string 9 w' w.heap.size (fun _ => True) v1_ r2 ∧ Below w.heap.size w w' := by
 have hu36 := Try.underlying36
 have hu34 := Try.underlying34
 have HR0 := Aside0.mk hr0
 have HC0 := Aside0.mk hc0
 clear hr0 hc0
 have HB := Aside0.mk (Below.refl w.heap.size w)
 have H : ((spec_l1In.f a1 0 (wrap64 ((l0.length : Int) - 1))).bind fun t141 => (if t141 = true then ((spec_l10Read.f k l0 a1).bind fun bt142 => (if bt142.2.2 = 0 then (some (0, bt142.1, bt142.2.1)) else (some (bt142.2.2, ([] : List ByteArray), 0)))) else (some (3, ([] : List ByteArray), 0)))) = some (r1, r2, r3) := h
 clear h
 replace H := Option.bind_eq_some_iff.mp H
 obtain ⟨t141, A30, H⟩ := H
 replace H : (if t141 = true then ((spec_l10Read.f k l0 a1).bind fun bt142 => (if bt142.2.2 = 0 then (some (0, bt142.1, bt142.2.1)) else (some (bt142.2.2, ([] : List ByteArray), 0)))) else (some (3, ([] : List ByteArray), 0))) = some (r1, r2, r3) := H
 have A3 := Aside0.mk A30
 clear A30
 by_cases c4 : t141 = true
 ·
  subst c4; have H1 : ((spec_l10Read.f k l0 a1).bind fun bt142 => (if bt142.2.2 = 0 then (some (0, bt142.1, bt142.2.1)) else (some (bt142.2.2, ([] : List ByteArray), 0)))) = some (r1, r2, r3) := by rw [if_pos rfl] at H; exact H
  clear H; have H := H1; clear H1; replace H := Option.bind_eq_some_iff.mp H; obtain ⟨⟨t142, t145, t146⟩, A50, H⟩ := H; replace H : (if t146 = 0 then (some (0, t142, t145)) else (some (t146, ([] : List ByteArray), 0))) = some (r1, r2, r3) := H; have A5 := Aside0.mk A50; clear A50
  by_cases c6 : t146 = 0
  ·
   rw [if_pos c6] at H; have c6b0 : (t146 == 0) = true := beq_iff_eq.mpr c6; have c6b1 : (t146 != 0) = false := bne_eq_false_iff_eq.mpr c6; clear c6; simp only [Option.some.injEq, Prod.mk.injEq] at H; obtain ⟨rfl, rfl, rfl⟩ := H
   go_enter Try.func17, Try.ntmps17
   go_wp2_with (first | ((with_reducible refine gate_dst (N := 4) rfl ?_); refine box_event ?hg (N := 4) ?hd (cs := #[.int .i64 0, .slice none 0 0, .int .i64 0]) (t := 36) ?hr ?_; (case hd => rfl); (case hg => rfl); (case hr => first | (go_simp; done) | (go_simp; rfl)); intro gb140 hg w7 hbox hb; have n0_ := Aside0.mk (below_step below_a hb); have BK140 := Aside0.mk (hbox); have GW140 := Aside0.mk (bsz_ (w := w) hg); have GE140 := Aside0.mk (bsz_ (w := w) hg); replace HB := n0_; clear n0_; clear hb hbox hg) | ((with_reducible refine gate_callee (f := 45) rfl ?_); refine goesL_ (some 11) rfl rfl Try.func45 (by kernel_rfl) rfl #[.int .i64 a1, .int .i64 0, .int .i64 (wrap64 ((l0.length : Int) - 1))] rfl args_a ?_; (with_reducible refine (spec_l1In.calls a1 0 (wrap64 ((l0.length : Int) - 1)) true _ A3.out).mono ?_); rintro e w' ⟨rfl, ⟨nd, rfl⟩⟩; refine ⟨_, rfl, ?_⟩; (try (rw [drewN_self w7]; generalize hq_ : World.drewN w7 _ = w7; have n0_ : Aside0 (w7.heap[gb140]? = some (.cells #[.int .i64 0, .slice none 0 0, .int .i64 0] 36 (0, 0))) := ⟨by rw [← hq_]; exact blk_a⟩; have n1_ : Aside0 (Below w.heap.size w w7) := ⟨by rw [← hq_]; exact below_a⟩; clear BK140 HB hq_; have BK140 := n0_; have HB := n1_; clear n0_ n1_))) | ((with_reducible refine gate_callee (f := 46) rfl ?_); refine goesL_ (some 17) rfl rfl Try.func46 (by kernel_rfl) rfl #[.slice A0 l0.length c0, .int .i64 a1] rfl args_a ?_; (with_reducible refine (spec_l10Read.calls k _ _ l0 a1 t142 t145 t146 _ ?side1 ?side2 A5.out).mono ?_); (case side1 => repeat (first | exact (Kd.C_below HR0.out HB.out) | (with_reducible refine Kd.C_alloc ?_ _) | (with_reducible refine Kd.C_drewN ?_ _) | (with_reducible refine Kd.C_drew ?_))); (case side2 => exact HC0.out); rintro e w8 ⟨v143, rfl, ho0, hb⟩; refine ⟨_, rfl, ?_⟩; have HO144 := Aside0.mk (Kd.R_lower ho0 (below_size below_a)); replace BK140 := Aside0.mk (blk_below (g := gb140) blk_c hb); replace HB := Aside0.mk (below_step below_a hb); (try clear hb); (try clear hb2); (try clear hk); (try clear hi); (try clear ho0)) | ((with_reducible refine gate_dst (N := 5) rfl ?_); refine box_event ?hg (N := 5) ?hd (cs := #[.slice none 0 0, .int .i64 0]) (t := 34) ?hr ?_; (case hd => rfl); (case hg => rfl); (case hr => first | (go_simp; done) | (go_simp; rfl)); intro gb147 hg w9 hbox hb; replace HO144 := Aside0.mk (Kd.R_below (R_a HO144.out) hb); have n1_ := Aside0.mk (blk_below (g := gb140) blk_c hb); have n2_ := Aside0.mk (below_step below_a hb); have BK147 := Aside0.mk (hbox); have GW147 := Aside0.mk (bsz_ (w := w) hg); have GE147 := Aside0.mk (bsz_ (w := w) hg); have NB140_147 := Aside0.mk (bne_ (g := gb140) hg); have NB147_140 := Aside0.mk (bne_ (g := gb140) hg).symm; replace BK140 := n1_; replace HB := n2_; clear n1_ n2_; clear hb hbox hg; obtain ⟨Ao10, co10, eo10⟩ := Kd.R_slice HO144.out; subst eo10; have hnb11 := NB147_140.out; have hnc11 := NB140_147.out; obtain ⟨hcz12_0, hcz12_1, hfz12_0, hfz12_1⟩ := bc2_ BK147.out; obtain ⟨hcz13_0, hcz13_1, hcz13_2, hfz13_0, hfz13_1, hfz13_2⟩ := bc3_ BK140.out))
   refine bodyPost_ret (results_cell_row rfl _ _ gb140 36 #[.int .i64 0, .slice Ao10 t142.length co10, .int .i64 t145] (0, 0) _ rfl blk_a Try.underlying36 rfl (by kernel_rfl)) rfl ?_; exact ⟨_, eq_a, by (with_reducible repeat (first | apply Kd.R_alloc | apply Kd.R_drewN | apply Kd.R_drew)); exact Kd.R_mono (Kd.R_far (p := ⟨gb140, 2, none⟩) (Kd.R_far (p := ⟨gb140, 1, none⟩) (Kd.R_far (p := ⟨gb140, 0, none⟩) (Kd.R_far (p := ⟨gb147, 1, none⟩) (Kd.R_far (p := ⟨gb147, 0, none⟩) (Kd.R_types (Kd.R_types HO144.out BK147.out (by decide)) BK140.out (by decide)) (fun _ hk => hk.1.2) (.slice Ao10 t142.length co10)) (fun _ hk => hk.1.2) (.int .i64 t145)) (fun _ hk => hk.2) (.int .i64 0)) (fun _ hk => hk.2) (.slice Ao10 t142.length co10)) (fun _ hk => hk.2) (.int .i64 t145)) (fun _ hk => trivial), below_a⟩
  ·
   rw [if_neg c6] at H; have c6b0 : (t146 == 0) = false := beq_eq_false_iff_ne.mpr c6; have c6b1 : (t146 != 0) = true := bne_iff_ne.mpr c6; simp only [Option.some.injEq, Prod.mk.injEq] at H; obtain ⟨rfl, rfl, rfl⟩ := H
   go_enter Try.func17, Try.ntmps17
   go_wp2_with (first | ((with_reducible refine gate_dst (N := 4) rfl ?_); refine box_event ?hg (N := 4) ?hd (cs := #[.int .i64 0, .slice none 0 0, .int .i64 0]) (t := 36) ?hr ?_; (case hd => rfl); (case hg => rfl); (case hr => first | (go_simp; done) | (go_simp; rfl)); intro gb140 hg w14 hbox hb; have n0_ := Aside0.mk (below_step below_a hb); have BK140 := Aside0.mk (hbox); have GW140 := Aside0.mk (bsz_ (w := w) hg); have GE140 := Aside0.mk (bsz_ (w := w) hg); replace HB := n0_; clear n0_; clear hb hbox hg) | ((with_reducible refine gate_callee (f := 45) rfl ?_); refine goesL_ (some 11) rfl rfl Try.func45 (by kernel_rfl) rfl #[.int .i64 a1, .int .i64 0, .int .i64 (wrap64 ((l0.length : Int) - 1))] rfl args_a ?_; (with_reducible refine (spec_l1In.calls a1 0 (wrap64 ((l0.length : Int) - 1)) true _ A3.out).mono ?_); rintro e w' ⟨rfl, ⟨nd, rfl⟩⟩; refine ⟨_, rfl, ?_⟩; (try (rw [drewN_self w14]; generalize hq_ : World.drewN w14 _ = w14; have n0_ : Aside0 (w14.heap[gb140]? = some (.cells #[.int .i64 0, .slice none 0 0, .int .i64 0] 36 (0, 0))) := ⟨by rw [← hq_]; exact blk_a⟩; have n1_ : Aside0 (Below w.heap.size w w14) := ⟨by rw [← hq_]; exact below_a⟩; clear BK140 HB hq_; have BK140 := n0_; have HB := n1_; clear n0_ n1_))) | ((with_reducible refine gate_callee (f := 46) rfl ?_); refine goesL_ (some 17) rfl rfl Try.func46 (by kernel_rfl) rfl #[.slice A0 l0.length c0, .int .i64 a1] rfl args_a ?_; (with_reducible refine (spec_l10Read.calls k _ _ l0 a1 t142 t145 t146 _ ?side1 ?side2 A5.out).mono ?_); (case side1 => repeat (first | exact (Kd.C_below HR0.out HB.out) | (with_reducible refine Kd.C_alloc ?_ _) | (with_reducible refine Kd.C_drewN ?_ _) | (with_reducible refine Kd.C_drew ?_))); (case side2 => exact HC0.out); rintro e w15 ⟨v143, rfl, ho0, hb⟩; refine ⟨_, rfl, ?_⟩; have HO144 := Aside0.mk (Kd.R_lower ho0 (below_size below_a)); replace BK140 := Aside0.mk (blk_below (g := gb140) blk_c hb); replace HB := Aside0.mk (below_step below_a hb); (try clear hb); (try clear hb2); (try clear hk); (try clear hi); (try clear ho0)) | ((with_reducible refine gate_dst (N := 5) rfl ?_); refine box_event ?hg (N := 5) ?hd (cs := #[.slice none 0 0, .int .i64 0]) (t := 34) ?hr ?_; (case hd => rfl); (case hg => rfl); (case hr => first | (go_simp; done) | (go_simp; rfl)); intro gb147 hg w16 hbox hb; replace HO144 := Aside0.mk (Kd.R_below (R_a HO144.out) hb); have n1_ := Aside0.mk (blk_below (g := gb140) blk_c hb); have n2_ := Aside0.mk (below_step below_a hb); have BK147 := Aside0.mk (hbox); have GW147 := Aside0.mk (bsz_ (w := w) hg); have GE147 := Aside0.mk (bsz_ (w := w) hg); have NB140_147 := Aside0.mk (bne_ (g := gb140) hg); have NB147_140 := Aside0.mk (bne_ (g := gb140) hg).symm; replace BK140 := n1_; replace HB := n2_; clear n1_ n2_; clear hb hbox hg; obtain ⟨Ao17, co17, eo17⟩ := Kd.R_slice HO144.out; subst eo17; have hnb18 := NB147_140.out; have hnc18 := NB140_147.out; obtain ⟨hcz19_0, hcz19_1, hfz19_0, hfz19_1⟩ := bc2_ BK147.out; obtain ⟨hcz20_0, hcz20_1, hcz20_2, hfz20_0, hfz20_1, hfz20_2⟩ := bc3_ BK140.out))
   refine bodyPost_ret (results_cell_row rfl _ _ gb140 36 #[.int .i64 t146, .slice none 0 0, .int .i64 0] (0, 0) _ rfl blk_a Try.underlying36 rfl (by kernel_rfl)) rfl ?_; exact ⟨_, eq_a, by first | exact Kd.R_nil _ _ _ _ _ | exact Kd.N_nil _ _ _ _ _ | exact Kd.V_nil _ _ _ _ _ | exact Kd.Q_nil _ _ _ _ _ | exact Kd.S_nil _ _ _ _ _, below_a⟩
 ·
  replace c4 := Bool.eq_false_iff.mpr c4; subst c4; have H1 : (some (3, ([] : List ByteArray), 0)) = some (r1, r2, r3) := by rw [if_neg (show ¬ (false = true) by decide)] at H; exact H
  clear H; have H := H1; clear H1; simp only [Option.some.injEq, Prod.mk.injEq] at H; obtain ⟨rfl, rfl, rfl⟩ := H
  go_enter Try.func17, Try.ntmps17
  go_wp2_with (first | ((with_reducible refine gate_dst (N := 4) rfl ?_); refine box_event ?hg (N := 4) ?hd (cs := #[.int .i64 0, .slice none 0 0, .int .i64 0]) (t := 36) ?hr ?_; (case hd => rfl); (case hg => rfl); (case hr => first | (go_simp; done) | (go_simp; rfl)); intro gb140 hg w21 hbox hb; have n0_ := Aside0.mk (below_step below_a hb); have BK140 := Aside0.mk (hbox); have GW140 := Aside0.mk (bsz_ (w := w) hg); have GE140 := Aside0.mk (bsz_ (w := w) hg); replace HB := n0_; clear n0_; clear hb hbox hg) | ((with_reducible refine gate_callee (f := 45) rfl ?_); refine goesL_ (some 11) rfl rfl Try.func45 (by kernel_rfl) rfl #[.int .i64 a1, .int .i64 0, .int .i64 (wrap64 ((l0.length : Int) - 1))] rfl args_a ?_; (with_reducible refine (spec_l1In.calls a1 0 (wrap64 ((l0.length : Int) - 1)) false _ A3.out).mono ?_); rintro e w' ⟨rfl, ⟨nd, rfl⟩⟩; refine ⟨_, rfl, ?_⟩; (try (rw [drewN_self w21]; generalize hq_ : World.drewN w21 _ = w21; have n0_ : Aside0 (w21.heap[gb140]? = some (.cells #[.int .i64 0, .slice none 0 0, .int .i64 0] 36 (0, 0))) := ⟨by rw [← hq_]; exact blk_a⟩; have n1_ : Aside0 (Below w.heap.size w w21) := ⟨by rw [← hq_]; exact below_a⟩; clear BK140 HB hq_; have BK140 := n0_; have HB := n1_; clear n0_ n1_)); obtain ⟨hcz22_0, hcz22_1, hcz22_2, hfz22_0, hfz22_1, hfz22_2⟩ := bc3_ BK140.out))
  refine bodyPost_ret (results_cell_row rfl _ _ gb140 36 #[.int .i64 3, .slice none 0 0, .int .i64 0] (0, 0) _ rfl blk_a Try.underlying36 rfl (by kernel_rfl)) rfl ?_; exact ⟨_, eq_a, by first | exact Kd.R_nil _ _ _ _ _ | exact Kd.N_nil _ _ _ _ _ | exact Kd.V_nil _ _ _ _ _ | exact Kd.Q_nil _ _ _ _ _ | exact Kd.S_nil _ _ _ _ _, below_a⟩

/-! ### impl_ReadName: function 19 -/
mutual
def impl_ReadName.l0 : Nat → List Int → Int → Int → Int → List ByteArray → Int → Option (Int × List ByteArray × Int)
 | 0, _, _, _, _, _, _ => none
 | k + 1, x0, x6, x7, x151000, x151001, x151002 => if x6 < (x0.length : Int) then (if 0 ≤ x6 then (if (wrap64 (rd x0 x6)) = 0 then (if x7 = 0 then (some (x151000, x151001, wrap64 (x6 + 1))) else (some (x151000, x151001, x151002))) else (if (wrap64 (rd x0 x6)) ≤ 20 then (if (wrap64 ((wrap64 (x6 + 1)) + (wrap64 (rd x0 x6)))) > (x0.length : Int) then (impl_ReadName.j1 k x0 x6 x7 (wrap64 ((wrap64 (x6 + 1)) + (wrap64 (rd x0 x6)))) true x151000 x151001 x151002) else (if 0 ≤ (wrap64 (x6 + 1)) then (if (wrap64 (x6 + 1)) ≤ (wrap64 ((wrap64 (x6 + 1)) + (wrap64 (rd x0 x6)))) then (if (wrap64 ((wrap64 (x6 + 1)) + (wrap64 (rd x0 x6)))) ≤ (x0.length : Int) then ((impl_isLabel.f k (strOfNums ((x0.take ((wrap64 ((wrap64 (x6 + 1)) + (wrap64 (rd x0 x6)))) : Int).toNat).drop ((wrap64 (x6 + 1)) : Int).toNat))).bind fun t153 => (impl_ReadName.j1 k x0 x6 x7 (wrap64 ((wrap64 (x6 + 1)) + (wrap64 (rd x0 x6)))) (!t153) x151000 x151001 x151002)) else (none)) else (none)) else (none))) else (if (wrap64 (rd x0 x6)) ≥ 192 then (impl_ReadName.j2 k x0 x6 x7 (wrap64 (rd x0 x6)) (decide ((wrap64 (x6 + 1)) < (x0.length : Int))) x151000 x151001 x151002) else (impl_ReadName.j2 k x0 x6 x7 (wrap64 (rd x0 x6)) false x151000 x151001 x151002)))) else (none)) else (some (5, ([] : List ByteArray), 0))
def impl_ReadName.j1 : Nat → List Int → Int → Int → Int → Bool → Int → List ByteArray → Int → Option (Int × List ByteArray × Int)
 | 0, _, _, _, _, _, _, _, _ => none
 | k + 1, x0, x6, x7, x9, x60, x151000, x151001, x151002 => if x60 = true then (some (5, ([] : List ByteArray), 0)) else (if (x151001.length : Int) = 6 then (some (2, ([] : List ByteArray), 0)) else (if 0 ≤ (wrap64 (x6 + 1)) then (if (wrap64 (x6 + 1)) ≤ x9 then (if x9 ≤ (x0.length : Int) then (if x151001.length < 8796093022208 then (impl_ReadName.l0 k x0 x9 x7 x151000 (x151001 ++ [strOfNums ((x0.take (x9 : Int).toNat).drop ((wrap64 (x6 + 1)) : Int).toNat)]) x151002) else (none)) else (none)) else (none)) else (none)))
def impl_ReadName.j2 : Nat → List Int → Int → Int → Int → Bool → Int → List ByteArray → Int → Option (Int × List ByteArray × Int)
 | 0, _, _, _, _, _, _, _, _ => none
 | k + 1, x0, x6, x7, x8, x82, x151000, x151001, x151002 => if x82 = true then (if 0 ≤ (wrap64 (x6 + 1)) then (if (wrap64 (x6 + 1)) < (x0.length : Int) then (if x7 = 0 then (if (wrap64 ((wrap64 ((wrap64 (x8 - 192)) * 256)) + (wrap64 (rd x0 (wrap64 (x6 + 1)))))) ≥ x6 then (some (5, ([] : List ByteArray), 0)) else (if (wrap64 (x7 + 1)) > 5 then (some (5, ([] : List ByteArray), 0)) else (impl_ReadName.l0 k x0 (wrap64 ((wrap64 ((wrap64 (x8 - 192)) * 256)) + (wrap64 (rd x0 (wrap64 (x6 + 1)))))) (wrap64 (x7 + 1)) x151000 x151001 (wrap64 (x6 + 2))))) else (if (wrap64 ((wrap64 ((wrap64 (x8 - 192)) * 256)) + (wrap64 (rd x0 (wrap64 (x6 + 1)))))) ≥ x6 then (some (5, ([] : List ByteArray), 0)) else (if (wrap64 (x7 + 1)) > 5 then (some (5, ([] : List ByteArray), 0)) else (impl_ReadName.l0 k x0 (wrap64 ((wrap64 ((wrap64 (x8 - 192)) * 256)) + (wrap64 (rd x0 (wrap64 (x6 + 1)))))) (wrap64 (x7 + 1)) x151000 x151001 x151002)))) else (none)) else (none)) else (some (5, ([] : List ByteArray), 0))
end
def impl_ReadName.f (k : Nat) (l0 : List Int) (a1 : Int) : Option (Int × List ByteArray × Int) := (impl_in.f a1 0 (wrap64 ((l0.length : Int) - 1))).bind fun t149 => (if t149 = true then (impl_ReadName.l0 k l0 a1 0 0 ([] : List ByteArray) 0) else (some (3, ([] : List ByteArray), 0)))
theorem impl_ReadName.mono_l : ∀ k, (∀ y0 y1 y2 y3 y4 y5, LeO (impl_ReadName.l0 k y0 y1 y2 y3 y4 y5) (impl_ReadName.l0 (k + 1) y0 y1 y2 y3 y4 y5)) ∧ (∀ y0 y1 y2 y3 y4 y5 y6 y7, LeO (impl_ReadName.j1 k y0 y1 y2 y3 y4 y5 y6 y7) (impl_ReadName.j1 (k + 1) y0 y1 y2 y3 y4 y5 y6 y7)) ∧ (∀ y0 y1 y2 y3 y4 y5 y6 y7, LeO (impl_ReadName.j2 k y0 y1 y2 y3 y4 y5 y6 y7) (impl_ReadName.j2 (k + 1) y0 y1 y2 y3 y4 y5 y6 y7))
 | 0 => ⟨fun _ _ _ _ _ _ r h => by simp [impl_ReadName.l0] at h, fun _ _ _ _ _ _ _ _ r h => by simp [impl_ReadName.j1] at h, fun _ _ _ _ _ _ _ _ r h => by simp [impl_ReadName.j2] at h⟩
 | k + 1 => by
  obtain ⟨ih0, ih1, ih2⟩ := impl_ReadName.mono_l k; refine ⟨?_, ?_, ?_⟩
  ·
   intro y0 y1 y2 y3 y4 y5
   unfold impl_ReadName.l0
   repeat' first
   | (with_reducible exact ih0 _ _ _ _ _ _)
   | (with_reducible exact ih1 _ _ _ _ _ _ _ _)
   | (with_reducible exact ih2 _ _ _ _ _ _ _ _)
   | (with_reducible exact impl_isLabel.mono _ _)
   | (with_reducible exact LeO.refl _)
   | (with_reducible exact LeO.none _)
   | (with_reducible refine LeO.ite ?_ ?_)
   | (with_reducible refine LeO.bind ?_ (fun _ => ?_))
   | exact ih0 _ _ _ _ _ _
   | exact ih1 _ _ _ _ _ _ _ _
   | exact ih2 _ _ _ _ _ _ _ _
   | exact impl_isLabel.mono _ _
   | exact LeO.none _
   | refine LeO.ite ?_ ?_
   | refine LeO.bind ?_ (fun _ => ?_)
  ·
   intro y0 y1 y2 y3 y4 y5 y6 y7
   unfold impl_ReadName.j1
   repeat' first
   | (with_reducible exact ih0 _ _ _ _ _ _)
   | (with_reducible exact ih1 _ _ _ _ _ _ _ _)
   | (with_reducible exact ih2 _ _ _ _ _ _ _ _)
   | (with_reducible exact impl_isLabel.mono _ _)
   | (with_reducible exact LeO.refl _)
   | (with_reducible exact LeO.none _)
   | (with_reducible refine LeO.ite ?_ ?_)
   | (with_reducible refine LeO.bind ?_ (fun _ => ?_))
   | exact ih0 _ _ _ _ _ _
   | exact ih1 _ _ _ _ _ _ _ _
   | exact ih2 _ _ _ _ _ _ _ _
   | exact impl_isLabel.mono _ _
   | exact LeO.none _
   | refine LeO.ite ?_ ?_
   | refine LeO.bind ?_ (fun _ => ?_)
  ·
   intro y0 y1 y2 y3 y4 y5 y6 y7
   unfold impl_ReadName.j2
   repeat' first
   | (with_reducible exact ih0 _ _ _ _ _ _)
   | (with_reducible exact ih1 _ _ _ _ _ _ _ _)
   | (with_reducible exact ih2 _ _ _ _ _ _ _ _)
   | (with_reducible exact impl_isLabel.mono _ _)
   | (with_reducible exact LeO.refl _)
   | (with_reducible exact LeO.none _)
   | (with_reducible refine LeO.ite ?_ ?_)
   | (with_reducible refine LeO.bind ?_ (fun _ => ?_))
   | exact ih0 _ _ _ _ _ _
   | exact ih1 _ _ _ _ _ _ _ _
   | exact ih2 _ _ _ _ _ _ _ _
   | exact impl_isLabel.mono _ _
   | exact LeO.none _
   | refine LeO.ite ?_ ?_
   | refine LeO.bind ?_ (fun _ => ?_)
theorem impl_ReadName.mono : ∀ a0 a1 k, LeO (impl_ReadName.f k a0 a1) (impl_ReadName.f (k + 1) a0 a1) := by
 intro a0 a1 k
 obtain ⟨ih0, ih1, ih2⟩ := impl_ReadName.mono_l k
 unfold impl_ReadName.f
 repeat' first
   | (with_reducible exact ih0 _ _ _ _ _ _)
   | (with_reducible exact ih1 _ _ _ _ _ _ _ _)
   | (with_reducible exact ih2 _ _ _ _ _ _ _ _)
   | (with_reducible exact impl_isLabel.mono _ _)
   | (with_reducible exact LeO.refl _)
   | (with_reducible exact LeO.none _)
   | (with_reducible refine LeO.ite ?_ ?_)
   | (with_reducible refine LeO.bind ?_ (fun _ => ?_))
   | exact ih0 _ _ _ _ _ _
   | exact ih1 _ _ _ _ _ _ _ _
   | exact ih2 _ _ _ _ _ _ _ _
   | exact impl_isLabel.mono _ _
   | exact LeO.none _
   | refine LeO.ite ?_ ?_
   | refine LeO.bind ?_ (fun _ => ?_)
def impl_ReadName.T18 : Bool × List (List Nat × List Nat) := (true, [([], []), ([0], [0]), ([1], [1]), ([], []), ([], []), ([4], [4]), ([], []), ([3, 5, 6], [3, 5, 6]), ([7], [7]), ([8], [8]), ([2, 9], [2, 9]), ([0, 1, 2, 3, 4, 5, 6, 7, 8, 9, 10], []), ([11, 0, 1, 2, 3, 4, 5, 6, 7, 8, 9, 10], [11]), ([12, 10, 10, 0, 1, 2, 3, 4, 5, 6, 7, 8, 9, 10], [10, 12])])
def impl_ReadName.B18 : List Nat := [0, 1, 3, 0, 0, 16, 0, 120, 248, 504, 1023, 2047, 4095, 8191]
theorem impl_ReadName.tab18 : rtab .any (opsOf Try.f19 18) = impl_ReadName.T18 := by kernel_rfl
theorem impl_ReadName.bits18 : waitsOk impl_ReadName.T18.2 impl_ReadName.B18 = true := by kernel_rfl
set_option maxHeartbeats 8000000 in
set_option maxRecDepth 100000 in
theorem impl_ReadName.calls (k : Nat) (A0 : Option Addr) (c0 : Nat) (l0 : List Int) (a1 : Int) (r1 : Int) (r2 : List ByteArray) (r3 : Int) (w : World) (hr0 : Kd.C (Kd.int .u8) w A0 l0.length l0) (hc0 : l0.length ≤ c0) (h : impl_ReadName.f k l0 a1 = some (r1, r2, r3)) :
  Calls Try.prog 19 #[.slice A0 l0.length c0, .int .i64 a1] w fun e w' => ∃ v1_ : Value, e = .returned (.agg #[.int .i64 r1, v1_, .int .i64 r3]) ∧ Kd.R Kd.string 9 w' w.heap.size (fun _ => True) v1_ r2 ∧ Below w.heap.size w w' := by
 have hu36 := Try.underlying36
 have HR0 := Aside0.mk hr0
 have HC0 := Aside0.mk hc0
 clear hr0 hc0
 have HB := Aside0.mk (Below.refl w.heap.size w)
 have H : ((impl_in.f a1 0 (wrap64 ((l0.length : Int) - 1))).bind fun t149 => (if t149 = true then (impl_ReadName.l0 k l0 a1 0 0 ([] : List ByteArray) 0) else (some (3, ([] : List ByteArray), 0)))) = some (r1, r2, r3) := h
 clear h
 replace H := Option.bind_eq_some_iff.mp H
 obtain ⟨t149, A30, H⟩ := H
 replace H : (if t149 = true then (impl_ReadName.l0 k l0 a1 0 0 ([] : List ByteArray) 0) else (some (3, ([] : List ByteArray), 0))) = some (r1, r2, r3) := H
 have A3 := Aside0.mk A30
 clear A30
 by_cases c4 : t149 = true
 ·
  subst c4; have H1 : (impl_ReadName.l0 k l0 a1 0 0 ([] : List ByteArray) 0) = some (r1, r2, r3) := by rw [if_pos rfl] at H; exact H
  clear H; have H := H1; clear H1; have H' := Aside0.mk H; clear H
  go_enter Try.func19, Try.ntmps19
  go_wp2_with (first | ((with_reducible refine gate_dst (N := 4) rfl ?_); (try (refine gate_guard (by rfl) ?_; dsimp only)); refine box_event ?hg (N := 4) ?hd (cs := #[.int .i64 0, .slice none 0 0, .int .i64 0]) (t := 36) ?hr ?_; (case hd => rfl); (case hg => rfl); (case hr => first | (go_simp; done) | (go_simp; rfl)); intro gb148 hg w5 hbox hb; have n0_ := Aside0.mk (below_step below_a hb); have BK148 := Aside0.mk (hbox); have GW148 := Aside0.mk (bsz_ (w := w) hg); have GE148 := Aside0.mk (bsz_ (w := w) hg); replace HB := n0_; clear n0_; clear hb hbox hg) | ((with_reducible refine gate_callee (f := 47) rfl ?_); refine goesL_ (some 15) rfl rfl Try.func47 (by kernel_rfl) rfl #[.int .i64 a1, .int .i64 0, .int .i64 (wrap64 ((l0.length : Int) - 1))] rfl args_a ?_; (with_reducible refine (impl_in.calls a1 0 (wrap64 ((l0.length : Int) - 1)) true _ A3.out).mono ?_); rintro e w' ⟨rfl, ⟨nd, rfl⟩⟩; refine ⟨_, rfl, ?_⟩; (try (rw [drewN_self w5]; generalize hq_ : World.drewN w5 _ = w5; have n0_ : Aside0 (w5.heap[gb148]? = some (.cells #[.int .i64 0, .slice none 0 0, .int .i64 0] 36 (0, 0))) := ⟨by rw [← hq_]; exact blk_a⟩; have n1_ : Aside0 (Below w.heap.size w w5) := ⟨by rw [← hq_]; exact below_a⟩; clear BK148 HB hq_; have BK148 := n0_; have HB := n1_; clear n0_ n1_))) | ((with_reducible refine gate_dst (N := 5) rfl ?_); (try (refine gate_guard (by rfl) ?_; dsimp only)); refine box_event ?hg (N := 5) ?hd (cs := #[.int .i64 0, .slice none 0 0, .int .i64 0]) (t := 36) ?hr ?_; (case hd => rfl); (case hg => rfl); (case hr => first | (go_simp; done) | (go_simp; rfl)); intro gb150 hg w6 hbox hb; have n0_ := Aside0.mk (blk_below (g := gb148) blk_c hb); have n1_ := Aside0.mk (below_step below_a hb); have BK150 := Aside0.mk (hbox); have GW150 := Aside0.mk (bsz_ (w := w) hg); have GE150 := Aside0.mk (bsz_ (w := w) hg); have NB148_150 := Aside0.mk (bne_ (g := gb148) hg); have NB150_148 := Aside0.mk (bne_ (g := gb148) hg).symm; replace BK148 := n0_; replace HB := n1_; clear n0_ n1_; clear hb hbox hg; have hnb7 := NB150_148.out; have hnc7 := NB148_150.out; obtain ⟨hcz8_0, hcz8_1, hcz8_2, hfz8_0, hfz8_1, hfz8_2⟩ := bc3_ BK150.out))
  go_loopg [6, 7] k (fun kq v6 v7 w' => ∃ (x6_1 : Int) (x7_1 : Int) (x149000_1 : Int) (x149002_1 : Int) (x151001_1 : List ByteArray) (x151002_1 : Int) (u151001 : Value), v6 = .int .i64 x6_1 ∧ v7 = .int .i64 x7_1 ∧ Aside0 (impl_ReadName.l0 kq l0 x6_1 x7_1 0 x151001_1 x151002_1 = some (r1, r2, r3)) ∧ Aside0 (kq ≤ k) ∧ Aside0 (Kd.R Kd.string 9 w' w.heap.size (fun _ => True) u151001 x151001_1) ∧ Aside0 (w'.heap[gb148]? = some (.cells #[.int .i64 x149000_1, (.slice none 0 0), .int .i64 x149002_1] 36 (0, 0))) ∧ Aside0 (w'.heap[gb150]? = some (.cells #[.int .i64 0, u151001, .int .i64 x151002_1] 36 (0, 0))) ∧ Aside0 (Below w.heap.size w w'))
  case atStart => exact ⟨(a1), (0), (0), (0), (([] : List ByteArray)), (0), (.slice none 0 0), eq_b, eq_b, H', ⟨Nat.le_refl _⟩, ⟨by first | exact Kd.R_nil _ _ _ _ _ | exact Kd.N_nil _ _ _ _ _ | exact Kd.V_nil _ _ _ _ _ | exact Kd.Q_nil _ _ _ _ _ | exact Kd.S_nil _ _ _ _ _⟩, ⟨blk_a⟩, ⟨blk_a⟩, ⟨below_a⟩⟩
  case round =>
   clear H'
   try clear c1
   try clear p2
   try clear c4
   try clear p6
   try clear c7
   try clear hcz8_0 hcz8_1 hcz8_2
   try clear hfz8_0 hfz8_1 hfz8_2
   obtain ⟨x6_1, x7_1, x149000_1, x149002_1, x151001_1, x151002_1, u151001, rfl, rfl, HA, HK1, HO_151001, BK148, BK150, HB⟩ := hrel
   cases gk with
   | zero => exact absurd HA.out (by simp [impl_ReadName.l0])
   | succ k1 =>
    have H := HA.out; clear HA; simp only [impl_ReadName.l0] at H
    by_cases c9 : x6_1 < (l0.length : Int)
    ·
     rw [if_pos c9] at H; have c9b0 : decide (x6_1 < (l0.length : Int)) = true := decide_eq_true c9; clear c9
     by_cases c10 : 0 ≤ x6_1
     ·
      rw [if_pos c10] at H; have c10b0 : decide (0 ≤ x6_1) = true := decide_eq_true c10; clear c10
      by_cases c11 : (wrap64 (rd l0 x6_1)) = 0
      ·
       rw [if_pos c11] at H; have c11b0 : ((wrap64 (rd l0 x6_1)) == 0) = true := beq_iff_eq.mpr c11; have c11b1 : ((wrap64 (rd l0 x6_1)) != 0) = false := bne_eq_false_iff_eq.mpr c11; (try (have c11b2 : ((IntKind.i64.wrap (rd l0 x6_1)) == 0) = true := by simp only [i64_w]; exact beq_iff_eq.mpr c11)); (try (have c11b3 : ((IntKind.i64.wrap (rd l0 x6_1)) != 0) = false := by simp only [i64_w]; exact bne_eq_false_iff_eq.mpr c11)); clear c11
       by_cases c12 : x7_1 = 0
       ·
        rw [if_pos c12] at H; have c12b0 : (x7_1 == 0) = true := beq_iff_eq.mpr c12; have c12b1 : (x7_1 != 0) = false := bne_eq_false_iff_eq.mpr c12; clear c12; simp only [Option.some.injEq, Prod.mk.injEq] at H; obtain ⟨rfl, rfl, rfl⟩ := H; have p151 : 0 ≤ (x6_1 : Int) := of_decide_eq_true (by first | (with_reducible assumption) | assumption); have q151 : x6_1 < (l0.length : Int) := of_decide_eq_true (by first | (with_reducible assumption) | assumption); obtain ⟨ad151, e151, hx151_0⟩ := Kd.at_int HR0.out x6_1 p151 q151
        cases e151
        replace hx151_0 := (HB.out.cell (World.block_lt_of_cell? w _ hx151_0)).trans hx151_0; replace p151 := eq_true p151; replace q151 := eq_true q151; have hnb13 := NB150_148.out; have hnc13 := NB148_150.out; obtain ⟨hcz14_0, hcz14_1, hcz14_2, hfz14_0, hfz14_1, hfz14_2⟩ := bc3_ BK150.out; obtain ⟨hcz15_0, hcz15_1, hcz15_2, hfz15_0, hfz15_1, hfz15_2⟩ := bc3_ BK148.out; obtain ⟨Ao16, co16, eo16⟩ := Kd.R_slice HO_151001.out; subst eo16
        go_wp2
        try simp only [i64_w]
        refine bodyPost_ret (results_cell_row rfl _ _ gb148 36 #[.int .i64 0, .slice Ao16 x151001_1.length co16, .int .i64 (wrap64 (x6_1 + 1))] (0, 0) _ rfl blk_a Try.underlying36 rfl (by kernel_rfl)) rfl ?_; exact ⟨_, eq_a, by (with_reducible repeat (first | apply Kd.R_alloc | apply Kd.R_drewN | apply Kd.R_drew)); exact Kd.R_mono (Kd.R_far (p := ⟨gb148, 2, none⟩) (Kd.R_far (p := ⟨gb148, 1, none⟩) (Kd.R_far (p := ⟨gb148, 0, none⟩) (Kd.R_far (p := ⟨gb150, 2, none⟩) (Kd.R_types (Kd.R_types HO_151001.out BK150.out (by decide)) BK148.out (by decide)) (fun _ hk => hk.1.2) (.int .i64 (wrap64 (x6_1 + 1)))) (fun _ hk => hk.2) (.int .i64 0)) (fun _ hk => hk.2) (.slice Ao16 x151001_1.length co16)) (fun _ hk => hk.2) (.int .i64 (wrap64 (x6_1 + 1)))) (fun _ hk => trivial), below_a⟩
       ·
        rw [if_neg c12] at H; have c12b0 : (x7_1 == 0) = false := beq_eq_false_iff_ne.mpr c12; have c12b1 : (x7_1 != 0) = true := bne_iff_ne.mpr c12; simp only [Option.some.injEq, Prod.mk.injEq] at H; obtain ⟨rfl, rfl, rfl⟩ := H; have p151 : 0 ≤ (x6_1 : Int) := of_decide_eq_true (by first | (with_reducible assumption) | assumption); have q151 : x6_1 < (l0.length : Int) := of_decide_eq_true (by first | (with_reducible assumption) | assumption); obtain ⟨ad151, e151, hx151_0⟩ := Kd.at_int HR0.out x6_1 p151 q151
        cases e151
        replace hx151_0 := (HB.out.cell (World.block_lt_of_cell? w _ hx151_0)).trans hx151_0; replace p151 := eq_true p151; replace q151 := eq_true q151; have hnb17 := NB150_148.out; have hnc17 := NB148_150.out; obtain ⟨hcz18_0, hcz18_1, hcz18_2, hfz18_0, hfz18_1, hfz18_2⟩ := bc3_ BK150.out; obtain ⟨hcz19_0, hcz19_1, hcz19_2, hfz19_0, hfz19_1, hfz19_2⟩ := bc3_ BK148.out; obtain ⟨Ao20, co20, eo20⟩ := Kd.R_slice HO_151001.out; subst eo20
        go_wp2
        refine bodyPost_ret (results_cell_row rfl _ _ gb148 36 #[.int .i64 0, .slice Ao20 x151001_1.length co20, .int .i64 x151002_1] (0, 0) _ rfl blk_a Try.underlying36 rfl (by kernel_rfl)) rfl ?_; exact ⟨_, eq_a, by (with_reducible repeat (first | apply Kd.R_alloc | apply Kd.R_drewN | apply Kd.R_drew)); exact Kd.R_mono (Kd.R_far (p := ⟨gb148, 2, none⟩) (Kd.R_far (p := ⟨gb148, 1, none⟩) (Kd.R_far (p := ⟨gb148, 0, none⟩) (Kd.R_types HO_151001.out BK148.out (by decide)) (fun _ hk => hk.2) (.int .i64 0)) (fun _ hk => hk.2) (.slice Ao20 x151001_1.length co20)) (fun _ hk => hk.2) (.int .i64 x151002_1)) (fun _ hk => trivial), below_a⟩
      ·
       rw [if_neg c11] at H; have c11b0 : ((wrap64 (rd l0 x6_1)) == 0) = false := beq_eq_false_iff_ne.mpr c11; have c11b1 : ((wrap64 (rd l0 x6_1)) != 0) = true := bne_iff_ne.mpr c11; (try (have c11b2 : ((IntKind.i64.wrap (rd l0 x6_1)) == 0) = false := by simp only [i64_w]; exact beq_eq_false_iff_ne.mpr c11)); (try (have c11b3 : ((IntKind.i64.wrap (rd l0 x6_1)) != 0) = true := by simp only [i64_w]; exact bne_iff_ne.mpr c11))
       by_cases c21 : (wrap64 (rd l0 x6_1)) ≤ 20
       ·
        rw [if_pos c21] at H; have c21b0 : decide ((wrap64 (rd l0 x6_1)) ≤ 20) = true := decide_eq_true c21; (try (have c21b1 : decide ((IntKind.i64.wrap (rd l0 x6_1)) ≤ 20) = true := by simp only [i64_w]; exact decide_eq_true c21)); clear c21; have HC22 := Aside0.mk H; clear H; have p151 : 0 ≤ (x6_1 : Int) := of_decide_eq_true (by first | (with_reducible assumption) | assumption); have q151 : x6_1 < (l0.length : Int) := of_decide_eq_true (by first | (with_reducible assumption) | assumption); obtain ⟨ad151, e151, hx151_0⟩ := Kd.at_int HR0.out x6_1 p151 q151
        cases e151
        replace hx151_0 := (HB.out.cell (World.block_lt_of_cell? w _ hx151_0)).trans hx151_0; replace p151 := eq_true p151; replace q151 := eq_true q151
        go_upto_region 14 with (fail)
        go_cut [60] (fun v60 wc => ∃ (kq : Nat) (x60_21 : Bool), v60 = .bool x60_21 ∧ Aside0 (impl_ReadName.j1 kq l0 x6_1 x7_1 (wrap64 ((wrap64 (x6_1 + 1)) + (wrap64 (rd l0 x6_1)))) x60_21 0 x151001_1 x151002_1 = some (r1, r2, r3)) ∧ Aside0 (kq ≤ k1) ∧ Aside0 (Kd.R Kd.string 9 wc w.heap.size (fun _ => True) u151001 x151001_1) ∧ Aside0 (wc.heap[gb148]? = some (.cells #[.int .i64 x149000_1, (.slice none 0 0), .int .i64 x149002_1] 36 (0, 0))) ∧ Aside0 (wc.heap[gb150]? = some (.cells #[.int .i64 0, u151001, .int .i64 x151002_1] 36 (0, 0))) ∧ Aside0 (Below w.heap.size w wc))
        case first =>
         have H := HC22.out; clear HC22
         by_cases c23 : (wrap64 ((wrap64 (x6_1 + 1)) + (wrap64 (rd l0 x6_1)))) > (l0.length : Int)
         ·
          rw [if_pos c23] at H; have c23b0 : decide ((l0.length : Int) < (wrap64 ((wrap64 (x6_1 + 1)) + (wrap64 (rd l0 x6_1))))) = true := decide_eq_true c23; (try (have c23b1 : decide ((l0.length : Int) < (IntKind.i64.wrap ((IntKind.i64.wrap (x6_1 + 1)) + (IntKind.i64.wrap (rd l0 x6_1))))) = true := by simp only [i64_w]; exact decide_eq_true c23)); clear c23; (first | rw [c23b0] | (simp only [i64_w, i32_w]; rw [c23b0]) | skip); have H' := Aside0.mk H; clear H
          go_wp2
          go_meet
          case rel => exact ⟨_, (true), eq_b, H', ⟨by have := HK1.out; first | omega | exact Nat.le_refl _⟩, ⟨R_a HO_151001.out⟩, ⟨blk_a⟩, ⟨blk_a⟩, ⟨below_a⟩⟩
         ·
          rw [if_neg c23] at H; have c23b0 : decide ((l0.length : Int) < (wrap64 ((wrap64 (x6_1 + 1)) + (wrap64 (rd l0 x6_1))))) = false := decide_eq_false c23; (try (have c23b1 : decide ((l0.length : Int) < (IntKind.i64.wrap ((IntKind.i64.wrap (x6_1 + 1)) + (IntKind.i64.wrap (rd l0 x6_1))))) = false := by simp only [i64_w]; exact decide_eq_false c23)); clear c23; (first | rw [c23b0] | (simp only [i64_w, i32_w]; rw [c23b0]) | skip); obtain ⟨ji24, hji24⟩ : ∃ j_ : Int, (wrap64 (x6_1 + 1)) = j_ := ⟨_, rfl⟩; replace H : (if 0 ≤ (ji24) then (if (ji24) ≤ (wrap64 ((ji24) + (wrap64 (rd l0 x6_1)))) then (if (wrap64 ((ji24) + (wrap64 (rd l0 x6_1)))) ≤ (l0.length : Int) then ((impl_isLabel.f k1 (strOfNums ((l0.take ((wrap64 ((ji24) + (wrap64 (rd l0 x6_1)))) : Int).toNat).drop ((ji24) : Int).toNat))).bind fun t153 => (impl_ReadName.j1 k1 l0 x6_1 x7_1 (wrap64 ((ji24) + (wrap64 (rd l0 x6_1)))) (!t153) 0 x151001_1 x151002_1)) else (none)) else (none)) else (none)) = some (r1, r2, r3) := by first | (rw [hji24] at H; exact H) | (simp only [hji24] at H ⊢; exact H)
          (try rw [hji24] at c23b0); have hji24w : (IntKind.i64.wrap (x6_1 + 1)) = ji24 := (i64_w _).trans hji24
          by_cases c25 : 0 ≤ (ji24)
          ·
           rw [if_pos c25] at H; have c25b0 := eq_true c25; have c25b1 : decide (0 ≤ (ji24)) = true := decide_eq_true c25; clear c25
           by_cases c26 : (ji24) ≤ (wrap64 ((ji24) + (wrap64 (rd l0 x6_1))))
           ·
            rw [if_pos c26] at H; have c26b0 := eq_true c26; have c26b1 : decide ((ji24) ≤ (wrap64 ((ji24) + (wrap64 (rd l0 x6_1))))) = true := decide_eq_true c26
            by_cases c27 : (wrap64 ((ji24) + (wrap64 (rd l0 x6_1)))) ≤ (l0.length : Int)
            ·
             rw [if_pos c27] at H; have c27b0 := eq_true c27; have c27b1 : decide ((wrap64 ((ji24) + (wrap64 (rd l0 x6_1)))) ≤ (l0.length : Int)) = true := decide_eq_true c27; replace H := Option.bind_eq_some_iff.mp H; obtain ⟨t153, A280, H⟩ := H; replace H : (impl_ReadName.j1 k1 l0 x6_1 x7_1 (wrap64 ((ji24) + (wrap64 (rd l0 x6_1)))) (!t153) 0 x151001_1 x151002_1) = some (r1, r2, r3) := H; have A28 := Aside0.mk A280; clear A280; have H' := Aside0.mk H; clear H; obtain ⟨i029, hi029, _, hsz29, _⟩ := info_parts info5; obtain ⟨A29, hcut29, hA29, hC29⟩ := print_mid_of (P := Try.prog) (Value.int .u8) 0 24 5 .i64 .i64 Try.underlying24 hi029 hsz29 (some ad151) c0 l0 (ji24) (wrap64 ((ji24) + (wrap64 (rd l0 x6_1)))) (of_decide_eq_true (by first | (with_reducible assumption) | assumption)) (by first | omega | exact of_decide_eq_true (by first | (with_reducible assumption) | assumption)) (of_decide_eq_true (by first | (with_reducible assumption) | assumption)) HC0.out; have HR152 := Aside0.mk (Kd.C_of_reads (h1 := fun _ => rfl) (hA29 _ (Kd.reads_of_C HR0.out))); have HC152 := Aside0.mk hC29; clear hA29 hC29 hi029 hsz29; have hcv30 := Kd.C_string (P := Try.prog) (A := A29) (c := (c0 - (ji24).toNat)) Try.underlying24 Try.underlying5 Try.underlying9 (Kd.C_below HR152.out HB.out); have hlN30 : ((l0.take ((wrap64 ((ji24) + (wrap64 (rd l0 x6_1)))) : Int).toNat).drop ((ji24) : Int).toNat).length = ((wrap64 ((ji24) + (wrap64 (rd l0 x6_1)))) : Int).toNat - ((ji24) : Int).toNat := (by have h1_ : ((wrap64 ((ji24) + (wrap64 (rd l0 x6_1)))) : Int) ≤ (l0.length : Int) := of_decide_eq_true (by first | (with_reducible assumption) | assumption); rw [List.length_drop, List.length_take]; omega); have hcw30 := hcv30; rw [hlN30] at hcw30; clear hlN30
             go_wp2_with (first | (go_at_call 42; (with_reducible refine (impl_isLabel.calls k1 (strOfNums ((l0.take ((wrap64 ((ji24) + (wrap64 (rd l0 x6_1)))) : Int).toNat).drop ((ji24) : Int).toNat)) t153 _ A28.out).mono ?_); rintro e w' ⟨rfl, ⟨nd, rfl⟩⟩))
             (try subst hji24)
             go_meet
             case rel => exact ⟨_, (!t153), eq_b, H', ⟨by have := HK1.out; first | omega | exact Nat.le_refl _⟩, ⟨R_a HO_151001.out⟩, ⟨blk_a⟩, ⟨blk_a⟩, ⟨below_a⟩⟩
            ·
             rw [if_neg c27] at H; exact absurd H (by simp)
           ·
            rw [if_neg c26] at H; exact absurd H (by simp)
          ·
           rw [if_neg c25] at H; exact absurd H (by simp)
        case rest =>
         clear HC22
         try clear c1
         try clear p1
         try clear q1
         try clear hx1
         try clear c2
         try clear p2 p2
         try clear hcv3
         try clear c4
         try clear p6 p6
         try clear c7
         try clear c9 c9b0
         try clear c10 c10b0
         try clear c11 c11b0 c11b1 c11b2
         try clear c12 c12b0 c12b1
         try clear c13
         try clear p15
         try clear q15
         try clear hx15
         try clear c17
         try clear c19
         try clear c21 c21b0 c21b1
         try clear c23 c23b0 c23b1
         try clear c25 c25b0 c25b1
         try clear c26 c26b0 c26b1
         try clear c27 c27b0 c27b1
         try clear hcv30
         try clear hcz14_0 hcz14_1 hcz14_2
         try clear hcz15_0 hcz15_1 hcz15_2
         try clear hcz18_0 hcz18_1 hcz18_2
         try clear hcz19_0 hcz19_1 hcz19_2
         try clear hcz8_0 hcz8_1 hcz8_2
         try clear hfz14_0 hfz14_1 hfz14_2
         try clear hfz15_0 hfz15_1 hfz15_2
         try clear hfz18_0 hfz18_1 hfz18_2
         try clear hfz19_0 hfz19_1 hfz19_2
         try clear hfz8_0 hfz8_1 hfz8_2
         try clear hx151_0
         try clear p151
         try clear q151
         obtain ⟨kq, x60_21, rfl, HA, HJ21, HO_151001, BK148, BK150, HB⟩ := hcut
         cases kq with
         | zero => exact absurd HA.out (by simp [impl_ReadName.j1])
         | succ kj21 =>
          have H := HA.out; clear HA; simp only [impl_ReadName.j1] at H
          by_cases c31 : x60_21 = true
          ·
           subst c31; have H1 : (some (5, ([] : List ByteArray), 0)) = some (r1, r2, r3) := by rw [if_pos rfl] at H; exact H
           clear H; have H := H1; clear H1; simp only [Option.some.injEq, Prod.mk.injEq] at H; obtain ⟨rfl, rfl, rfl⟩ := H; have hnb32 := NB148_150.out; have hnc32 := NB150_148.out; obtain ⟨hcz33_0, hcz33_1, hcz33_2, hfz33_0, hfz33_1, hfz33_2⟩ := bc3_ BK148.out
           go_wp2
           refine bodyPost_ret (results_cell_row rfl _ _ gb148 36 #[.int .i64 5, .slice none 0 0, .int .i64 0] (0, 0) _ rfl blk_a Try.underlying36 rfl (by kernel_rfl)) rfl ?_; exact ⟨_, eq_a, by first | exact Kd.R_nil _ _ _ _ _ | exact Kd.N_nil _ _ _ _ _ | exact Kd.V_nil _ _ _ _ _ | exact Kd.Q_nil _ _ _ _ _ | exact Kd.S_nil _ _ _ _ _, below_a⟩
          ·
           replace c31 := Bool.eq_false_iff.mpr c31; subst c31; have H1 : (if (x151001_1.length : Int) = 6 then (some (2, ([] : List ByteArray), 0)) else (if 0 ≤ (wrap64 (x6_1 + 1)) then (if (wrap64 (x6_1 + 1)) ≤ (wrap64 ((wrap64 (x6_1 + 1)) + (wrap64 (rd l0 x6_1)))) then (if (wrap64 ((wrap64 (x6_1 + 1)) + (wrap64 (rd l0 x6_1)))) ≤ (l0.length : Int) then (if x151001_1.length < 8796093022208 then (impl_ReadName.l0 kj21 l0 (wrap64 ((wrap64 (x6_1 + 1)) + (wrap64 (rd l0 x6_1)))) x7_1 0 (x151001_1 ++ [strOfNums ((l0.take ((wrap64 ((wrap64 (x6_1 + 1)) + (wrap64 (rd l0 x6_1)))) : Int).toNat).drop ((wrap64 (x6_1 + 1)) : Int).toNat)]) x151002_1) else (none)) else (none)) else (none)) else (none))) = some (r1, r2, r3) := by rw [if_neg (show ¬ (false = true) by decide)] at H; exact H
           clear H; have H := H1; clear H1
           by_cases c34 : (x151001_1.length : Int) = 6
           ·
            rw [if_pos c34] at H; have c34b0 : ((x151001_1.length : Int) == 6) = true := beq_iff_eq.mpr c34; have c34b1 : ((x151001_1.length : Int) != 6) = false := bne_eq_false_iff_eq.mpr c34; clear c34; simp only [Option.some.injEq, Prod.mk.injEq] at H; obtain ⟨rfl, rfl, rfl⟩ := H; have hnb35 := NB150_148.out; have hnc35 := NB148_150.out; obtain ⟨hcz36_0, hcz36_1, hcz36_2, hfz36_0, hfz36_1, hfz36_2⟩ := bc3_ BK150.out; obtain ⟨Ao37, co37, eo37⟩ := Kd.R_slice HO_151001.out; subst eo37; obtain ⟨hcz38_0, hcz38_1, hcz38_2, hfz38_0, hfz38_1, hfz38_2⟩ := bc3_ BK148.out
            go_wp2
            refine bodyPost_ret (results_cell_row rfl _ _ gb148 36 #[.int .i64 2, .slice none 0 0, .int .i64 0] (0, 0) _ rfl blk_a Try.underlying36 rfl (by kernel_rfl)) rfl ?_; exact ⟨_, eq_a, by first | exact Kd.R_nil _ _ _ _ _ | exact Kd.N_nil _ _ _ _ _ | exact Kd.V_nil _ _ _ _ _ | exact Kd.Q_nil _ _ _ _ _ | exact Kd.S_nil _ _ _ _ _, below_a⟩
           ·
            rw [if_neg c34] at H; have c34b0 : ((x151001_1.length : Int) == 6) = false := beq_eq_false_iff_ne.mpr c34; have c34b1 : ((x151001_1.length : Int) != 6) = true := bne_iff_ne.mpr c34; obtain ⟨ji39, hji39⟩ : ∃ j_ : Int, (wrap64 (x6_1 + 1)) = j_ := ⟨_, rfl⟩; replace H : (if 0 ≤ (ji39) then (if (ji39) ≤ (wrap64 ((ji39) + (wrap64 (rd l0 x6_1)))) then (if (wrap64 ((ji39) + (wrap64 (rd l0 x6_1)))) ≤ (l0.length : Int) then (if x151001_1.length < 8796093022208 then (impl_ReadName.l0 kj21 l0 (wrap64 ((ji39) + (wrap64 (rd l0 x6_1)))) x7_1 0 (x151001_1 ++ [strOfNums ((l0.take ((wrap64 ((ji39) + (wrap64 (rd l0 x6_1)))) : Int).toNat).drop ((ji39) : Int).toNat)]) x151002_1) else (none)) else (none)) else (none)) else (none)) = some (r1, r2, r3) := by first | (rw [hji39] at H; exact H) | (simp only [hji39] at H ⊢; exact H)
            have hji39w : (IntKind.i64.wrap (x6_1 + 1)) = ji39 := (i64_w _).trans hji39
            by_cases c40 : 0 ≤ (ji39)
            ·
             rw [if_pos c40] at H; have c40b0 := eq_true c40; have c40b1 : decide (0 ≤ (ji39)) = true := decide_eq_true c40; clear c40
             by_cases c41 : (ji39) ≤ (wrap64 ((ji39) + (wrap64 (rd l0 x6_1))))
             ·
              rw [if_pos c41] at H; have c41b0 := eq_true c41; have c41b1 : decide ((ji39) ≤ (wrap64 ((ji39) + (wrap64 (rd l0 x6_1))))) = true := decide_eq_true c41
              by_cases c42 : (wrap64 ((ji39) + (wrap64 (rd l0 x6_1)))) ≤ (l0.length : Int)
              ·
               rw [if_pos c42] at H; have c42b0 := eq_true c42; have c42b1 : decide ((wrap64 ((ji39) + (wrap64 (rd l0 x6_1)))) ≤ (l0.length : Int)) = true := decide_eq_true c42
               by_cases c43 : x151001_1.length < 8796093022208
               ·
                rw [if_pos c43] at H; have LMc43 := Aside0.mk c43; clear c43; obtain ⟨y155, hy155⟩ : ∃ y_ : List ByteArray, y_ = (x151001_1 ++ [strOfNums ((l0.take ((wrap64 ((ji39) + (wrap64 (rd l0 x6_1)))) : Int).toNat).drop ((ji39) : Int).toNat)]) := ⟨_, rfl⟩; replace H : (impl_ReadName.l0 kj21 l0 (wrap64 ((ji39) + (wrap64 (rd l0 x6_1)))) x7_1 0 y155 x151002_1) = some (r1, r2, r3) := by first | (rw [hy155]; with_reducible exact H) | (have H2_ := (Option.bind_some _ _).symm.trans H; rw [hy155]; with_reducible exact H2_) | (have H2_ := (Option.bind_some _ _).symm.trans H; with_reducible exact H2_) | with_reducible exact H | (rw [hy155]; exact H) | exact H
                have Ny155 := Aside0.mk hy155; clear hy155; have H' := Aside0.mk H; clear H; have hnb44 := NB150_148.out; have hnc44 := NB148_150.out; obtain ⟨hcz45_0, hcz45_1, hcz45_2, hfz45_0, hfz45_1, hfz45_2⟩ := bc3_ BK150.out; obtain ⟨Ao46, co46, eo46⟩ := Kd.R_slice HO_151001.out; subst eo46
                try go_wp2
                replace HO_151001 := Aside0.mk (Kd.R_drew HO_151001.out); replace BK148 := Aside0.mk (blk_drew BK148.out); replace BK150 := Aside0.mk (blk_drew BK150.out); replace HB := Aside0.mk (below_drew1 HB.out); obtain ⟨i048, hi048, _, hsz48, _⟩ := info_parts info5; obtain ⟨A48, hcut48, hA48, hC48⟩ := print_mid_of (P := Try.prog) (Value.int .u8) 0 24 5 .i64 .i64 Try.underlying24 hi048 hsz48 (some ad151) c0 l0 (ji39) (wrap64 ((ji39) + (wrap64 (rd l0 x6_1)))) (of_decide_eq_true (by first | (with_reducible assumption) | assumption)) (by first | omega | exact of_decide_eq_true (by first | (with_reducible assumption) | assumption)) (of_decide_eq_true (by first | (with_reducible assumption) | assumption)) HC0.out; have HR154 := Aside0.mk (Kd.C_of_reads (h1 := fun _ => rfl) (hA48 _ (Kd.reads_of_C HR0.out))); have HC154 := Aside0.mk hC48; clear hA48 hC48 hi048 hsz48; refine start_ (n := 14) (S := fun w' => w'.cell? ⟨gb150, 0, none⟩ = some (.int .i64 0) ∧ w'.cell? ⟨gb150, 1, none⟩ = some (.slice Ao46 x151001_1.length co46) ∧ w'.cell? ⟨gb150, 2, none⟩ = some (.int .i64 x151002_1)) (ds := [13]) #[Z',Z',Z',Z',Z',Z',Z',Z',Z',Z',Z',Z',Z',Z'] (by kernel_rfl) rfl rfl ⟨(blk_cell BK150.out 0).trans rfl, (blk_cell BK150.out 1).trans rfl, (blk_cell BK150.out 2).trans rfl⟩ (fun hHeld => ?_); refine with_tabW impl_ReadName.tab18 impl_ReadName.bits18 (fun HT_ HW_ => ?_); generalize wc.drew = w47 at HO_151001 BK148 BK150 HB HR154 hHeld ⊢; refine pure_ (i := 0) (N := some 68) (v := ?_) (a' := ?_) #[Y',Z',Z',Z',Z',Z',Z',Z',Z',Z',Z',Z',Z',Z'] rfl rfl (any_of HT_.out (by kernel_rfl)) (fun _ _ _ h => h) (Or.inl ⟨by rfl, ?_⟩) ?_ ?_; rotate_left
                ·
                 intro w'
                 go_simp
                 with_reducible rfl
                rotate_left
                ·
                 simp only [Act.put, List.setIfInBounds_toArray, List.set_cons_zero, List.set_cons_succ, i64_w, i32_w]; rfl
                refine pure_ (i := 1) (N := some 69) (v := ?_) (a' := ?_) #[Y',Y',Z',Z',Z',Z',Z',Z',Z',Z',Z',Z',Z',Z'] rfl rfl (any_of HT_.out (by kernel_rfl)) (fun _ _ _ h => h) (Or.inl ⟨by rfl, ?_⟩) ?_ ?_; rotate_left
                ·
                 intro w'
                 go_simp
                 with_reducible rfl
                rotate_left
                ·
                 simp only [Act.put, List.setIfInBounds_toArray, List.set_cons_zero, List.set_cons_succ, i64_w, i32_w]; rfl
                refine pure_ (i := 3) (N := some 71) (v := ?_) (a' := ?_) #[Y',Y',Z',Y',Z',Z',Z',Z',Z',Z',Z',Z',Z',Z'] rfl rfl (any_of HT_.out (by kernel_rfl)) (fun _ _ _ h => h) (Or.inl ⟨by rfl, ?_⟩) ?_ ?_; rotate_left
                ·
                 intro w'
                 go_simp
                 with_reducible rfl
                rotate_left
                ·
                 simp only [Act.put, List.setIfInBounds_toArray, List.set_cons_zero, List.set_cons_succ, i64_w, i32_w]; rfl
                refine pure_ (i := 4) (N := some 72) (v := ?_) (a' := ?_) #[Y',Y',Z',Y',Y',Z',Z',Z',Z',Z',Z',Z',Z',Z'] rfl rfl (any_of HT_.out (by kernel_rfl)) (fun _ _ _ h => h) (Or.inl ⟨by rfl, ?_⟩) ?_ ?_; rotate_left
                ·
                 intro w'
                 go_simp
                 with_reducible rfl
                rotate_left
                ·
                 simp only [Act.put, List.setIfInBounds_toArray, List.set_cons_zero, List.set_cons_succ, i64_w, i32_w]; rfl
                refine pure_ (i := 5) (N := some 73) (v := ?_) (a' := ?_) #[Y',Y',Z',Y',Y',Y',Z',Z',Z',Z',Z',Z',Z',Z'] rfl rfl (any_of HT_.out (by kernel_rfl)) (fun _ _ _ h => h) (Or.inl ⟨by rfl, ?_⟩) ?_ ?_; rotate_left
                ·
                 intro w'
                 go_simp
                 with_reducible rfl
                rotate_left
                ·
                 simp only [Act.put, List.setIfInBounds_toArray, List.set_cons_zero, List.set_cons_succ, i64_w, i32_w]; rfl
                refine pure_ (i := 6) (N := some 74) (v := ?_) (a' := ?_) #[Y',Y',Z',Y',Y',Y',Y',Z',Z',Z',Z',Z',Z',Z'] rfl rfl (any_of HT_.out (by kernel_rfl)) (fun _ _ _ h => h) (Or.inl ⟨by rfl, ?_⟩) ?_ ?_; rotate_left
                ·
                 intro w'
                 go_simp
                 with_reducible rfl
                rotate_left
                ·
                 simp only [Act.put, List.setIfInBounds_toArray, List.set_cons_zero, List.set_cons_succ, i64_w, i32_w]; rfl
                refine pure_ (i := 7) (N := some 75) (v := ?_) (a' := ?_) #[Y',Y',Z',Y',Y',Y',Y',Y',Z',Z',Z',Z',Z',Z'] rfl rfl (any_of HT_.out (by kernel_rfl)) (fun _ _ _ h => h) (Or.inl ⟨by rfl, ?_⟩) ?_ ?_; rotate_left
                ·
                 intro w'
                 go_simp
                 with_reducible rfl
                rotate_left
                ·
                 simp only [Act.put, List.setIfInBounds_toArray, List.set_cons_zero, List.set_cons_succ, i64_w, i32_w]; rfl
                refine take_ (i := 2) (N := some 70) (v := ?_) (a' := ?_) #[Y',Y',Y',Y',Y',Y',Y',Y',Z',Z',Z',Z',Z',Z'] rfl rfl (take_ofW HT_.out HW_.out (by kernel_rfl)) (fun _ _ _ h => h) (Or.inl ⟨by rfl, ?_⟩) hHeld ?_ ?_; rotate_left
                ·
                 rintro w' ⟨s0, s1, s2⟩
                 go_simp
                 with_reducible rfl
                rotate_left
                ·
                 simp only [Act.put, List.setIfInBounds_toArray, List.set_cons_zero, List.set_cons_succ, i64_w, i32_w]; rfl
                refine one_ (i := 8) (N := some 76) #[Y',Y',Y',Y',Y',Y',Y',Y',Y',Z',Z',Z',Z',Z'] rfl rfl (one_of HT_.out (by kernel_rfl)) (by decide) (fun K hK => ?_)
                (have hcv49 := Kd.C_string (P := Try.prog) (A := A48) (c := (c0 - (ji39).toNat)) Try.underlying24 Try.underlying5 Try.underlying9 (Kd.C_below HR154.out below_a); have hlN49 : ((l0.take ((wrap64 ((ji39) + (wrap64 (rd l0 x6_1)))) : Int).toNat).drop ((ji39) : Int).toNat).length = ((wrap64 ((ji39) + (wrap64 (rd l0 x6_1)))) : Int).toNat - ((ji39) : Int).toNat := (by have h1_ : ((wrap64 ((ji39) + (wrap64 (rd l0 x6_1)))) : Int) ≤ (l0.length : Int) := of_decide_eq_true (by first | (with_reducible assumption) | assumption); rw [List.length_drop, List.length_take]; omega); have hcw49 := hcv49; rw [hlN49] at hcw49; clear hlN49)
                refine value_ (w1 := ?_) (v := ?_) (by rfl) rfl ?_ ?_; rotate_left 2
                ·
                 go_simp
                 constructor
                 ·
                  rfl
                 ·
                  rfl
                (try clear hcv49) <;> (try clear hcw49); refine hK.out _ _ ⟨(blk_cell BK150.out 0).trans rfl, (blk_cell BK150.out 1).trans rfl, (blk_cell BK150.out 2).trans rfl⟩ (fun hHeld => ?_); clear hK K; refine norm_ (a' := ?_) ?_ ?_; rotate_left
                ·
                 show Act.put _ (some 76) _ = _; simp only [Act.put, List.setIfInBounds_toArray, List.set_cons_zero, List.set_cons_succ, i64_w, i32_w]; rfl
                refine one_ (i := 9) (N := some 77) #[Y',Y',Y',Y',Y',Y',Y',Y',Y',Y',Z',Z',Z',Z'] rfl rfl (one_of HT_.out (by kernel_rfl)) (by decide) (fun K hK => ?_); refine value_ (w1 := ?_) (v := ?_) (by rfl) rfl ?_ ?_; rotate_left 2
                ·
                 go_simp
                 constructor
                 ·
                  rfl
                 ·
                  rfl
                refine hK.out _ _ ⟨(blk_cell (blk_alloc BK150.out _) 0).trans rfl, (blk_cell (blk_alloc BK150.out _) 1).trans rfl, (blk_cell (blk_alloc BK150.out _) 2).trans rfl⟩ (fun hHeld => ?_); clear hK K; refine norm_ (a' := ?_) ?_ ?_; rotate_left
                ·
                 show Act.put _ (some 77) _ = _; simp only [Act.put, List.setIfInBounds_toArray, List.set_cons_zero, List.set_cons_succ, i64_w, i32_w]; rfl
                refine one_ (i := 10) (N := some 78) #[Y',Y',Y',Y',Y',Y',Y',Y',Y',Y',Y',Z',Z',Z'] rfl rfl (one_of HT_.out (by kernel_rfl)) (by decide) (fun K hK => ?_); refine Kd.R_append_step Kd.string (w0 := w) w.heap.size (by rfl) (.tmp 70) (.tmp 77) 22 9 (.string ⟨#[]⟩) 16 rfl Try.underlying22 info9 rfl (by decide) (by omega) (.slice Ao46 x151001_1.length co46) x151001_1 (strOfNums ((l0.take ((wrap64 ((ji39) + (wrap64 (rd l0 x6_1)))) : Int).toNat).drop ((ji39) : Int).toNat)) [.string (strOfNums ((l0.take ((wrap64 ((ji39) + (wrap64 (rd l0 x6_1)))) : Int).toNat).drop ((ji39) : Int).toNat))] (fun _ => True) (fun _ => False) rfl rfl ?aP (fun _ hk => hk.elim) ?aF ?aO ?aB ?aS ?aL ?_; (case aP => exact rfl); (case aB => exact below_a); (case aF => exact (fun _ _ => trivial)); (case aO => exact (R_a HO_151001.out)); (case aS => exact (below_size below_a)); (case aL => have := LMc43.out; omega); intro v156 w50 ho hb hg hat; rw [← Ny155.out] at ho; replace BK148 := Aside0.mk (blk_grown (g := gb148) blk_c hg (Kd.R_ne HO_151001.out BK148.out (by decide))); replace BK150 := Aside0.mk (blk_grown (g := gb150) blk_c hg (Kd.R_ne HO_151001.out BK150.out (by decide))); replace HB := Aside0.mk (hb); have HO157 := Aside0.mk (ho); clear HO_151001 ho hb hg hat; obtain ⟨Ao51, co51, eo51⟩ := Kd.R_slice HO157.out; (first | subst eo51 | (injection eo51 with f1_ f2_ f3_; have f4_ := f1_.symm; have f5_ := f3_.symm; clear f1_ f2_ f3_; subst f4_; subst f5_)); refine hK.out _ _ ⟨(blk_cell BK150.out 0).trans rfl, (blk_cell BK150.out 1).trans rfl, (blk_cell BK150.out 2).trans rfl⟩ (fun hHeld => ?_); clear hK K; refine norm_ (a' := ?_) ?_ ?_; rotate_left
                ·
                 show Act.put _ (some 78) _ = _; simp only [Act.put, List.setIfInBounds_toArray, List.set_cons_zero, List.set_cons_succ, i64_w, i32_w]; rfl
                refine pure_ (i := 11) (N := some 79) (v := ?_) (a' := ?_) #[Y',Y',Y',Y',Y',Y',Y',Y',Y',Y',Y',Y',Z',Z'] rfl rfl (any_of HT_.out (by kernel_rfl)) (fun _ _ _ h => h) (Or.inl ⟨by rfl, ?_⟩) ?_ ?_; rotate_left
                ·
                 intro w'
                 go_simp
                 with_reducible rfl
                rotate_left
                ·
                 simp only [Act.put, List.setIfInBounds_toArray, List.set_cons_zero, List.set_cons_succ, i64_w, i32_w]; rfl
                refine pure_ (i := 12) (N := some 80) (v := ?_) (a' := ?_) #[Y',Y',Y',Y',Y',Y',Y',Y',Y',Y',Y',Y',Y',Z'] rfl rfl (any_of HT_.out (by kernel_rfl)) (fun _ _ _ h => h) (Or.inl ⟨by rfl, ?_⟩) ?_ ?_; rotate_left
                ·
                 intro w'
                 go_simp
                 with_reducible rfl
                rotate_left
                ·
                 simp only [Act.put, List.setIfInBounds_toArray, List.set_cons_zero, List.set_cons_succ, i64_w, i32_w]; rfl
                refine last_ (i := 13) (N := none) #[Y',Y',Y',Y',Y',Y',Y',Y',Y',Y',Y',Y',Y',Y'] rfl rfl (one_of HT_.out (by kernel_rfl)) (by decide) (fun K hK => ?_); have hs52 : w50.cell? ⟨gb150, 1, none⟩ = some (.slice Ao46 x151001_1.length co46) := (blk_cell BK150.out 1).trans rfl; have hfs52 := blk_frozen BK150.out 1; have hns52_0 := NB148_150.out; have hms52_0 := NB150_148.out; refine skip_ (w1 := ?_) (by rfl) rfl ?_ ?_; rotate_left
                ·
                 go_simp
                 rfl
                refine hK.out _ _ ?_; clear hK K; refine done_ (done_of HT_.out (by kernel_rfl)) ?_
                try go_wp2
                go_roundg kj21
                case measure => have := HK1.out; have := HJ21.out; omega
                case rel => exact ⟨((wrap64 ((ji39) + (wrap64 (rd l0 x6_1))))), (x7_1), (x149000_1), (x149002_1), (y155), (x151002_1), (.slice Ao51 y155.length co51), (by first | rfl | (simp; done) | (simp only [← hji39] <;> (first | rfl | simp)) | (simp [*]; done)), eq_b, H', ⟨by have := HK1.out; have := HJ21.out; omega⟩, ⟨by (with_reducible repeat (first | apply Kd.R_alloc | apply Kd.R_drewN | apply Kd.R_drew)); exact Kd.R_mono (Kd.R_far (p := ⟨gb150, 1, none⟩) (Kd.R_types HO157.out BK150.out (by decide)) (fun _ hk => hk.2) (.slice Ao51 y155.length co51)) (fun _ hk => trivial)⟩, ⟨blk_a⟩, ⟨blk_a⟩, ⟨below_a⟩⟩
               ·
                rw [if_neg c43] at H; exact absurd H (by simp)
              ·
               rw [if_neg c42] at H; exact absurd H (by simp)
             ·
              rw [if_neg c41] at H; exact absurd H (by simp)
            ·
             rw [if_neg c40] at H; exact absurd H (by simp)
       ·
        rw [if_neg c21] at H; have c21b0 : decide ((wrap64 (rd l0 x6_1)) ≤ 20) = false := decide_eq_false c21; (try (have c21b1 : decide ((IntKind.i64.wrap (rd l0 x6_1)) ≤ 20) = false := by simp only [i64_w]; exact decide_eq_false c21)); clear c21; have HC53 := Aside0.mk H; clear H; have p151 : 0 ≤ (x6_1 : Int) := of_decide_eq_true (by first | (with_reducible assumption) | assumption); have q151 : x6_1 < (l0.length : Int) := of_decide_eq_true (by first | (with_reducible assumption) | assumption); obtain ⟨ad151, e151, hx151_0⟩ := Kd.at_int HR0.out x6_1 p151 q151
        cases e151
        replace hx151_0 := (HB.out.cell (World.block_lt_of_cell? w _ hx151_0)).trans hx151_0; replace p151 := eq_true p151; replace q151 := eq_true q151
        go_upto_region 20 with (fail)
        go_cut [82] (fun v82 wc => ∃ (kq : Nat) (x82_52 : Bool), v82 = .bool x82_52 ∧ Aside0 (impl_ReadName.j2 kq l0 x6_1 x7_1 (wrap64 (rd l0 x6_1)) x82_52 0 x151001_1 x151002_1 = some (r1, r2, r3)) ∧ Aside0 (kq ≤ k1) ∧ Aside0 (Kd.R Kd.string 9 wc w.heap.size (fun _ => True) u151001 x151001_1) ∧ Aside0 (wc.heap[gb148]? = some (.cells #[.int .i64 x149000_1, (.slice none 0 0), .int .i64 x149002_1] 36 (0, 0))) ∧ Aside0 (wc.heap[gb150]? = some (.cells #[.int .i64 0, u151001, .int .i64 x151002_1] 36 (0, 0))) ∧ Aside0 (Below w.heap.size w wc))
        case first =>
         have H := HC53.out; clear HC53
         by_cases c54 : (wrap64 (rd l0 x6_1)) ≥ 192
         ·
          rw [if_pos c54] at H; have c54b0 : decide (192 ≤ (wrap64 (rd l0 x6_1))) = true := decide_eq_true c54; (try (have c54b1 : decide (192 ≤ (IntKind.i64.wrap (rd l0 x6_1))) = true := by simp only [i64_w]; exact decide_eq_true c54)); clear c54; (first | rw [c54b0] | (simp only [i64_w, i32_w]; rw [c54b0]) | skip); have H' := Aside0.mk H; clear H
          go_wp2
          go_meet
          case rel => exact ⟨_, (decide ((wrap64 (x6_1 + 1)) < (l0.length : Int))), eq_b, H', ⟨by have := HK1.out; first | omega | exact Nat.le_refl _⟩, ⟨R_a HO_151001.out⟩, ⟨blk_a⟩, ⟨blk_a⟩, ⟨below_a⟩⟩
         ·
          rw [if_neg c54] at H; have c54b0 : decide (192 ≤ (wrap64 (rd l0 x6_1))) = false := decide_eq_false c54; (try (have c54b1 : decide (192 ≤ (IntKind.i64.wrap (rd l0 x6_1))) = false := by simp only [i64_w]; exact decide_eq_false c54)); clear c54; (first | rw [c54b0] | (simp only [i64_w, i32_w]; rw [c54b0]) | skip); have H' := Aside0.mk H; clear H
          go_wp2
          go_meet
          case rel => exact ⟨_, (false), eq_b, H', ⟨by have := HK1.out; first | omega | exact Nat.le_refl _⟩, ⟨R_a HO_151001.out⟩, ⟨blk_a⟩, ⟨blk_a⟩, ⟨below_a⟩⟩
        case rest =>
         clear HC53
         try clear c1
         try clear p1 p1
         try clear q1 q1
         try clear hx1
         try clear c2
         try clear p2 p2
         try clear c3
         try clear hcv3
         try clear c4
         try clear hcv4
         try clear c5
         try clear p6 p6
         try clear c7
         try clear c9 c9b0
         try clear c10 c10b0
         try clear c11 c11b0 c11b1 c11b2
         try clear c12 c12b0 c12b1
         try clear c13
         try clear p15 p15
         try clear q15 q15
         try clear hx15
         try clear c17
         try clear c19
         try clear c21 c21b0 c21b1
         try clear c23 c23b0 c23b1
         try clear c25 c25b0 c25b1
         try clear c26 c26b0 c26b1
         try clear c27 c27b0 c27b1
         try clear hcv30
         try clear c31
         try clear c32
         try clear c34 c34b0 c34b1
         try clear c35
         try clear c40 c40b0 c40b1
         try clear c41 c41b0 c41b1
         try clear c42 c42b0 c42b1
         try clear c43
         try clear c44
         try clear c47
         try clear hcv49
         try clear c54 c54b0 c54b1
         try clear hcz14_0 hcz14_1 hcz14_2
         try clear hcz15_0 hcz15_1 hcz15_2
         try clear hcz18_0 hcz18_1 hcz18_2
         try clear hcz19_0 hcz19_1 hcz19_2
         try clear hcz33_0 hcz33_1 hcz33_2
         try clear hcz36_0 hcz36_1 hcz36_2
         try clear hcz38_0 hcz38_1 hcz38_2
         try clear hcz45_0 hcz45_1 hcz45_2
         try clear hcz8_0 hcz8_1 hcz8_2
         try clear hfz14_0 hfz14_1 hfz14_2
         try clear hfz15_0 hfz15_1 hfz15_2
         try clear hfz18_0 hfz18_1 hfz18_2
         try clear hfz19_0 hfz19_1 hfz19_2
         try clear hfz33_0 hfz33_1 hfz33_2
         try clear hfz36_0 hfz36_1 hfz36_2
         try clear hfz38_0 hfz38_1 hfz38_2
         try clear hfz45_0 hfz45_1 hfz45_2
         try clear hfz8_0 hfz8_1 hfz8_2
         try clear hx151_0
         try clear p151
         try clear q151
         obtain ⟨kq, x82_52, rfl, HA, HJ52, HO_151001, BK148, BK150, HB⟩ := hcut
         cases kq with
         | zero => exact absurd HA.out (by simp [impl_ReadName.j2])
         | succ kj52 =>
          have H := HA.out; clear HA; simp only [impl_ReadName.j2] at H
          by_cases c55 : x82_52 = true
          ·
           subst c55; have H1 : (if 0 ≤ (wrap64 (x6_1 + 1)) then (if (wrap64 (x6_1 + 1)) < (l0.length : Int) then (if x7_1 = 0 then (if (wrap64 ((wrap64 ((wrap64 ((wrap64 (rd l0 x6_1)) - 192)) * 256)) + (wrap64 (rd l0 (wrap64 (x6_1 + 1)))))) ≥ x6_1 then (some (5, ([] : List ByteArray), 0)) else (if (wrap64 (x7_1 + 1)) > 5 then (some (5, ([] : List ByteArray), 0)) else (impl_ReadName.l0 kj52 l0 (wrap64 ((wrap64 ((wrap64 ((wrap64 (rd l0 x6_1)) - 192)) * 256)) + (wrap64 (rd l0 (wrap64 (x6_1 + 1)))))) (wrap64 (x7_1 + 1)) 0 x151001_1 (wrap64 (x6_1 + 2))))) else (if (wrap64 ((wrap64 ((wrap64 ((wrap64 (rd l0 x6_1)) - 192)) * 256)) + (wrap64 (rd l0 (wrap64 (x6_1 + 1)))))) ≥ x6_1 then (some (5, ([] : List ByteArray), 0)) else (if (wrap64 (x7_1 + 1)) > 5 then (some (5, ([] : List ByteArray), 0)) else (impl_ReadName.l0 kj52 l0 (wrap64 ((wrap64 ((wrap64 ((wrap64 (rd l0 x6_1)) - 192)) * 256)) + (wrap64 (rd l0 (wrap64 (x6_1 + 1)))))) (wrap64 (x7_1 + 1)) 0 x151001_1 x151002_1)))) else (none)) else (none)) = some (r1, r2, r3) := by rw [if_pos rfl] at H; exact H
           clear H; have H := H1; clear H1; obtain ⟨ji56, hji56⟩ : ∃ j_ : Int, (wrap64 (x6_1 + 1)) = j_ := ⟨_, rfl⟩; replace H : (if 0 ≤ (ji56) then (if (ji56) < (l0.length : Int) then (if x7_1 = 0 then (if (wrap64 ((wrap64 ((wrap64 ((wrap64 (rd l0 x6_1)) - 192)) * 256)) + (wrap64 (rd l0 (ji56))))) ≥ x6_1 then (some (5, ([] : List ByteArray), 0)) else (if (wrap64 (x7_1 + 1)) > 5 then (some (5, ([] : List ByteArray), 0)) else (impl_ReadName.l0 kj52 l0 (wrap64 ((wrap64 ((wrap64 ((wrap64 (rd l0 x6_1)) - 192)) * 256)) + (wrap64 (rd l0 (ji56))))) (wrap64 (x7_1 + 1)) 0 x151001_1 (wrap64 (x6_1 + 2))))) else (if (wrap64 ((wrap64 ((wrap64 ((wrap64 (rd l0 x6_1)) - 192)) * 256)) + (wrap64 (rd l0 (ji56))))) ≥ x6_1 then (some (5, ([] : List ByteArray), 0)) else (if (wrap64 (x7_1 + 1)) > 5 then (some (5, ([] : List ByteArray), 0)) else (impl_ReadName.l0 kj52 l0 (wrap64 ((wrap64 ((wrap64 ((wrap64 (rd l0 x6_1)) - 192)) * 256)) + (wrap64 (rd l0 (ji56))))) (wrap64 (x7_1 + 1)) 0 x151001_1 x151002_1)))) else (none)) else (none)) = some (r1, r2, r3) := by first | (rw [hji56] at H; exact H) | (simp only [hji56] at H ⊢; exact H)
           have hji56w : (IntKind.i64.wrap (x6_1 + 1)) = ji56 := (i64_w _).trans hji56
           by_cases c57 : 0 ≤ (ji56)
           ·
            rw [if_pos c57] at H; have c57b0 : decide (0 ≤ (ji56)) = true := decide_eq_true c57; clear c57
            by_cases c58 : (ji56) < (l0.length : Int)
            ·
             rw [if_pos c58] at H; have c58b0 : decide ((ji56) < (l0.length : Int)) = true := decide_eq_true c58; clear c58
             by_cases c59 : x7_1 = 0
             ·
              rw [if_pos c59] at H; have c59b0 : (x7_1 == 0) = true := beq_iff_eq.mpr c59; have c59b1 : (x7_1 != 0) = false := bne_eq_false_iff_eq.mpr c59; clear c59
              by_cases c60 : (wrap64 ((wrap64 ((wrap64 ((wrap64 (rd l0 x6_1)) - 192)) * 256)) + (wrap64 (rd l0 (ji56))))) ≥ x6_1
              ·
               rw [if_pos c60] at H; have c60b0 : decide (x6_1 ≤ (wrap64 ((wrap64 ((wrap64 ((wrap64 (rd l0 x6_1)) - 192)) * 256)) + (wrap64 (rd l0 (ji56)))))) = true := decide_eq_true c60; (try (have c60b1 : decide (x6_1 ≤ (IntKind.i64.wrap ((IntKind.i64.wrap ((IntKind.i64.wrap ((IntKind.i64.wrap (rd l0 x6_1)) - 192)) * 256)) + (IntKind.i64.wrap (rd l0 (ji56)))))) = true := by simp only [i64_w]; exact decide_eq_true c60)); clear c60; simp only [Option.some.injEq, Prod.mk.injEq] at H; obtain ⟨rfl, rfl, rfl⟩ := H; have p158 : 0 ≤ ((ji56) : Int) := of_decide_eq_true (by first | (with_reducible assumption) | assumption); have q158 : (ji56) < (l0.length : Int) := of_decide_eq_true (by first | (with_reducible assumption) | assumption); obtain ⟨ad158, e158, hx158_0⟩ := Kd.at_int HR0.out (ji56) p158 q158; obtain rfl : ad151 = ad158 := (by injection e158); replace hx158_0 := (HB.out.cell (World.block_lt_of_cell? w _ hx158_0)).trans hx158_0; replace p158 := eq_true p158; replace q158 := eq_true q158; have hnb61 := NB150_148.out; have hnc61 := NB148_150.out; obtain ⟨hcz62_0, hcz62_1, hcz62_2, hfz62_0, hfz62_1, hfz62_2⟩ := bc3_ BK150.out; obtain ⟨hcz63_0, hcz63_1, hcz63_2, hfz63_0, hfz63_1, hfz63_2⟩ := bc3_ BK148.out
               go_wp2
               refine bodyPost_ret (results_cell_row rfl _ _ gb148 36 #[.int .i64 5, .slice none 0 0, .int .i64 0] (0, 0) _ rfl blk_a Try.underlying36 rfl (by kernel_rfl)) rfl ?_; exact ⟨_, by first | rfl | (simp [errW_none, errW_some] <;> rfl) | (simp only [← hji56]; first | rfl | (simp [errW_none, errW_some] <;> rfl)) | (simp [*, errW_none, errW_some] <;> rfl), by first | exact Kd.R_nil _ _ _ _ _ | exact Kd.N_nil _ _ _ _ _ | exact Kd.V_nil _ _ _ _ _ | exact Kd.Q_nil _ _ _ _ _ | exact Kd.S_nil _ _ _ _ _, below_a⟩
              ·
               rw [if_neg c60] at H; have c60b0 : decide (x6_1 ≤ (wrap64 ((wrap64 ((wrap64 ((wrap64 (rd l0 x6_1)) - 192)) * 256)) + (wrap64 (rd l0 (ji56)))))) = false := decide_eq_false c60; (try (have c60b1 : decide (x6_1 ≤ (IntKind.i64.wrap ((IntKind.i64.wrap ((IntKind.i64.wrap ((IntKind.i64.wrap (rd l0 x6_1)) - 192)) * 256)) + (IntKind.i64.wrap (rd l0 (ji56)))))) = false := by simp only [i64_w]; exact decide_eq_false c60)); clear c60
               by_cases c64 : (wrap64 (x7_1 + 1)) > 5
               ·
                rw [if_pos c64] at H; have c64b0 : decide (5 < (wrap64 (x7_1 + 1))) = true := decide_eq_true c64; (try (have c64b1 : decide (5 < (IntKind.i64.wrap (x7_1 + 1))) = true := by simp only [i64_w]; exact decide_eq_true c64)); clear c64; simp only [Option.some.injEq, Prod.mk.injEq] at H; obtain ⟨rfl, rfl, rfl⟩ := H; have p158 : 0 ≤ ((ji56) : Int) := of_decide_eq_true (by first | (with_reducible assumption) | assumption); have q158 : (ji56) < (l0.length : Int) := of_decide_eq_true (by first | (with_reducible assumption) | assumption); obtain ⟨ad158, e158, hx158_0⟩ := Kd.at_int HR0.out (ji56) p158 q158; obtain rfl : ad151 = ad158 := (by injection e158); replace hx158_0 := (HB.out.cell (World.block_lt_of_cell? w _ hx158_0)).trans hx158_0; replace p158 := eq_true p158; replace q158 := eq_true q158; have hnb65 := NB150_148.out; have hnc65 := NB148_150.out; obtain ⟨hcz66_0, hcz66_1, hcz66_2, hfz66_0, hfz66_1, hfz66_2⟩ := bc3_ BK150.out; obtain ⟨hcz67_0, hcz67_1, hcz67_2, hfz67_0, hfz67_1, hfz67_2⟩ := bc3_ BK148.out
                go_wp2
                refine bodyPost_ret (results_cell_row rfl _ _ gb148 36 #[.int .i64 5, .slice none 0 0, .int .i64 0] (0, 0) _ rfl blk_a Try.underlying36 rfl (by kernel_rfl)) rfl ?_; exact ⟨_, by first | rfl | (simp [errW_none, errW_some] <;> rfl) | (simp only [← hji56]; first | rfl | (simp [errW_none, errW_some] <;> rfl)) | (simp [*, errW_none, errW_some] <;> rfl), by first | exact Kd.R_nil _ _ _ _ _ | exact Kd.N_nil _ _ _ _ _ | exact Kd.V_nil _ _ _ _ _ | exact Kd.Q_nil _ _ _ _ _ | exact Kd.S_nil _ _ _ _ _, below_a⟩
               ·
                rw [if_neg c64] at H; have c64b0 : decide (5 < (wrap64 (x7_1 + 1))) = false := decide_eq_false c64; (try (have c64b1 : decide (5 < (IntKind.i64.wrap (x7_1 + 1))) = false := by simp only [i64_w]; exact decide_eq_false c64)); clear c64; have H' := Aside0.mk H; clear H; have p158 : 0 ≤ ((ji56) : Int) := of_decide_eq_true (by first | (with_reducible assumption) | assumption); have q158 : (ji56) < (l0.length : Int) := of_decide_eq_true (by first | (with_reducible assumption) | assumption); obtain ⟨ad158, e158, hx158_0⟩ := Kd.at_int HR0.out (ji56) p158 q158; obtain rfl : ad151 = ad158 := (by injection e158); replace hx158_0 := (HB.out.cell (World.block_lt_of_cell? w _ hx158_0)).trans hx158_0; replace p158 := eq_true p158; replace q158 := eq_true q158; have hnb68 := NB150_148.out; have hnc68 := NB148_150.out; obtain ⟨hcz69_0, hcz69_1, hcz69_2, hfz69_0, hfz69_1, hfz69_2⟩ := bc3_ BK150.out
                go_wp2
                go_roundg kj52
                case measure => have := HK1.out; have := HJ52.out; omega
                case rel => exact ⟨(wrap64 ((wrap64 ((wrap64 ((wrap64 (rd l0 x6_1)) - 192)) * 256)) + (wrap64 (rd l0 (ji56))))), (wrap64 (x7_1 + 1)), (x149000_1), (x149002_1), (x151001_1), (wrap64 (x6_1 + 2)), (u151001), (by first | rfl | (simp; done) | (simp only [← hji56] <;> (first | rfl | simp)) | (simp [*]; done)), eq_b, H', ⟨by have := HK1.out; have := HJ52.out; omega⟩, ⟨by (with_reducible repeat (first | apply Kd.R_alloc | apply Kd.R_drewN | apply Kd.R_drew)); exact Kd.R_mono (Kd.R_far (p := ⟨gb150, 2, none⟩) (Kd.R_types HO_151001.out BK150.out (by decide)) (fun _ hk => hk.2) (.int .i64 (wrap64 (x6_1 + 2)))) (fun _ hk => trivial)⟩, ⟨blk_a⟩, ⟨blk_a⟩, ⟨below_a⟩⟩
             ·
              rw [if_neg c59] at H; have c59b0 : (x7_1 == 0) = false := beq_eq_false_iff_ne.mpr c59; have c59b1 : (x7_1 != 0) = true := bne_iff_ne.mpr c59
              by_cases c70 : (wrap64 ((wrap64 ((wrap64 ((wrap64 (rd l0 x6_1)) - 192)) * 256)) + (wrap64 (rd l0 (ji56))))) ≥ x6_1
              ·
               rw [if_pos c70] at H; have c70b0 : decide (x6_1 ≤ (wrap64 ((wrap64 ((wrap64 ((wrap64 (rd l0 x6_1)) - 192)) * 256)) + (wrap64 (rd l0 (ji56)))))) = true := decide_eq_true c70; (try (have c70b1 : decide (x6_1 ≤ (IntKind.i64.wrap ((IntKind.i64.wrap ((IntKind.i64.wrap ((IntKind.i64.wrap (rd l0 x6_1)) - 192)) * 256)) + (IntKind.i64.wrap (rd l0 (ji56)))))) = true := by simp only [i64_w]; exact decide_eq_true c70)); clear c70; simp only [Option.some.injEq, Prod.mk.injEq] at H; obtain ⟨rfl, rfl, rfl⟩ := H; have p158 : 0 ≤ ((ji56) : Int) := of_decide_eq_true (by first | (with_reducible assumption) | assumption); have q158 : (ji56) < (l0.length : Int) := of_decide_eq_true (by first | (with_reducible assumption) | assumption); obtain ⟨ad158, e158, hx158_0⟩ := Kd.at_int HR0.out (ji56) p158 q158; obtain rfl : ad151 = ad158 := (by injection e158); replace hx158_0 := (HB.out.cell (World.block_lt_of_cell? w _ hx158_0)).trans hx158_0; replace p158 := eq_true p158; replace q158 := eq_true q158; have hnb71 := NB148_150.out; have hnc71 := NB150_148.out; obtain ⟨hcz72_0, hcz72_1, hcz72_2, hfz72_0, hfz72_1, hfz72_2⟩ := bc3_ BK148.out
               go_wp2
               refine bodyPost_ret (results_cell_row rfl _ _ gb148 36 #[.int .i64 5, .slice none 0 0, .int .i64 0] (0, 0) _ rfl blk_a Try.underlying36 rfl (by kernel_rfl)) rfl ?_; exact ⟨_, by first | rfl | (simp [errW_none, errW_some] <;> rfl) | (simp only [← hji56]; first | rfl | (simp [errW_none, errW_some] <;> rfl)) | (simp [*, errW_none, errW_some] <;> rfl), by first | exact Kd.R_nil _ _ _ _ _ | exact Kd.N_nil _ _ _ _ _ | exact Kd.V_nil _ _ _ _ _ | exact Kd.Q_nil _ _ _ _ _ | exact Kd.S_nil _ _ _ _ _, below_a⟩
              ·
               rw [if_neg c70] at H; have c70b0 : decide (x6_1 ≤ (wrap64 ((wrap64 ((wrap64 ((wrap64 (rd l0 x6_1)) - 192)) * 256)) + (wrap64 (rd l0 (ji56)))))) = false := decide_eq_false c70; (try (have c70b1 : decide (x6_1 ≤ (IntKind.i64.wrap ((IntKind.i64.wrap ((IntKind.i64.wrap ((IntKind.i64.wrap (rd l0 x6_1)) - 192)) * 256)) + (IntKind.i64.wrap (rd l0 (ji56)))))) = false := by simp only [i64_w]; exact decide_eq_false c70)); clear c70
               by_cases c73 : (wrap64 (x7_1 + 1)) > 5
               ·
                rw [if_pos c73] at H; have c73b0 : decide (5 < (wrap64 (x7_1 + 1))) = true := decide_eq_true c73; (try (have c73b1 : decide (5 < (IntKind.i64.wrap (x7_1 + 1))) = true := by simp only [i64_w]; exact decide_eq_true c73)); clear c73; simp only [Option.some.injEq, Prod.mk.injEq] at H; obtain ⟨rfl, rfl, rfl⟩ := H; have p158 : 0 ≤ ((ji56) : Int) := of_decide_eq_true (by first | (with_reducible assumption) | assumption); have q158 : (ji56) < (l0.length : Int) := of_decide_eq_true (by first | (with_reducible assumption) | assumption); obtain ⟨ad158, e158, hx158_0⟩ := Kd.at_int HR0.out (ji56) p158 q158; obtain rfl : ad151 = ad158 := (by injection e158); replace hx158_0 := (HB.out.cell (World.block_lt_of_cell? w _ hx158_0)).trans hx158_0; replace p158 := eq_true p158; replace q158 := eq_true q158; have hnb74 := NB148_150.out; have hnc74 := NB150_148.out; obtain ⟨hcz75_0, hcz75_1, hcz75_2, hfz75_0, hfz75_1, hfz75_2⟩ := bc3_ BK148.out
                go_wp2
                refine bodyPost_ret (results_cell_row rfl _ _ gb148 36 #[.int .i64 5, .slice none 0 0, .int .i64 0] (0, 0) _ rfl blk_a Try.underlying36 rfl (by kernel_rfl)) rfl ?_; exact ⟨_, by first | rfl | (simp [errW_none, errW_some] <;> rfl) | (simp only [← hji56]; first | rfl | (simp [errW_none, errW_some] <;> rfl)) | (simp [*, errW_none, errW_some] <;> rfl), by first | exact Kd.R_nil _ _ _ _ _ | exact Kd.N_nil _ _ _ _ _ | exact Kd.V_nil _ _ _ _ _ | exact Kd.Q_nil _ _ _ _ _ | exact Kd.S_nil _ _ _ _ _, below_a⟩
               ·
                rw [if_neg c73] at H; have c73b0 : decide (5 < (wrap64 (x7_1 + 1))) = false := decide_eq_false c73; (try (have c73b1 : decide (5 < (IntKind.i64.wrap (x7_1 + 1))) = false := by simp only [i64_w]; exact decide_eq_false c73)); clear c73; have H' := Aside0.mk H; clear H; have p158 : 0 ≤ ((ji56) : Int) := of_decide_eq_true (by first | (with_reducible assumption) | assumption); have q158 : (ji56) < (l0.length : Int) := of_decide_eq_true (by first | (with_reducible assumption) | assumption); obtain ⟨ad158, e158, hx158_0⟩ := Kd.at_int HR0.out (ji56) p158 q158; obtain rfl : ad151 = ad158 := (by injection e158); replace hx158_0 := (HB.out.cell (World.block_lt_of_cell? w _ hx158_0)).trans hx158_0; replace p158 := eq_true p158; replace q158 := eq_true q158
                go_wp2
                go_roundg kj52
                case measure => have := HK1.out; have := HJ52.out; omega
                case rel => exact ⟨(wrap64 ((wrap64 ((wrap64 ((wrap64 (rd l0 x6_1)) - 192)) * 256)) + (wrap64 (rd l0 (ji56))))), (wrap64 (x7_1 + 1)), (x149000_1), (x149002_1), (x151001_1), (x151002_1), (u151001), (by first | rfl | (simp; done) | (simp only [← hji56] <;> (first | rfl | simp)) | (simp [*]; done)), eq_b, H', ⟨by have := HK1.out; have := HJ52.out; omega⟩, ⟨R_a HO_151001.out⟩, ⟨blk_a⟩, ⟨blk_a⟩, ⟨below_a⟩⟩
            ·
             rw [if_neg c58] at H; exact absurd H (by simp)
           ·
            rw [if_neg c57] at H; exact absurd H (by simp)
          ·
           replace c55 := Bool.eq_false_iff.mpr c55; subst c55; have H1 : (some (5, ([] : List ByteArray), 0)) = some (r1, r2, r3) := by rw [if_neg (show ¬ (false = true) by decide)] at H; exact H
           clear H; have H := H1; clear H1; simp only [Option.some.injEq, Prod.mk.injEq] at H; obtain ⟨rfl, rfl, rfl⟩ := H; have hnb76 := NB148_150.out; have hnc76 := NB150_148.out; obtain ⟨hcz77_0, hcz77_1, hcz77_2, hfz77_0, hfz77_1, hfz77_2⟩ := bc3_ BK148.out
           go_wp2
           refine bodyPost_ret (results_cell_row rfl _ _ gb148 36 #[.int .i64 5, .slice none 0 0, .int .i64 0] (0, 0) _ rfl blk_a Try.underlying36 rfl (by kernel_rfl)) rfl ?_; exact ⟨_, eq_a, by first | exact Kd.R_nil _ _ _ _ _ | exact Kd.N_nil _ _ _ _ _ | exact Kd.V_nil _ _ _ _ _ | exact Kd.Q_nil _ _ _ _ _ | exact Kd.S_nil _ _ _ _ _, below_a⟩
     ·
      rw [if_neg c10] at H; exact absurd H (by simp)
    ·
     rw [if_neg c9] at H; have c9b0 : decide (x6_1 < (l0.length : Int)) = false := decide_eq_false c9; clear c9; simp only [Option.some.injEq, Prod.mk.injEq] at H; obtain ⟨rfl, rfl, rfl⟩ := H; have hnb78 := NB148_150.out; have hnc78 := NB150_148.out; obtain ⟨hcz79_0, hcz79_1, hcz79_2, hfz79_0, hfz79_1, hfz79_2⟩ := bc3_ BK148.out
     go_wp2
     refine bodyPost_ret (results_cell_row rfl _ _ gb148 36 #[.int .i64 5, .slice none 0 0, .int .i64 0] (0, 0) _ rfl blk_a Try.underlying36 rfl (by kernel_rfl)) rfl ?_; exact ⟨_, eq_a, by first | exact Kd.R_nil _ _ _ _ _ | exact Kd.N_nil _ _ _ _ _ | exact Kd.V_nil _ _ _ _ _ | exact Kd.Q_nil _ _ _ _ _ | exact Kd.S_nil _ _ _ _ _, below_a⟩
 ·
  replace c4 := Bool.eq_false_iff.mpr c4; subst c4; have H1 : (some (3, ([] : List ByteArray), 0)) = some (r1, r2, r3) := by rw [if_neg (show ¬ (false = true) by decide)] at H; exact H
  clear H; have H := H1; clear H1; simp only [Option.some.injEq, Prod.mk.injEq] at H; obtain ⟨rfl, rfl, rfl⟩ := H
  go_enter Try.func19, Try.ntmps19
  go_wp2_with (first | ((with_reducible refine gate_dst (N := 4) rfl ?_); (try (refine gate_guard (by rfl) ?_; dsimp only)); refine box_event ?hg (N := 4) ?hd (cs := #[.int .i64 0, .slice none 0 0, .int .i64 0]) (t := 36) ?hr ?_; (case hd => rfl); (case hg => rfl); (case hr => first | (go_simp; done) | (go_simp; rfl)); intro gb148 hg w80 hbox hb; have n0_ := Aside0.mk (below_step below_a hb); have BK148 := Aside0.mk (hbox); have GW148 := Aside0.mk (bsz_ (w := w) hg); have GE148 := Aside0.mk (bsz_ (w := w) hg); replace HB := n0_; clear n0_; clear hb hbox hg) | ((with_reducible refine gate_callee (f := 47) rfl ?_); refine goesL_ (some 15) rfl rfl Try.func47 (by kernel_rfl) rfl #[.int .i64 a1, .int .i64 0, .int .i64 (wrap64 ((l0.length : Int) - 1))] rfl args_a ?_; (with_reducible refine (impl_in.calls a1 0 (wrap64 ((l0.length : Int) - 1)) false _ A3.out).mono ?_); rintro e w' ⟨rfl, ⟨nd, rfl⟩⟩; refine ⟨_, rfl, ?_⟩; (try (rw [drewN_self w80]; generalize hq_ : World.drewN w80 _ = w80; have n0_ : Aside0 (w80.heap[gb148]? = some (.cells #[.int .i64 0, .slice none 0 0, .int .i64 0] 36 (0, 0))) := ⟨by rw [← hq_]; exact blk_a⟩; have n1_ : Aside0 (Below w.heap.size w w80) := ⟨by rw [← hq_]; exact below_a⟩; clear BK148 HB hq_; have BK148 := n0_; have HB := n1_; clear n0_ n1_)); obtain ⟨hcz81_0, hcz81_1, hcz81_2, hfz81_0, hfz81_1, hfz81_2⟩ := bc3_ BK148.out))
  refine bodyPost_ret (results_cell_row rfl _ _ gb148 36 #[.int .i64 3, .slice none 0 0, .int .i64 0] (0, 0) _ rfl blk_a Try.underlying36 rfl (by kernel_rfl)) rfl ?_; exact ⟨_, eq_a, by first | exact Kd.R_nil _ _ _ _ _ | exact Kd.N_nil _ _ _ _ _ | exact Kd.V_nil _ _ _ _ _ | exact Kd.Q_nil _ _ _ _ _ | exact Kd.S_nil _ _ _ _ _, below_a⟩

/-! ### laws_lwBig: function 25 -/
def laws_lwBig.f (l0 : List Int) : Option (Bool) := some (decide ((l0.length : Int) > 1048576))
set_option maxHeartbeats 8000000 in
set_option maxRecDepth 100000 in
theorem laws_lwBig.calls (A0 : Option Addr) (c0 : Nat) (l0 : List Int) (r : Bool) (w : World) (hr0 : Kd.C (Kd.int .u8) w A0 l0.length l0) (hc0 : l0.length ≤ c0) (h : laws_lwBig.f l0 = some r) :
  Calls Try.prog 25 #[.slice A0 l0.length c0] w fun e w' => e = .returned (.bool r) ∧ Drawn0 w w' := by
 have HR0 := Aside0.mk hr0
 have HC0 := Aside0.mk hc0
 clear hr0 hc0
 have H : (some (decide ((l0.length : Int) > 1048576))) = some r := h
 clear h
 obtain rfl := Option.some.inj H
 go_enter Try.func25, Try.ntmps25
 go_wp2
 go_ret
 exact ⟨eq_b, by repeat (first | exact Drawn0.refl _ | apply Drawn0.step)⟩

/-- A state of type 87 at block g of W; what its slices lead to came in by w0. -/
def IsS87 (w0 W : World) (g : Nat) (f0 : List Int) (f1 : Int) : Prop := ∃ A0 c0, W.heap[g]? = some (.cells #[.slice A0 f0.length c0, .int .i64 f1] 87 (0, 0)) ∧ w0.heap.size ≤ g ∧ Kd.C (Kd.int .u8) w0 A0 f0.length f0
theorem IsS87.grown {w0 W : World} {g : Nat} {f0 : List Int} {f1 : Int} {W1 : World} {row : Option Nat} (h : IsS87 w0 W g f0 f1) (hw : W.grownBy W1 row) (hne : some g ≠ row) : IsS87 w0 W1 g f0 f1 := by
 obtain ⟨A0, c0, hb, hg, hr0⟩ := h
 exact ⟨A0, c0, blk_grown hb hw hne, hg, hr0⟩
theorem IsS87.own_neN {w0 W : World} {g : Nat} {f0 : List Int} {f1 : Int} {α : Type} {d : Kd α} {e : Nat} {base : Nat} {ok : Nat → Prop} {v : Value} {xs : List α} (h : IsS87 w0 W g f0 f1) (ho : Kd.N d e W base ok v xs) (ht : e ≠ 87) : some g ≠ v.ownBlock := by
 obtain ⟨A0, c0, hb, hg, hr0⟩ := h
 exact Kd.N_ne ho hb ht
theorem IsS87.fresh {w0 W : World} {g : Nat} {f0 : List Int} {f1 : Int} (h : IsS87 w0 W g f0 f1) : ∀ k, W.heap.size ≤ k → k ≠ g := by
 obtain ⟨A0, c0, hb, hg, hr0⟩ := h
 exact Kd.freshB hb
theorem IsS87.kept {w0 W : World} {g : Nat} {f0 : List Int} {f1 : Int} {W1 : World} {S : Nat → Prop} (h : IsS87 w0 W g f0 f1) (hk : Kept W W1 S) (hne : ¬ S g) : IsS87 w0 W1 g f0 f1 := by
 obtain ⟨A0, c0, hb, hg, hr0⟩ := h
 exact ⟨A0, c0, blk_kept hb hk hne, hg, hr0⟩
theorem IsS87.below {w0 W : World} {g : Nat} {f0 : List Int} {f1 : Int} {W1 : World} (h : IsS87 w0 W g f0 f1) (hw : Below W.heap.size W W1) : IsS87 w0 W1 g f0 f1 := h.grown (grown_of_below hw none) (by simp)
theorem IsS87.alloc {w0 W : World} {g : Nat} {f0 : List Int} {f1 : Int} (h : IsS87 w0 W g f0 f1) (o : Obj) : IsS87 w0 (W.alloc o) g f0 f1 := h.below (below_alloc (Below.refl _ _) o)
theorem IsS87.drewN {w0 W : World} {g : Nat} {f0 : List Int} {f1 : Int} (h : IsS87 w0 W g f0 f1) (m : Nat) : IsS87 w0 (W.drewN m) g f0 f1 := h
theorem IsS87.drew {w0 W : World} {g : Nat} {f0 : List Int} {f1 : Int} (h : IsS87 w0 W g f0 f1) : IsS87 w0 W.drew g f0 f1 := h
theorem IsS87.at_ {w0 W : World} {g : Nat} {f0 : List Int} {f1 : Int} {w' : World} {m : Nat} (hq : W.drewN m = w') (h : IsS87 w0 W g f0 f1) : IsS87 w0 w' g f0 f1 := by subst hq; exact IsS87.drewN h m
theorem IsS87.apart {w0 W : World} {g : Nat} {f0 : List Int} {f1 : Int} {α : Type} {d : Kd α} {e : Nat} {base : Nat} {ok : Nat → Prop} {v : Value} {xs : List α} (h : IsS87 w0 W g f0 f1) (ho : d.R e W base ok v xs) (ht : ∀ q, q ∈ e :: d.E → q ≠ 87) : d.R e W base (fun k => ok k ∧ k ≠ g) v xs := by
 obtain ⟨A0, c0, hb, hg, hr0⟩ := h
 exact Kd.R_types ho hb ht
theorem IsS87.own_ne {w0 W : World} {g : Nat} {f0 : List Int} {f1 : Int} {α : Type} {d : Kd α} {e : Nat} {base : Nat} {ok : Nat → Prop} {v : Value} {xs : List α} (h : IsS87 w0 W g f0 f1) (ho : d.R e W base ok v xs) (ht : e ≠ 87) : some g ≠ v.ownBlock := by
 obtain ⟨A0, c0, hb, hg, hr0⟩ := h
 exact Kd.R_ne ho hb ht
theorem IsS87.apartQ {w0 W : World} {g : Nat} {f0 : List Int} {f1 : Int} {α : Type} {d : Kd α} {e : Nat} {base : Nat} {ok : Nat → Prop} {v : Value} {xs : List α} (h : IsS87 w0 W g f0 f1) (ho : d.Q e W base ok v xs) (ht : ∀ q, q ∈ e :: d.E → q ≠ 87) : d.Q e W base (fun k => ok k ∧ k ≠ g) v xs := by
 obtain ⟨A0, c0, hb, hg, hr0⟩ := h
 exact Kd.Q_types ho hb ht
theorem IsS87.own_neQ {w0 W : World} {g : Nat} {f0 : List Int} {f1 : Int} {α : Type} {d : Kd α} {e : Nat} {base : Nat} {ok : Nat → Prop} {v : Value} {xs : List α} (h : IsS87 w0 W g f0 f1) (ho : d.Q e W base ok v xs) (ht : e ≠ 87) : some g ≠ v.ownBlock := by
 obtain ⟨A0, c0, hb, hg, hr0⟩ := h
 exact Kd.Q_ne ho hb ht
theorem IsS87.apartS {w0 W : World} {g : Nat} {f0 : List Int} {f1 : Int} {α : Type} {d : Kd α} {e : Nat} {base : Nat} {ok : Nat → Prop} {v : Value} {xs : List α} (h : IsS87 w0 W g f0 f1) (ho : d.S e W base ok v xs) (ht : ∀ q, q ∈ e :: d.E → q ≠ 87) : d.S e W base (fun k => ok k ∧ k ≠ g) v xs := by
 obtain ⟨A0, c0, hb, hg, hr0⟩ := h
 exact Kd.S_types ho hb ht
theorem IsS87.own_neS {w0 W : World} {g : Nat} {f0 : List Int} {f1 : Int} {α : Type} {d : Kd α} {e : Nat} {base : Nat} {ok : Nat → Prop} {v : Value} {xs : List α} (h : IsS87 w0 W g f0 f1) (ho : d.S e W base ok v xs) (ht : e ≠ 87) : some g ≠ v.ownBlock := by
 obtain ⟨A0, c0, hb, hg, hr0⟩ := h
 exact Kd.S_ne ho hb ht
theorem IsS87.lt {w0 W : World} {g : Nat} {f0 : List Int} {f1 : Int} (h : IsS87 w0 W g f0 f1) : g < W.heap.size := by
 obtain ⟨A0, c0, hb, hg, hr0⟩ := h
 exact blk_lt hb
theorem IsS87.ge {w0 W : World} {g : Nat} {f0 : List Int} {f1 : Int} (h : IsS87 w0 W g f0 f1) : w0.heap.size ≤ g := by
 obtain ⟨A0, c0, hb, hg, hr0⟩ := h
 exact hg
theorem IsS87.ne_blk {w0 W : World} {g : Nat} {f0 : List Int} {f1 : Int} {a : Nat} {cs : Array Value} {t : TypeId} {fr : Nat × Nat} (h : IsS87 w0 W g f0 f1) (hb2 : W.heap[a]? = some (.cells cs t fr)) (ht : t ≠ 87) : g ≠ a := by
 obtain ⟨A0, c0, hb, hg, hr0⟩ := h
 rintro rfl
 rw [hb] at hb2
 injection hb2 with hb2
 injection hb2 with _ ht2
 exact ht ht2.symm
theorem IsS87.far {w0 W : World} {g : Nat} {f0 : List Int} {f1 : Int} {p : Addr} (h : IsS87 w0 W g f0 f1) (hne : g ≠ p.block) (u : Value) : IsS87 w0 (W.setCell p u) g f0 f1 := by
 obtain ⟨A0, c0, hb, hg, hr0⟩ := h
 exact ⟨A0, c0, blk_far hb hne u, hg, hr0⟩
theorem cellS87_0 {W : World} {g : Nat} {A0 : Option Addr} {c0 : Nat} {f0 : List Int} {f1 : Int} (h : W.heap[g]? = some (.cells #[.slice A0 f0.length c0, .int .i64 f1] 87 (0, 0))) : W.cell? ⟨g, 0, none⟩ = some (.slice A0 f0.length c0) := (blk_cell h 0).trans rfl
theorem cellS87_1 {W : World} {g : Nat} {A0 : Option Addr} {c0 : Nat} {f0 : List Int} {f1 : Int} (h : W.heap[g]? = some (.cells #[.slice A0 f0.length c0, .int .i64 f1] 87 (0, 0))) : W.cell? ⟨g, 1, none⟩ = some (.int .i64 f1) := (blk_cell h 1).trans rfl
theorem IsS87.set_1 {w0 W : World} {g : Nat} {f0 : List Int} {f1 : Int} (h : IsS87 w0 W g f0 f1) (x : Int) : IsS87 w0 (W.setCell ⟨g, 1, none⟩ (.int .i64 x)) g f0 x := by
 obtain ⟨A0, c0, hb, hg, hr0⟩ := h
 exact ⟨A0, c0, by simpa using blk_set hb 1 (.int .i64 x), hg, hr0⟩
theorem IsS87.new (w0 W : World) (A0 : Option Addr) (c0 : Nat) (f0 : List Int) (f1 : Int) (hB : Below w0.heap.size w0 W) (hr0 : Kd.C (Kd.int .u8) w0 A0 f0.length f0) : IsS87 w0 (W.alloc (.cells #[.slice A0 f0.length c0, .int .i64 f1] 87)) W.heap.size f0 f1 := ⟨A0, c0, by simpa using heap_alloc_new W _, hB.size, hr0⟩
theorem IsS87.a {w0 W : World} {g : Nat} {f0 : List Int} {f1 : Int} (h : IsS87 w0 W g f0 f1 := by repeat (first | (with_reducible first | exact Aside0.out (by assumption) | apply IsS87.alloc | apply IsS87.drewN | apply IsS87.drew | apply IsS87.set_1 | refine IsS87.far ?_ (Aside0.out (by assumption)) _) | exact Aside0.out (by assumption))) : IsS87 w0 W g f0 f1 := h

/-! ### spec_l1Source: function 51 -/
def spec_l1Source.f (l0 : List Int) : Option (List Int × Int) := some (l0, 0)
set_option maxHeartbeats 8000000 in
set_option maxRecDepth 100000 in
theorem spec_l1Source.calls (A0 : Option Addr) (c0 : Nat) (l0 : List Int) (r1 : List Int) (r2 : Int) (w0 w : World) (hB : Below w0.heap.size w0 w) (hr0 : Kd.C (Kd.int .u8) w0 A0 l0.length l0) (hc0 : l0.length ≤ c0) (h : spec_l1Source.f l0 = some (r1, r2)) :
  Calls Try.prog 51 #[.slice A0 l0.length c0] w fun e w' => ∃ g_ : Nat, e = .returned (.pointer (some ⟨g_, 0, none⟩)) ∧ IsS87 w0 w' g_ r1 r2 ∧ Below w0.heap.size w0 w' ∧ Below w.heap.size w w' := by
 have hu87 := Try.underlying87
 have HR0 := Aside0.mk hr0
 have HC0 := Aside0.mk hc0
 clear hr0 hc0
 have HBW := Aside0.mk (Below.refl w.heap.size w)
 have HW0 := Aside0.mk hB.size
 have HB := Aside0.mk hB
 clear hB
 have H : (some (l0, 0)) = some (r1, r2) := h
 clear h
 simp only [Option.some.injEq, Prod.mk.injEq] at H
 obtain ⟨rfl, rfl⟩ := H
 go_enter Try.func51, Try.ntmps51
 go_wp2_with (first | ((with_reducible refine gate_dst (N := 5) rfl ?_); refine box_event ?hg (N := 5) ?hd (cs := #[.slice A0 l0.length c0, .int .i64 0]) (t := 87) ?hr ?_; (case hd => rfl); (case hg => rfl); (case hr => first | (go_simp; done) | (go_simp; rfl)); intro gb159 hg w2 hbox hb; have n0_ := Aside0.mk (below_step HBW.out hb); have n1_ := Aside0.mk (below_step below_a hb); have BK159 := Aside0.mk (hbox); have GW159 := Aside0.mk ((by rw [hg]; exact (below_size (by repeat (first | (with_reducible first | exact HBW.out | apply below_alloc | apply pw_below_drewN | apply below_drew1) | exact HBW.out))) : w.heap.size ≤ gb159)); have GE159 := Aside0.mk ((Nat.le_trans HW0.out (by rw [hg]; exact (below_size (by repeat (first | (with_reducible first | exact HBW.out | apply below_alloc | apply pw_below_drewN | apply below_drew1) | exact HBW.out))) : w.heap.size ≤ gb159) : w0.heap.size ≤ gb159)); replace HBW := n0_; replace HB := n1_; clear n0_ n1_; clear hb hbox hg))
 go_ret
 exact ⟨_, rfl, (show IsS87 w0 _ gb159 l0 0 from ⟨_, _, blk_a, GE159.out, HR0.out⟩), below_a, by repeat (first | (with_reducible first | exact HBW.out | apply below_alloc | apply pw_below_drewN | apply below_drew1 | refine below_set ?_ GW159.out) | exact HBW.out)⟩

/-! ### spec_l1Next: function 53 -/
def spec_l1Next.f (s0_0 : List Int) (s0_1 : Int) (a1 : Int) : Option (Int × Int) := if a1 < 1 then (some (0, wrap64 (s0_1 + 1))) else (if (s0_0.length : Int) = 0 then (if a1 = 0 then (none) else (some (Int.tmod (wrap64 ((wrap64 ((wrap64 (s0_1 + 1)) - 1)) * 7)) a1, wrap64 (s0_1 + 1)))) else (if 0 ≤ (Int.tmod (wrap64 ((wrap64 (s0_1 + 1)) - 1)) (s0_0.length : Int)) then (if (Int.tmod (wrap64 ((wrap64 (s0_1 + 1)) - 1)) (s0_0.length : Int)) < (s0_0.length : Int) then (if a1 > 200 then (if 0 ≤ (Int.tmod (wrap64 ((wrap64 ((wrap64 (s0_1 + 1)) - 1)) + 1)) (s0_0.length : Int)) then (if (Int.tmod (wrap64 ((wrap64 ((wrap64 (s0_1 + 1)) - 1)) + 1)) (s0_0.length : Int)) < (s0_0.length : Int) then (if a1 > 60000 then (if 0 ≤ (Int.tmod (wrap64 ((wrap64 ((wrap64 (s0_1 + 1)) - 1)) + 2)) (s0_0.length : Int)) then (if (Int.tmod (wrap64 ((wrap64 ((wrap64 (s0_1 + 1)) - 1)) + 2)) (s0_0.length : Int)) < (s0_0.length : Int) then (if a1 = 0 then (none) else (some (Int.tmod (wrap64 ((wrap64 ((wrap64 ((wrap64 ((wrap64 ((wrap64 ((wrap64 (rd s0_0 (Int.tmod (wrap64 ((wrap64 (s0_1 + 1)) - 1)) (s0_0.length : Int)))) + (wrap64 ((wrap64 (Int.tdiv (wrap64 ((wrap64 (s0_1 + 1)) - 1)) (s0_0.length : Int))) * 37)))) * 251)) + (wrap64 ((wrap64 (rd s0_0 (Int.tmod (wrap64 ((wrap64 ((wrap64 (s0_1 + 1)) - 1)) + 1)) (s0_0.length : Int)))) * 13)))) + (wrap64 ((wrap64 (s0_1 + 1)) - 1)))) * 257)) + (wrap64 (rd s0_0 (Int.tmod (wrap64 ((wrap64 ((wrap64 (s0_1 + 1)) - 1)) + 2)) (s0_0.length : Int)))))) a1, wrap64 (s0_1 + 1)))) else (none)) else (none)) else (if a1 = 0 then (none) else (some (Int.tmod (wrap64 ((wrap64 ((wrap64 ((wrap64 ((wrap64 (rd s0_0 (Int.tmod (wrap64 ((wrap64 (s0_1 + 1)) - 1)) (s0_0.length : Int)))) + (wrap64 ((wrap64 (Int.tdiv (wrap64 ((wrap64 (s0_1 + 1)) - 1)) (s0_0.length : Int))) * 37)))) * 251)) + (wrap64 ((wrap64 (rd s0_0 (Int.tmod (wrap64 ((wrap64 ((wrap64 (s0_1 + 1)) - 1)) + 1)) (s0_0.length : Int)))) * 13)))) + (wrap64 ((wrap64 (s0_1 + 1)) - 1)))) a1, wrap64 (s0_1 + 1))))) else (none)) else (none)) else (if a1 > 60000 then (if 0 ≤ (Int.tmod (wrap64 ((wrap64 ((wrap64 (s0_1 + 1)) - 1)) + 2)) (s0_0.length : Int)) then (if (Int.tmod (wrap64 ((wrap64 ((wrap64 (s0_1 + 1)) - 1)) + 2)) (s0_0.length : Int)) < (s0_0.length : Int) then (if a1 = 0 then (none) else (some (Int.tmod (wrap64 ((wrap64 ((wrap64 ((wrap64 (rd s0_0 (Int.tmod (wrap64 ((wrap64 (s0_1 + 1)) - 1)) (s0_0.length : Int)))) + (wrap64 ((wrap64 (Int.tdiv (wrap64 ((wrap64 (s0_1 + 1)) - 1)) (s0_0.length : Int))) * 37)))) * 257)) + (wrap64 (rd s0_0 (Int.tmod (wrap64 ((wrap64 ((wrap64 (s0_1 + 1)) - 1)) + 2)) (s0_0.length : Int)))))) a1, wrap64 (s0_1 + 1)))) else (none)) else (none)) else (if a1 = 0 then (none) else (some (Int.tmod (wrap64 ((wrap64 (rd s0_0 (Int.tmod (wrap64 ((wrap64 (s0_1 + 1)) - 1)) (s0_0.length : Int)))) + (wrap64 ((wrap64 (Int.tdiv (wrap64 ((wrap64 (s0_1 + 1)) - 1)) (s0_0.length : Int))) * 37)))) a1, wrap64 (s0_1 + 1)))))) else (none)) else (none)))
set_option maxHeartbeats 8000000 in
set_option maxRecDepth 100000 in
theorem spec_l1Next.calls (g : Nat) (s0_0 : List Int) (s0_1 : Int) (a1 : Int) (r1 : Int) (r2 : Int) (w0 w : World) (hI : IsS87 w0 w g s0_0 s0_1) (hB : Below w0.heap.size w0 w) (h : spec_l1Next.f s0_0 s0_1 a1 = some (r1, r2)) :
  Calls Try.prog 53 #[.pointer (some ⟨g, 0, none⟩), .int .i64 a1] w fun e w' => e = .returned (.int .i64 r1) ∧ IsS87 w0 w' g s0_0 r2 ∧ Below w0.heap.size w0 w' ∧ KeepBut w w' g none := by
 have HI0 := Aside0.mk hI
 have HK := Aside0.mk (KeepBut.refl w g none)
 have HL := Aside0.mk hB.size
 clear hI
 have HW0 := Aside0.mk hB.size
 have HB := Aside0.mk hB
 clear hB
 have H : (if a1 < 1 then (some (0, wrap64 (s0_1 + 1))) else (if (s0_0.length : Int) = 0 then (if a1 = 0 then (none) else (some (Int.tmod (wrap64 ((wrap64 ((wrap64 (s0_1 + 1)) - 1)) * 7)) a1, wrap64 (s0_1 + 1)))) else (if 0 ≤ (Int.tmod (wrap64 ((wrap64 (s0_1 + 1)) - 1)) (s0_0.length : Int)) then (if (Int.tmod (wrap64 ((wrap64 (s0_1 + 1)) - 1)) (s0_0.length : Int)) < (s0_0.length : Int) then (if a1 > 200 then (if 0 ≤ (Int.tmod (wrap64 ((wrap64 ((wrap64 (s0_1 + 1)) - 1)) + 1)) (s0_0.length : Int)) then (if (Int.tmod (wrap64 ((wrap64 ((wrap64 (s0_1 + 1)) - 1)) + 1)) (s0_0.length : Int)) < (s0_0.length : Int) then (if a1 > 60000 then (if 0 ≤ (Int.tmod (wrap64 ((wrap64 ((wrap64 (s0_1 + 1)) - 1)) + 2)) (s0_0.length : Int)) then (if (Int.tmod (wrap64 ((wrap64 ((wrap64 (s0_1 + 1)) - 1)) + 2)) (s0_0.length : Int)) < (s0_0.length : Int) then (if a1 = 0 then (none) else (some (Int.tmod (wrap64 ((wrap64 ((wrap64 ((wrap64 ((wrap64 ((wrap64 ((wrap64 (rd s0_0 (Int.tmod (wrap64 ((wrap64 (s0_1 + 1)) - 1)) (s0_0.length : Int)))) + (wrap64 ((wrap64 (Int.tdiv (wrap64 ((wrap64 (s0_1 + 1)) - 1)) (s0_0.length : Int))) * 37)))) * 251)) + (wrap64 ((wrap64 (rd s0_0 (Int.tmod (wrap64 ((wrap64 ((wrap64 (s0_1 + 1)) - 1)) + 1)) (s0_0.length : Int)))) * 13)))) + (wrap64 ((wrap64 (s0_1 + 1)) - 1)))) * 257)) + (wrap64 (rd s0_0 (Int.tmod (wrap64 ((wrap64 ((wrap64 (s0_1 + 1)) - 1)) + 2)) (s0_0.length : Int)))))) a1, wrap64 (s0_1 + 1)))) else (none)) else (none)) else (if a1 = 0 then (none) else (some (Int.tmod (wrap64 ((wrap64 ((wrap64 ((wrap64 ((wrap64 (rd s0_0 (Int.tmod (wrap64 ((wrap64 (s0_1 + 1)) - 1)) (s0_0.length : Int)))) + (wrap64 ((wrap64 (Int.tdiv (wrap64 ((wrap64 (s0_1 + 1)) - 1)) (s0_0.length : Int))) * 37)))) * 251)) + (wrap64 ((wrap64 (rd s0_0 (Int.tmod (wrap64 ((wrap64 ((wrap64 (s0_1 + 1)) - 1)) + 1)) (s0_0.length : Int)))) * 13)))) + (wrap64 ((wrap64 (s0_1 + 1)) - 1)))) a1, wrap64 (s0_1 + 1))))) else (none)) else (none)) else (if a1 > 60000 then (if 0 ≤ (Int.tmod (wrap64 ((wrap64 ((wrap64 (s0_1 + 1)) - 1)) + 2)) (s0_0.length : Int)) then (if (Int.tmod (wrap64 ((wrap64 ((wrap64 (s0_1 + 1)) - 1)) + 2)) (s0_0.length : Int)) < (s0_0.length : Int) then (if a1 = 0 then (none) else (some (Int.tmod (wrap64 ((wrap64 ((wrap64 ((wrap64 (rd s0_0 (Int.tmod (wrap64 ((wrap64 (s0_1 + 1)) - 1)) (s0_0.length : Int)))) + (wrap64 ((wrap64 (Int.tdiv (wrap64 ((wrap64 (s0_1 + 1)) - 1)) (s0_0.length : Int))) * 37)))) * 257)) + (wrap64 (rd s0_0 (Int.tmod (wrap64 ((wrap64 ((wrap64 (s0_1 + 1)) - 1)) + 2)) (s0_0.length : Int)))))) a1, wrap64 (s0_1 + 1)))) else (none)) else (none)) else (if a1 = 0 then (none) else (some (Int.tmod (wrap64 ((wrap64 (rd s0_0 (Int.tmod (wrap64 ((wrap64 (s0_1 + 1)) - 1)) (s0_0.length : Int)))) + (wrap64 ((wrap64 (Int.tdiv (wrap64 ((wrap64 (s0_1 + 1)) - 1)) (s0_0.length : Int))) * 37)))) a1, wrap64 (s0_1 + 1)))))) else (none)) else (none)))) = some (r1, r2) := h
 clear h
 by_cases c3 : a1 < 1
 ·
  rw [if_pos c3] at H; have c3b0 : decide (a1 < 1) = true := decide_eq_true c3; clear c3; simp only [Option.some.injEq, Prod.mk.injEq] at H; obtain ⟨rfl, rfl⟩ := H; obtain ⟨ASz4_0, cSz4_0, HGz4, hgz4, HSz4_0⟩ := HI0.out; have hcz4_0 := cellS87_0 HGz4; have hcz4_1 := cellS87_1 HGz4; have hfz4_1 := blk_frozen HGz4 1; clear HGz4 hgz4
  go_enter Try.func53, Try.ntmps53
  go_wp2
  repeat (go_quiet (fail); try go_wp2)
  go_ret
  exact ⟨eq_a, IsS87.a, by repeat (first | (with_reducible first | exact HB.out | apply below_alloc | apply pw_below_drewN | apply below_drew1 | refine below_set ?_ (IsS87.ge HI0.out)) | exact HB.out), by repeat (first | (with_reducible first | exact HK.out | apply KeepBut.set_ | apply keep_drewN | apply keep_drew | apply keep_alloc) | exact HK.out)⟩
 ·
  rw [if_neg c3] at H; have c3b0 : decide (a1 < 1) = false := decide_eq_false c3; clear c3
  by_cases c5 : (s0_0.length : Int) = 0
  ·
   rw [if_pos c5] at H; have c5b0 : ((s0_0.length : Int) == 0) = true := beq_iff_eq.mpr c5; have c5b1 : ((s0_0.length : Int) != 0) = false := bne_eq_false_iff_eq.mpr c5; clear c5
   by_cases c6 : a1 = 0
   ·
    rw [if_pos c6] at H; exact absurd H (by simp)
   ·
    rw [if_neg c6] at H; have c6b0 : (a1 == 0) = false := beq_eq_false_iff_ne.mpr c6; have c6b1 : (a1 != 0) = true := bne_iff_ne.mpr c6; simp only [Option.some.injEq, Prod.mk.injEq] at H; obtain ⟨rfl, rfl⟩ := H; obtain ⟨ASz7_0, cSz7_0, HGz7, hgz7, HSz7_0⟩ := HI0.out; have hcz7_0 := cellS87_0 HGz7; have hcz7_1 := cellS87_1 HGz7; have hfz7_1 := blk_frozen HGz7 1; clear HGz7 hgz7
    go_enter Try.func53, Try.ntmps53
    go_wp2
    repeat (go_quiet (fail); try go_wp2)
    go_ret
    exact ⟨eq_a, IsS87.a, by repeat (first | (with_reducible first | exact HB.out | apply below_alloc | apply pw_below_drewN | apply below_drew1 | refine below_set ?_ (IsS87.ge HI0.out)) | exact HB.out), by repeat (first | (with_reducible first | exact HK.out | apply KeepBut.set_ | apply keep_drewN | apply keep_drew | apply keep_alloc) | exact HK.out)⟩
  ·
   rw [if_neg c5] at H; have c5b0 : ((s0_0.length : Int) == 0) = false := beq_eq_false_iff_ne.mpr c5; have c5b1 : ((s0_0.length : Int) != 0) = true := bne_iff_ne.mpr c5; have c5b2 : ¬ (s0_0 = []) := fun h_ => c5 (by rw [h_]; rfl); obtain ⟨ji8, hji8⟩ : ∃ j_ : Int, (Int.tmod (wrap64 ((wrap64 (s0_1 + 1)) - 1)) (s0_0.length : Int)) = j_ := ⟨_, rfl⟩; replace H : (if 0 ≤ (ji8) then (if (ji8) < (s0_0.length : Int) then (if a1 > 200 then (if 0 ≤ (Int.tmod (wrap64 ((wrap64 ((wrap64 (s0_1 + 1)) - 1)) + 1)) (s0_0.length : Int)) then (if (Int.tmod (wrap64 ((wrap64 ((wrap64 (s0_1 + 1)) - 1)) + 1)) (s0_0.length : Int)) < (s0_0.length : Int) then (if a1 > 60000 then (if 0 ≤ (Int.tmod (wrap64 ((wrap64 ((wrap64 (s0_1 + 1)) - 1)) + 2)) (s0_0.length : Int)) then (if (Int.tmod (wrap64 ((wrap64 ((wrap64 (s0_1 + 1)) - 1)) + 2)) (s0_0.length : Int)) < (s0_0.length : Int) then (if a1 = 0 then (none) else (some (Int.tmod (wrap64 ((wrap64 ((wrap64 ((wrap64 ((wrap64 ((wrap64 ((wrap64 (rd s0_0 (ji8))) + (wrap64 ((wrap64 (Int.tdiv (wrap64 ((wrap64 (s0_1 + 1)) - 1)) (s0_0.length : Int))) * 37)))) * 251)) + (wrap64 ((wrap64 (rd s0_0 (Int.tmod (wrap64 ((wrap64 ((wrap64 (s0_1 + 1)) - 1)) + 1)) (s0_0.length : Int)))) * 13)))) + (wrap64 ((wrap64 (s0_1 + 1)) - 1)))) * 257)) + (wrap64 (rd s0_0 (Int.tmod (wrap64 ((wrap64 ((wrap64 (s0_1 + 1)) - 1)) + 2)) (s0_0.length : Int)))))) a1, wrap64 (s0_1 + 1)))) else (none)) else (none)) else (if a1 = 0 then (none) else (some (Int.tmod (wrap64 ((wrap64 ((wrap64 ((wrap64 ((wrap64 (rd s0_0 (ji8))) + (wrap64 ((wrap64 (Int.tdiv (wrap64 ((wrap64 (s0_1 + 1)) - 1)) (s0_0.length : Int))) * 37)))) * 251)) + (wrap64 ((wrap64 (rd s0_0 (Int.tmod (wrap64 ((wrap64 ((wrap64 (s0_1 + 1)) - 1)) + 1)) (s0_0.length : Int)))) * 13)))) + (wrap64 ((wrap64 (s0_1 + 1)) - 1)))) a1, wrap64 (s0_1 + 1))))) else (none)) else (none)) else (if a1 > 60000 then (if 0 ≤ (Int.tmod (wrap64 ((wrap64 ((wrap64 (s0_1 + 1)) - 1)) + 2)) (s0_0.length : Int)) then (if (Int.tmod (wrap64 ((wrap64 ((wrap64 (s0_1 + 1)) - 1)) + 2)) (s0_0.length : Int)) < (s0_0.length : Int) then (if a1 = 0 then (none) else (some (Int.tmod (wrap64 ((wrap64 ((wrap64 ((wrap64 (rd s0_0 (ji8))) + (wrap64 ((wrap64 (Int.tdiv (wrap64 ((wrap64 (s0_1 + 1)) - 1)) (s0_0.length : Int))) * 37)))) * 257)) + (wrap64 (rd s0_0 (Int.tmod (wrap64 ((wrap64 ((wrap64 (s0_1 + 1)) - 1)) + 2)) (s0_0.length : Int)))))) a1, wrap64 (s0_1 + 1)))) else (none)) else (none)) else (if a1 = 0 then (none) else (some (Int.tmod (wrap64 ((wrap64 (rd s0_0 (ji8))) + (wrap64 ((wrap64 (Int.tdiv (wrap64 ((wrap64 (s0_1 + 1)) - 1)) (s0_0.length : Int))) * 37)))) a1, wrap64 (s0_1 + 1)))))) else (none)) else (none)) = some (r1, r2) := by first | (rw [hji8] at H; exact H) | (simp only [hji8] at H ⊢; exact H)
   by_cases c9 : 0 ≤ (ji8)
   ·
    rw [if_pos c9] at H; have c9b0 : decide (0 ≤ (ji8)) = true := decide_eq_true c9; clear c9
    by_cases c10 : (ji8) < (s0_0.length : Int)
    ·
     rw [if_pos c10] at H; have c10b0 : decide ((ji8) < (s0_0.length : Int)) = true := decide_eq_true c10; clear c10
     by_cases c11 : a1 > 200
     ·
      rw [if_pos c11] at H; have c11b0 : decide (200 < a1) = true := decide_eq_true c11; clear c11; obtain ⟨ji12, hji12⟩ : ∃ j_ : Int, (Int.tmod (wrap64 ((wrap64 ((wrap64 (s0_1 + 1)) - 1)) + 1)) (s0_0.length : Int)) = j_ := ⟨_, rfl⟩; replace H : (if 0 ≤ (ji12) then (if (ji12) < (s0_0.length : Int) then (if a1 > 60000 then (if 0 ≤ (Int.tmod (wrap64 ((wrap64 ((wrap64 (s0_1 + 1)) - 1)) + 2)) (s0_0.length : Int)) then (if (Int.tmod (wrap64 ((wrap64 ((wrap64 (s0_1 + 1)) - 1)) + 2)) (s0_0.length : Int)) < (s0_0.length : Int) then (if a1 = 0 then (none) else (some (Int.tmod (wrap64 ((wrap64 ((wrap64 ((wrap64 ((wrap64 ((wrap64 ((wrap64 (rd s0_0 (ji8))) + (wrap64 ((wrap64 (Int.tdiv (wrap64 ((wrap64 (s0_1 + 1)) - 1)) (s0_0.length : Int))) * 37)))) * 251)) + (wrap64 ((wrap64 (rd s0_0 (ji12))) * 13)))) + (wrap64 ((wrap64 (s0_1 + 1)) - 1)))) * 257)) + (wrap64 (rd s0_0 (Int.tmod (wrap64 ((wrap64 ((wrap64 (s0_1 + 1)) - 1)) + 2)) (s0_0.length : Int)))))) a1, wrap64 (s0_1 + 1)))) else (none)) else (none)) else (if a1 = 0 then (none) else (some (Int.tmod (wrap64 ((wrap64 ((wrap64 ((wrap64 ((wrap64 (rd s0_0 (ji8))) + (wrap64 ((wrap64 (Int.tdiv (wrap64 ((wrap64 (s0_1 + 1)) - 1)) (s0_0.length : Int))) * 37)))) * 251)) + (wrap64 ((wrap64 (rd s0_0 (ji12))) * 13)))) + (wrap64 ((wrap64 (s0_1 + 1)) - 1)))) a1, wrap64 (s0_1 + 1))))) else (none)) else (none)) = some (r1, r2) := by first | (rw [hji12] at H; exact H) | (simp only [hji12] at H ⊢; exact H)
      by_cases c13 : 0 ≤ (ji12)
      ·
       rw [if_pos c13] at H; have c13b0 : decide (0 ≤ (ji12)) = true := decide_eq_true c13; clear c13
       by_cases c14 : (ji12) < (s0_0.length : Int)
       ·
        rw [if_pos c14] at H; have c14b0 : decide ((ji12) < (s0_0.length : Int)) = true := decide_eq_true c14; clear c14
        by_cases c15 : a1 > 60000
        ·
         rw [if_pos c15] at H; have c15b0 : decide (60000 < a1) = true := decide_eq_true c15; clear c15; obtain ⟨ji16, hji16⟩ : ∃ j_ : Int, (Int.tmod (wrap64 ((wrap64 ((wrap64 (s0_1 + 1)) - 1)) + 2)) (s0_0.length : Int)) = j_ := ⟨_, rfl⟩; replace H : (if 0 ≤ (ji16) then (if (ji16) < (s0_0.length : Int) then (if a1 = 0 then (none) else (some (Int.tmod (wrap64 ((wrap64 ((wrap64 ((wrap64 ((wrap64 ((wrap64 ((wrap64 (rd s0_0 (ji8))) + (wrap64 ((wrap64 (Int.tdiv (wrap64 ((wrap64 (s0_1 + 1)) - 1)) (s0_0.length : Int))) * 37)))) * 251)) + (wrap64 ((wrap64 (rd s0_0 (ji12))) * 13)))) + (wrap64 ((wrap64 (s0_1 + 1)) - 1)))) * 257)) + (wrap64 (rd s0_0 (ji16))))) a1, wrap64 (s0_1 + 1)))) else (none)) else (none)) = some (r1, r2) := by first | (rw [hji16] at H; exact H) | (simp only [hji16] at H ⊢; exact H)
         by_cases c17 : 0 ≤ (ji16)
         ·
          rw [if_pos c17] at H; have c17b0 : decide (0 ≤ (ji16)) = true := decide_eq_true c17; clear c17
          by_cases c18 : (ji16) < (s0_0.length : Int)
          ·
           rw [if_pos c18] at H; have c18b0 : decide ((ji16) < (s0_0.length : Int)) = true := decide_eq_true c18; clear c18
           by_cases c19 : a1 = 0
           ·
            rw [if_pos c19] at H; exact absurd H (by simp)
           ·
            rw [if_neg c19] at H; have c19b0 : (a1 == 0) = false := beq_eq_false_iff_ne.mpr c19; have c19b1 : (a1 != 0) = true := bne_iff_ne.mpr c19; simp only [Option.some.injEq, Prod.mk.injEq] at H; obtain ⟨rfl, rfl⟩ := H; obtain ⟨ASz20_0, cSz20_0, HGz20, hgz20, HSz20_0⟩ := HI0.out; have hcz20_0 := cellS87_0 HGz20; have hcz20_1 := cellS87_1 HGz20; have hfz20_1 := blk_frozen HGz20 1; clear HGz20 hgz20; have p160 : 0 ≤ ((ji8) : Int) := of_decide_eq_true (by first | (with_reducible assumption) | assumption); have q160 : (ji8) < (s0_0.length : Int) := of_decide_eq_true (by first | (with_reducible assumption) | assumption); obtain ⟨ad160, e160, hx160_0⟩ := Kd.at_int HSz20_0 (ji8) p160 q160
            cases e160
            have hn160_0 : ad160.block ≠ g := Nat.ne_of_lt (Nat.lt_of_lt_of_le (by have := World.block_lt_of_cell? _ _ hx160_0; first | rwa [add_block] at this | exact this) (IsS87.ge HI0.out)); replace hx160_0 := pw_cell_below HB.out hx160_0; replace hx160_0 := (cell_far (p := ⟨g, 1, none⟩) (by first | (rw [add_block]; exact hn160_0) | (show (Addr.add _ _).block ≠ _; rw [add_block]; exact hn160_0) | exact hn160_0) (.int .i64 (wrap64 (s0_1 + 1)))).trans hx160_0; (try have hy160_0 := fun (n_ : Nat) => (show (((w.drewN n_).setCell ⟨g, 1, none⟩ (.int .i64 (wrap64 (s0_1 + 1))))).cell? _ = some _ from by simp only [setCell_drewN_, World.cell?_drewN]; exact hx160_0)); clear hn160_0; replace p160 := eq_true p160; replace q160 := eq_true q160; have p161 : 0 ≤ ((ji12) : Int) := of_decide_eq_true (by first | (with_reducible assumption) | assumption); have q161 : (ji12) < (s0_0.length : Int) := of_decide_eq_true (by first | (with_reducible assumption) | assumption); obtain ⟨ad161, e161, hx161_0⟩ := Kd.at_int HSz20_0 (ji12) p161 q161; obtain rfl : ad160 = ad161 := (by injection e161); have hn161_0 : ad160.block ≠ g := Nat.ne_of_lt (Nat.lt_of_lt_of_le (by have := World.block_lt_of_cell? _ _ hx161_0; first | rwa [add_block] at this | exact this) (IsS87.ge HI0.out)); replace hx161_0 := pw_cell_below HB.out hx161_0; replace hx161_0 := (cell_far (p := ⟨g, 1, none⟩) (by first | (rw [add_block]; exact hn161_0) | (show (Addr.add _ _).block ≠ _; rw [add_block]; exact hn161_0) | exact hn161_0) (.int .i64 (wrap64 (s0_1 + 1)))).trans hx161_0; (try have hy161_0 := fun (n_ : Nat) => (show (((w.drewN n_).setCell ⟨g, 1, none⟩ (.int .i64 (wrap64 (s0_1 + 1))))).cell? _ = some _ from by simp only [setCell_drewN_, World.cell?_drewN]; exact hx161_0)); clear hn161_0; replace p161 := eq_true p161; replace q161 := eq_true q161; have p162 : 0 ≤ ((ji16) : Int) := of_decide_eq_true (by first | (with_reducible assumption) | assumption); have q162 : (ji16) < (s0_0.length : Int) := of_decide_eq_true (by first | (with_reducible assumption) | assumption); obtain ⟨ad162, e162, hx162_0⟩ := Kd.at_int HSz20_0 (ji16) p162 q162; obtain rfl : ad160 = ad162 := (by injection e162); have hn162_0 : ad160.block ≠ g := Nat.ne_of_lt (Nat.lt_of_lt_of_le (by have := World.block_lt_of_cell? _ _ hx162_0; first | rwa [add_block] at this | exact this) (IsS87.ge HI0.out)); replace hx162_0 := pw_cell_below HB.out hx162_0; replace hx162_0 := (cell_far (p := ⟨g, 1, none⟩) (by first | (rw [add_block]; exact hn162_0) | (show (Addr.add _ _).block ≠ _; rw [add_block]; exact hn162_0) | exact hn162_0) (.int .i64 (wrap64 (s0_1 + 1)))).trans hx162_0; (try have hy162_0 := fun (n_ : Nat) => (show (((w.drewN n_).setCell ⟨g, 1, none⟩ (.int .i64 (wrap64 (s0_1 + 1))))).cell? _ = some _ from by simp only [setCell_drewN_, World.cell?_drewN]; exact hx162_0)); clear hn162_0; replace p162 := eq_true p162; replace q162 := eq_true q162
            go_enter Try.func53, Try.ntmps53
            go_wp2
            repeat (go_quiet (fail); try go_wp2)
            go_ret
            exact ⟨by first | rfl | (simp [errW_none, errW_some] <;> rfl) | (simp only [← hji8, ← hji12, ← hji16]; first | rfl | (simp [errW_none, errW_some] <;> rfl)) | (simp [*, errW_none, errW_some] <;> rfl), IsS87.a, by repeat (first | (with_reducible first | exact HB.out | apply below_alloc | apply pw_below_drewN | apply below_drew1 | refine below_set ?_ (IsS87.ge HI0.out)) | exact HB.out), by repeat (first | (with_reducible first | exact HK.out | apply KeepBut.set_ | apply keep_drewN | apply keep_drew | apply keep_alloc) | exact HK.out)⟩
          ·
           rw [if_neg c18] at H; exact absurd H (by simp)
         ·
          rw [if_neg c17] at H; exact absurd H (by simp)
        ·
         rw [if_neg c15] at H; have c15b0 : decide (60000 < a1) = false := decide_eq_false c15; clear c15
         by_cases c21 : a1 = 0
         ·
          rw [if_pos c21] at H; exact absurd H (by simp)
         ·
          rw [if_neg c21] at H; have c21b0 : (a1 == 0) = false := beq_eq_false_iff_ne.mpr c21; have c21b1 : (a1 != 0) = true := bne_iff_ne.mpr c21; simp only [Option.some.injEq, Prod.mk.injEq] at H; obtain ⟨rfl, rfl⟩ := H; obtain ⟨ASz22_0, cSz22_0, HGz22, hgz22, HSz22_0⟩ := HI0.out; have hcz22_0 := cellS87_0 HGz22; have hcz22_1 := cellS87_1 HGz22; have hfz22_1 := blk_frozen HGz22 1; clear HGz22 hgz22; have p160 : 0 ≤ ((ji8) : Int) := of_decide_eq_true (by first | (with_reducible assumption) | assumption); have q160 : (ji8) < (s0_0.length : Int) := of_decide_eq_true (by first | (with_reducible assumption) | assumption); obtain ⟨ad160, e160, hx160_0⟩ := Kd.at_int HSz22_0 (ji8) p160 q160
          cases e160
          have hn160_0 : ad160.block ≠ g := Nat.ne_of_lt (Nat.lt_of_lt_of_le (by have := World.block_lt_of_cell? _ _ hx160_0; first | rwa [add_block] at this | exact this) (IsS87.ge HI0.out)); replace hx160_0 := pw_cell_below HB.out hx160_0; replace hx160_0 := (cell_far (p := ⟨g, 1, none⟩) (by first | (rw [add_block]; exact hn160_0) | (show (Addr.add _ _).block ≠ _; rw [add_block]; exact hn160_0) | exact hn160_0) (.int .i64 (wrap64 (s0_1 + 1)))).trans hx160_0; (try have hy160_0 := fun (n_ : Nat) => (show (((w.drewN n_).setCell ⟨g, 1, none⟩ (.int .i64 (wrap64 (s0_1 + 1))))).cell? _ = some _ from by simp only [setCell_drewN_, World.cell?_drewN]; exact hx160_0)); clear hn160_0; replace p160 := eq_true p160; replace q160 := eq_true q160; have p161 : 0 ≤ ((ji12) : Int) := of_decide_eq_true (by first | (with_reducible assumption) | assumption); have q161 : (ji12) < (s0_0.length : Int) := of_decide_eq_true (by first | (with_reducible assumption) | assumption); obtain ⟨ad161, e161, hx161_0⟩ := Kd.at_int HSz22_0 (ji12) p161 q161; obtain rfl : ad160 = ad161 := (by injection e161); have hn161_0 : ad160.block ≠ g := Nat.ne_of_lt (Nat.lt_of_lt_of_le (by have := World.block_lt_of_cell? _ _ hx161_0; first | rwa [add_block] at this | exact this) (IsS87.ge HI0.out)); replace hx161_0 := pw_cell_below HB.out hx161_0; replace hx161_0 := (cell_far (p := ⟨g, 1, none⟩) (by first | (rw [add_block]; exact hn161_0) | (show (Addr.add _ _).block ≠ _; rw [add_block]; exact hn161_0) | exact hn161_0) (.int .i64 (wrap64 (s0_1 + 1)))).trans hx161_0; (try have hy161_0 := fun (n_ : Nat) => (show (((w.drewN n_).setCell ⟨g, 1, none⟩ (.int .i64 (wrap64 (s0_1 + 1))))).cell? _ = some _ from by simp only [setCell_drewN_, World.cell?_drewN]; exact hx161_0)); clear hn161_0; replace p161 := eq_true p161; replace q161 := eq_true q161
          go_enter Try.func53, Try.ntmps53
          go_wp2
          repeat (go_quiet (fail); try go_wp2)
          go_ret
          exact ⟨by first | rfl | (simp [errW_none, errW_some] <;> rfl) | (simp only [← hji8, ← hji12]; first | rfl | (simp [errW_none, errW_some] <;> rfl)) | (simp [*, errW_none, errW_some] <;> rfl), IsS87.a, by repeat (first | (with_reducible first | exact HB.out | apply below_alloc | apply pw_below_drewN | apply below_drew1 | refine below_set ?_ (IsS87.ge HI0.out)) | exact HB.out), by repeat (first | (with_reducible first | exact HK.out | apply KeepBut.set_ | apply keep_drewN | apply keep_drew | apply keep_alloc) | exact HK.out)⟩
       ·
        rw [if_neg c14] at H; exact absurd H (by simp)
      ·
       rw [if_neg c13] at H; exact absurd H (by simp)
     ·
      rw [if_neg c11] at H; have c11b0 : decide (200 < a1) = false := decide_eq_false c11; clear c11
      by_cases c23 : a1 > 60000
      ·
       rw [if_pos c23] at H; have c23b0 : decide (60000 < a1) = true := decide_eq_true c23; clear c23; obtain ⟨ji24, hji24⟩ : ∃ j_ : Int, (Int.tmod (wrap64 ((wrap64 ((wrap64 (s0_1 + 1)) - 1)) + 2)) (s0_0.length : Int)) = j_ := ⟨_, rfl⟩; replace H : (if 0 ≤ (ji24) then (if (ji24) < (s0_0.length : Int) then (if a1 = 0 then (none) else (some (Int.tmod (wrap64 ((wrap64 ((wrap64 ((wrap64 (rd s0_0 (ji8))) + (wrap64 ((wrap64 (Int.tdiv (wrap64 ((wrap64 (s0_1 + 1)) - 1)) (s0_0.length : Int))) * 37)))) * 257)) + (wrap64 (rd s0_0 (ji24))))) a1, wrap64 (s0_1 + 1)))) else (none)) else (none)) = some (r1, r2) := by first | (rw [hji24] at H; exact H) | (simp only [hji24] at H ⊢; exact H)
       by_cases c25 : 0 ≤ (ji24)
       ·
        rw [if_pos c25] at H; have c25b0 : decide (0 ≤ (ji24)) = true := decide_eq_true c25; clear c25
        by_cases c26 : (ji24) < (s0_0.length : Int)
        ·
         rw [if_pos c26] at H; have c26b0 : decide ((ji24) < (s0_0.length : Int)) = true := decide_eq_true c26; clear c26
         by_cases c27 : a1 = 0
         ·
          rw [if_pos c27] at H; exact absurd H (by simp)
         ·
          rw [if_neg c27] at H; have c27b0 : (a1 == 0) = false := beq_eq_false_iff_ne.mpr c27; have c27b1 : (a1 != 0) = true := bne_iff_ne.mpr c27; simp only [Option.some.injEq, Prod.mk.injEq] at H; obtain ⟨rfl, rfl⟩ := H; obtain ⟨ASz28_0, cSz28_0, HGz28, hgz28, HSz28_0⟩ := HI0.out; have hcz28_0 := cellS87_0 HGz28; have hcz28_1 := cellS87_1 HGz28; have hfz28_1 := blk_frozen HGz28 1; clear HGz28 hgz28; have p160 : 0 ≤ ((ji8) : Int) := of_decide_eq_true (by first | (with_reducible assumption) | assumption); have q160 : (ji8) < (s0_0.length : Int) := of_decide_eq_true (by first | (with_reducible assumption) | assumption); obtain ⟨ad160, e160, hx160_0⟩ := Kd.at_int HSz28_0 (ji8) p160 q160
          cases e160
          have hn160_0 : ad160.block ≠ g := Nat.ne_of_lt (Nat.lt_of_lt_of_le (by have := World.block_lt_of_cell? _ _ hx160_0; first | rwa [add_block] at this | exact this) (IsS87.ge HI0.out)); replace hx160_0 := pw_cell_below HB.out hx160_0; replace hx160_0 := (cell_far (p := ⟨g, 1, none⟩) (by first | (rw [add_block]; exact hn160_0) | (show (Addr.add _ _).block ≠ _; rw [add_block]; exact hn160_0) | exact hn160_0) (.int .i64 (wrap64 (s0_1 + 1)))).trans hx160_0; (try have hy160_0 := fun (n_ : Nat) => (show (((w.drewN n_).setCell ⟨g, 1, none⟩ (.int .i64 (wrap64 (s0_1 + 1))))).cell? _ = some _ from by simp only [setCell_drewN_, World.cell?_drewN]; exact hx160_0)); clear hn160_0; replace p160 := eq_true p160; replace q160 := eq_true q160; have p163 : 0 ≤ ((ji24) : Int) := of_decide_eq_true (by first | (with_reducible assumption) | assumption); have q163 : (ji24) < (s0_0.length : Int) := of_decide_eq_true (by first | (with_reducible assumption) | assumption); obtain ⟨ad163, e163, hx163_0⟩ := Kd.at_int HSz28_0 (ji24) p163 q163; obtain rfl : ad160 = ad163 := (by injection e163); have hn163_0 : ad160.block ≠ g := Nat.ne_of_lt (Nat.lt_of_lt_of_le (by have := World.block_lt_of_cell? _ _ hx163_0; first | rwa [add_block] at this | exact this) (IsS87.ge HI0.out)); replace hx163_0 := pw_cell_below HB.out hx163_0; replace hx163_0 := (cell_far (p := ⟨g, 1, none⟩) (by first | (rw [add_block]; exact hn163_0) | (show (Addr.add _ _).block ≠ _; rw [add_block]; exact hn163_0) | exact hn163_0) (.int .i64 (wrap64 (s0_1 + 1)))).trans hx163_0; (try have hy163_0 := fun (n_ : Nat) => (show (((w.drewN n_).setCell ⟨g, 1, none⟩ (.int .i64 (wrap64 (s0_1 + 1))))).cell? _ = some _ from by simp only [setCell_drewN_, World.cell?_drewN]; exact hx163_0)); clear hn163_0; replace p163 := eq_true p163; replace q163 := eq_true q163
          go_enter Try.func53, Try.ntmps53
          go_wp2
          repeat (go_quiet (fail); try go_wp2)
          go_ret
          exact ⟨by first | rfl | (simp [errW_none, errW_some] <;> rfl) | (simp only [← hji8, ← hji24]; first | rfl | (simp [errW_none, errW_some] <;> rfl)) | (simp [*, errW_none, errW_some] <;> rfl), IsS87.a, by repeat (first | (with_reducible first | exact HB.out | apply below_alloc | apply pw_below_drewN | apply below_drew1 | refine below_set ?_ (IsS87.ge HI0.out)) | exact HB.out), by repeat (first | (with_reducible first | exact HK.out | apply KeepBut.set_ | apply keep_drewN | apply keep_drew | apply keep_alloc) | exact HK.out)⟩
        ·
         rw [if_neg c26] at H; exact absurd H (by simp)
       ·
        rw [if_neg c25] at H; exact absurd H (by simp)
      ·
       rw [if_neg c23] at H; have c23b0 : decide (60000 < a1) = false := decide_eq_false c23; clear c23
       by_cases c29 : a1 = 0
       ·
        rw [if_pos c29] at H; exact absurd H (by simp)
       ·
        rw [if_neg c29] at H; have c29b0 : (a1 == 0) = false := beq_eq_false_iff_ne.mpr c29; have c29b1 : (a1 != 0) = true := bne_iff_ne.mpr c29; simp only [Option.some.injEq, Prod.mk.injEq] at H; obtain ⟨rfl, rfl⟩ := H; obtain ⟨ASz30_0, cSz30_0, HGz30, hgz30, HSz30_0⟩ := HI0.out; have hcz30_0 := cellS87_0 HGz30; have hcz30_1 := cellS87_1 HGz30; have hfz30_1 := blk_frozen HGz30 1; clear HGz30 hgz30; have p160 : 0 ≤ ((ji8) : Int) := of_decide_eq_true (by first | (with_reducible assumption) | assumption); have q160 : (ji8) < (s0_0.length : Int) := of_decide_eq_true (by first | (with_reducible assumption) | assumption); obtain ⟨ad160, e160, hx160_0⟩ := Kd.at_int HSz30_0 (ji8) p160 q160
        cases e160
        have hn160_0 : ad160.block ≠ g := Nat.ne_of_lt (Nat.lt_of_lt_of_le (by have := World.block_lt_of_cell? _ _ hx160_0; first | rwa [add_block] at this | exact this) (IsS87.ge HI0.out)); replace hx160_0 := pw_cell_below HB.out hx160_0; replace hx160_0 := (cell_far (p := ⟨g, 1, none⟩) (by first | (rw [add_block]; exact hn160_0) | (show (Addr.add _ _).block ≠ _; rw [add_block]; exact hn160_0) | exact hn160_0) (.int .i64 (wrap64 (s0_1 + 1)))).trans hx160_0; (try have hy160_0 := fun (n_ : Nat) => (show (((w.drewN n_).setCell ⟨g, 1, none⟩ (.int .i64 (wrap64 (s0_1 + 1))))).cell? _ = some _ from by simp only [setCell_drewN_, World.cell?_drewN]; exact hx160_0)); clear hn160_0; replace p160 := eq_true p160; replace q160 := eq_true q160
        go_enter Try.func53, Try.ntmps53
        go_wp2
        repeat (go_quiet (fail); try go_wp2)
        go_ret
        exact ⟨by first | rfl | (simp [errW_none, errW_some] <;> rfl) | (simp only [← hji8]; first | rfl | (simp [errW_none, errW_some] <;> rfl)) | (simp [*, errW_none, errW_some] <;> rfl), IsS87.a, by repeat (first | (with_reducible first | exact HB.out | apply below_alloc | apply pw_below_drewN | apply below_drew1 | refine below_set ?_ (IsS87.ge HI0.out)) | exact HB.out), by repeat (first | (with_reducible first | exact HK.out | apply KeepBut.set_ | apply keep_drewN | apply keep_drew | apply keep_alloc) | exact HK.out)⟩
    ·
     rw [if_neg c10] at H; exact absurd H (by simp)
   ·
    rw [if_neg c9] at H; exact absurd H (by simp)

end Go.Proofs.Ytllkeaghjacalaa.MFnNames
