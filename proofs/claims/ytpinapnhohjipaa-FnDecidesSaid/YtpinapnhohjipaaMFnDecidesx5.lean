-- Laid by a program of this session (the kit's print, turned where it falls short; the texts of functions that it does not take are proved by hand).
import Derived.Test.YtpinapnhohjipaaMFnDecidesx0
import Derived.Test.YtpinapnhohjipaaMFnDecidesx3
import Derived.Test.YtpinapnhohjipaaMFnDecidesx4
namespace Go.Proofs.Ytpinapnhohjipaa.MFnDecides
open Go.RowKit Go.Proofs.YtpinapnhohjipaaW.PrintWords Go.Proofs.YtpinapnhohjipaaW.PrintLast Go.Proofs.YtpinapnhohjipaaW.PrintMore
attribute [local go_sem] max2_int min2_int max_two min_two max_three min_three max_four min_four   -- for this text's walks alone
set_option linter.unusedVariables false
set_option linter.unusedSimpArgs false

attribute [local go_sem] isSome_setCell
/-! ### impl_RefuteBy: function 36 -/
mutual
def impl_RefuteBy.j0 : Nat → Int → Int → Int → Int → Int → Int → Int → Int → Int → Option (Int × Int × Int × Int × Int × Bool)
 | 0, _, _, _, _, _, _, _, _, _ => none
 | k + 1, x5, x210000, x210001, x210002, x210003, x211000, x211001, x211002, x211003 => if x5 = 0 then (impl_RefuteBy.j1 k x5 (x210000 != x211000) x210000 x210001 x210002 x210003 x211000 x211001 x211002 x211003) else (impl_RefuteBy.j1 k x5 false x210000 x210001 x210002 x210003 x211000 x211001 x211002 x211003)
def impl_RefuteBy.j1 : Nat → Int → Bool → Int → Int → Int → Int → Int → Int → Int → Int → Option (Int × Int × Int × Int × Int × Bool)
 | 0, _, _, _, _, _, _, _, _, _, _ => none
 | k + 1, x5, x21, x210000, x210001, x210002, x210003, x211000, x211001, x211002, x211003 => if x21 = true then (impl_RefuteBy.j2 k 1 x210000 x210001 x210002 x210003 x211000 x211001 x211002 x211003) else (impl_RefuteBy.j2 k x5 x210000 x210001 x210002 x210003 x211000 x211001 x211002 x211003)
def impl_RefuteBy.j2 : Nat → Int → Int → Int → Int → Int → Int → Int → Int → Int → Option (Int × Int × Int × Int × Int × Bool)
 | 0, _, _, _, _, _, _, _, _, _ => none
 | k + 1, x5, x210000, x210001, x210002, x210003, x211000, x211001, x211002, x211003 => if x5 = 0 then ((impl_Beats.f x211000 x211001 x211002 x211003 x210000 x210001 x210002 x210003).bind fun t214 => (if t214 = true then (impl_RefuteBy.j3 k x5 (x211001 == 1000000) x210000 x210001 x210002 x210003 x211000 x211001 x211002 x211003) else (impl_RefuteBy.j3 k x5 false x210000 x210001 x210002 x210003 x211000 x211001 x211002 x211003))) else (impl_RefuteBy.j3 k x5 false x210000 x210001 x210002 x210003 x211000 x211001 x211002 x211003)
def impl_RefuteBy.j3 : Nat → Int → Bool → Int → Int → Int → Int → Int → Int → Int → Int → Option (Int × Int × Int × Int × Int × Bool)
 | 0, _, _, _, _, _, _, _, _, _, _ => none
 | k + 1, x5, x33, x210000, x210001, x210002, x210003, x211000, x211001, x211002, x211003 => if x33 = true then (impl_RefuteBy.j4 k 7 x210000 x210001 x210002 x210003 x211000 x211001 x211002 x211003) else (impl_RefuteBy.j4 k x5 x210000 x210001 x210002 x210003 x211000 x211001 x211002 x211003)
def impl_RefuteBy.j4 : Nat → Int → Int → Int → Int → Int → Int → Int → Int → Int → Option (Int × Int × Int × Int × Int × Bool)
 | 0, _, _, _, _, _, _, _, _, _ => none
 | k + 1, x5, x210000, x210001, x210002, x210003, x211000, x211001, x211002, x211003 => if x5 = 0 then ((impl_Beats.f x211000 x211001 x211002 x211003 x210000 x210001 x210002 x210003).bind fun t215 => (if t215 = true then (some (0, x210000, wrap64 (x211001 + 1), 0, x210003, t215)) else (some (0, x210000, x210001, x210002, x210003, t215)))) else (some (x5, 0, 0, 0, 0, false))
end
def impl_RefuteBy.f (k : Nat) (a0_0 : Int) (a0_1 : Int) (a0_2 : Int) (a0_3 : Int) (a1_0 : Int) (a1_1 : Int) (a1_2 : Int) (a1_3 : Int) : Option (Int × Int × Int × Int × Int × Bool) := (impl_ClaimFault.f a0_0 a0_1 a0_2 a0_3).bind fun t212 => (if t212 = 0 then ((impl_ClaimFault.f a1_0 a1_1 a1_2 a1_3).bind fun t213 => (impl_RefuteBy.j0 k t213 a0_0 a0_1 a0_2 a0_3 a1_0 a1_1 a1_2 a1_3)) else (impl_RefuteBy.j0 k t212 a0_0 a0_1 a0_2 a0_3 a1_0 a1_1 a1_2 a1_3))
theorem impl_RefuteBy.mono_l : ∀ k, (∀ y0 y1 y2 y3 y4 y5 y6 y7 y8, LeO (impl_RefuteBy.j0 k y0 y1 y2 y3 y4 y5 y6 y7 y8) (impl_RefuteBy.j0 (k + 1) y0 y1 y2 y3 y4 y5 y6 y7 y8)) ∧ (∀ y0 y1 y2 y3 y4 y5 y6 y7 y8 y9, LeO (impl_RefuteBy.j1 k y0 y1 y2 y3 y4 y5 y6 y7 y8 y9) (impl_RefuteBy.j1 (k + 1) y0 y1 y2 y3 y4 y5 y6 y7 y8 y9)) ∧ (∀ y0 y1 y2 y3 y4 y5 y6 y7 y8, LeO (impl_RefuteBy.j2 k y0 y1 y2 y3 y4 y5 y6 y7 y8) (impl_RefuteBy.j2 (k + 1) y0 y1 y2 y3 y4 y5 y6 y7 y8)) ∧ (∀ y0 y1 y2 y3 y4 y5 y6 y7 y8 y9, LeO (impl_RefuteBy.j3 k y0 y1 y2 y3 y4 y5 y6 y7 y8 y9) (impl_RefuteBy.j3 (k + 1) y0 y1 y2 y3 y4 y5 y6 y7 y8 y9)) ∧ (∀ y0 y1 y2 y3 y4 y5 y6 y7 y8, LeO (impl_RefuteBy.j4 k y0 y1 y2 y3 y4 y5 y6 y7 y8) (impl_RefuteBy.j4 (k + 1) y0 y1 y2 y3 y4 y5 y6 y7 y8))
 | 0 => ⟨fun _ _ _ _ _ _ _ _ _ r h => by simp [impl_RefuteBy.j0] at h, fun _ _ _ _ _ _ _ _ _ _ r h => by simp [impl_RefuteBy.j1] at h, fun _ _ _ _ _ _ _ _ _ r h => by simp [impl_RefuteBy.j2] at h, fun _ _ _ _ _ _ _ _ _ _ r h => by simp [impl_RefuteBy.j3] at h, fun _ _ _ _ _ _ _ _ _ r h => by simp [impl_RefuteBy.j4] at h⟩
 | k + 1 => by
  obtain ⟨ih0, ih1, ih2, ih3, ih4⟩ := impl_RefuteBy.mono_l k; refine ⟨?_, ?_, ?_, ?_, ?_⟩
  ·
   intro y0 y1 y2 y3 y4 y5 y6 y7 y8
   unfold impl_RefuteBy.j0
   repeat' first
   | (with_reducible exact ih0 _ _ _ _ _ _ _ _ _)
   | (with_reducible exact ih1 _ _ _ _ _ _ _ _ _ _)
   | (with_reducible exact ih2 _ _ _ _ _ _ _ _ _)
   | (with_reducible exact ih3 _ _ _ _ _ _ _ _ _ _)
   | (with_reducible exact ih4 _ _ _ _ _ _ _ _ _)
   | (with_reducible exact LeO.refl _)
   | (with_reducible exact LeO.none _)
   | (with_reducible refine LeO.ite ?_ ?_)
   | (with_reducible refine LeO.bind ?_ (fun _ => ?_))
   | exact ih0 _ _ _ _ _ _ _ _ _
   | exact ih1 _ _ _ _ _ _ _ _ _ _
   | exact ih2 _ _ _ _ _ _ _ _ _
   | exact ih3 _ _ _ _ _ _ _ _ _ _
   | exact ih4 _ _ _ _ _ _ _ _ _
   | exact LeO.none _
   | refine LeO.ite ?_ ?_
   | refine LeO.bind ?_ (fun _ => ?_)
  ·
   intro y0 y1 y2 y3 y4 y5 y6 y7 y8 y9
   unfold impl_RefuteBy.j1
   repeat' first
   | (with_reducible exact ih0 _ _ _ _ _ _ _ _ _)
   | (with_reducible exact ih1 _ _ _ _ _ _ _ _ _ _)
   | (with_reducible exact ih2 _ _ _ _ _ _ _ _ _)
   | (with_reducible exact ih3 _ _ _ _ _ _ _ _ _ _)
   | (with_reducible exact ih4 _ _ _ _ _ _ _ _ _)
   | (with_reducible exact LeO.refl _)
   | (with_reducible exact LeO.none _)
   | (with_reducible refine LeO.ite ?_ ?_)
   | (with_reducible refine LeO.bind ?_ (fun _ => ?_))
   | exact ih0 _ _ _ _ _ _ _ _ _
   | exact ih1 _ _ _ _ _ _ _ _ _ _
   | exact ih2 _ _ _ _ _ _ _ _ _
   | exact ih3 _ _ _ _ _ _ _ _ _ _
   | exact ih4 _ _ _ _ _ _ _ _ _
   | exact LeO.none _
   | refine LeO.ite ?_ ?_
   | refine LeO.bind ?_ (fun _ => ?_)
  ·
   intro y0 y1 y2 y3 y4 y5 y6 y7 y8
   unfold impl_RefuteBy.j2
   repeat' first
   | (with_reducible exact ih0 _ _ _ _ _ _ _ _ _)
   | (with_reducible exact ih1 _ _ _ _ _ _ _ _ _ _)
   | (with_reducible exact ih2 _ _ _ _ _ _ _ _ _)
   | (with_reducible exact ih3 _ _ _ _ _ _ _ _ _ _)
   | (with_reducible exact ih4 _ _ _ _ _ _ _ _ _)
   | (with_reducible exact LeO.refl _)
   | (with_reducible exact LeO.none _)
   | (with_reducible refine LeO.ite ?_ ?_)
   | (with_reducible refine LeO.bind ?_ (fun _ => ?_))
   | exact ih0 _ _ _ _ _ _ _ _ _
   | exact ih1 _ _ _ _ _ _ _ _ _ _
   | exact ih2 _ _ _ _ _ _ _ _ _
   | exact ih3 _ _ _ _ _ _ _ _ _ _
   | exact ih4 _ _ _ _ _ _ _ _ _
   | exact LeO.none _
   | refine LeO.ite ?_ ?_
   | refine LeO.bind ?_ (fun _ => ?_)
  ·
   intro y0 y1 y2 y3 y4 y5 y6 y7 y8 y9
   unfold impl_RefuteBy.j3
   repeat' first
   | (with_reducible exact ih0 _ _ _ _ _ _ _ _ _)
   | (with_reducible exact ih1 _ _ _ _ _ _ _ _ _ _)
   | (with_reducible exact ih2 _ _ _ _ _ _ _ _ _)
   | (with_reducible exact ih3 _ _ _ _ _ _ _ _ _ _)
   | (with_reducible exact ih4 _ _ _ _ _ _ _ _ _)
   | (with_reducible exact LeO.refl _)
   | (with_reducible exact LeO.none _)
   | (with_reducible refine LeO.ite ?_ ?_)
   | (with_reducible refine LeO.bind ?_ (fun _ => ?_))
   | exact ih0 _ _ _ _ _ _ _ _ _
   | exact ih1 _ _ _ _ _ _ _ _ _ _
   | exact ih2 _ _ _ _ _ _ _ _ _
   | exact ih3 _ _ _ _ _ _ _ _ _ _
   | exact ih4 _ _ _ _ _ _ _ _ _
   | exact LeO.none _
   | refine LeO.ite ?_ ?_
   | refine LeO.bind ?_ (fun _ => ?_)
  ·
   intro y0 y1 y2 y3 y4 y5 y6 y7 y8
   unfold impl_RefuteBy.j4
   repeat' first
   | (with_reducible exact ih0 _ _ _ _ _ _ _ _ _)
   | (with_reducible exact ih1 _ _ _ _ _ _ _ _ _ _)
   | (with_reducible exact ih2 _ _ _ _ _ _ _ _ _)
   | (with_reducible exact ih3 _ _ _ _ _ _ _ _ _ _)
   | (with_reducible exact ih4 _ _ _ _ _ _ _ _ _)
   | (with_reducible exact LeO.refl _)
   | (with_reducible exact LeO.none _)
   | (with_reducible refine LeO.ite ?_ ?_)
   | (with_reducible refine LeO.bind ?_ (fun _ => ?_))
   | exact ih0 _ _ _ _ _ _ _ _ _
   | exact ih1 _ _ _ _ _ _ _ _ _ _
   | exact ih2 _ _ _ _ _ _ _ _ _
   | exact ih3 _ _ _ _ _ _ _ _ _ _
   | exact ih4 _ _ _ _ _ _ _ _ _
   | exact LeO.none _
   | refine LeO.ite ?_ ?_
   | refine LeO.bind ?_ (fun _ => ?_)
theorem impl_RefuteBy.mono : ∀ a0 a1 a2 a3 a4 a5 a6 a7 k, LeO (impl_RefuteBy.f k a0 a1 a2 a3 a4 a5 a6 a7) (impl_RefuteBy.f (k + 1) a0 a1 a2 a3 a4 a5 a6 a7) := by
 intro a0 a1 a2 a3 a4 a5 a6 a7 k
 obtain ⟨ih0, ih1, ih2, ih3, ih4⟩ := impl_RefuteBy.mono_l k
 unfold impl_RefuteBy.f
 repeat' first
   | (with_reducible exact ih0 _ _ _ _ _ _ _ _ _)
   | (with_reducible exact ih1 _ _ _ _ _ _ _ _ _ _)
   | (with_reducible exact ih2 _ _ _ _ _ _ _ _ _)
   | (with_reducible exact ih3 _ _ _ _ _ _ _ _ _ _)
   | (with_reducible exact ih4 _ _ _ _ _ _ _ _ _)
   | (with_reducible exact LeO.refl _)
   | (with_reducible exact LeO.none _)
   | (with_reducible refine LeO.ite ?_ ?_)
   | (with_reducible refine LeO.bind ?_ (fun _ => ?_))
   | exact ih0 _ _ _ _ _ _ _ _ _
   | exact ih1 _ _ _ _ _ _ _ _ _ _
   | exact ih2 _ _ _ _ _ _ _ _ _
   | exact ih3 _ _ _ _ _ _ _ _ _ _
   | exact ih4 _ _ _ _ _ _ _ _ _
   | exact LeO.none _
   | refine LeO.ite ?_ ?_
   | refine LeO.bind ?_ (fun _ => ?_)
set_option maxHeartbeats 8000000 in
set_option maxRecDepth 100000 in
theorem impl_RefuteBy.calls (k : Nat) (a0_0 : Int) (a0_1 : Int) (a0_2 : Int) (a0_3 : Int) (a1_0 : Int) (a1_1 : Int) (a1_2 : Int) (a1_3 : Int) (r1 : Int) (r2 : Int) (r3 : Int) (r4 : Int) (r5 : Int) (r6 : Bool) (w : World) (h : impl_RefuteBy.f k a0_0 a0_1 a0_2 a0_3 a1_0 a1_1 a1_2 a1_3 = some (r1, r2, r3, r4, r5, r6)) :
  Calls Try.prog 36 #[.agg #[.int .i64 a0_0, .int .i64 a0_1, .int .i64 a0_2, .int .i64 a0_3], .agg #[.int .i64 a1_0, .int .i64 a1_1, .int .i64 a1_2, .int .i64 a1_3]] w fun e w' => e = .returned (.agg #[.int .i64 r1, .int .i64 r2, .int .i64 r3, .int .i64 r4, .int .i64 r5, .bool r6]) ∧ Below w.heap.size w w' := by
 have hu51 := Try.underlying51
 have hu63 := Try.underlying63
 have HB := Aside0.mk (Below.refl w.heap.size w)
 have H : ((impl_ClaimFault.f a0_0 a0_1 a0_2 a0_3).bind fun t212 => (if t212 = 0 then ((impl_ClaimFault.f a1_0 a1_1 a1_2 a1_3).bind fun t213 => (impl_RefuteBy.j0 k t213 a0_0 a0_1 a0_2 a0_3 a1_0 a1_1 a1_2 a1_3)) else (impl_RefuteBy.j0 k t212 a0_0 a0_1 a0_2 a0_3 a1_0 a1_1 a1_2 a1_3))) = some (r1, r2, r3, r4, r5, r6) := h
 clear h
 replace H := Option.bind_eq_some_iff.mp H
 obtain ⟨t212, A30, H⟩ := H
 replace H : (if t212 = 0 then ((impl_ClaimFault.f a1_0 a1_1 a1_2 a1_3).bind fun t213 => (impl_RefuteBy.j0 k t213 a0_0 a0_1 a0_2 a0_3 a1_0 a1_1 a1_2 a1_3)) else (impl_RefuteBy.j0 k t212 a0_0 a0_1 a0_2 a0_3 a1_0 a1_1 a1_2 a1_3)) = some (r1, r2, r3, r4, r5, r6) := H
 have A3 := Aside0.mk A30
 clear A30
 have HC4 := Aside0.mk H
 clear H
 go_enter Try.func36, Try.ntmps36
 go_upto_if 10 with (first | ((with_reducible refine gate_dst (N := 2) rfl ?_); refine box_event ?hg (N := 2) ?hd (cs := #[.int .i64 a0_0, .int .i64 a0_1, .int .i64 a0_2, .int .i64 a0_3]) (t := 51) ?hr ?_; (case hd => rfl); (case hg => rfl); (case hr => first | (go_simp; done) | (go_simp; rfl)); intro gb209 hg w5 hbox hb; have n0_ := Aside0.mk (below_step below_a hb); have BK209 := Aside0.mk (hbox); have GW209 := Aside0.mk (bsz_ (w := w) hg); have GE209 := Aside0.mk (bsz_ (w := w) hg); replace HB := n0_; clear n0_; clear hb hbox hg) | ((with_reducible refine gate_dst (N := 3) rfl ?_); refine box_event ?hg (N := 3) ?hd (cs := #[.int .i64 a1_0, .int .i64 a1_1, .int .i64 a1_2, .int .i64 a1_3]) (t := 51) ?hr ?_; (case hd => rfl); (case hg => rfl); (case hr => first | (go_simp; done) | (go_simp; rfl)); intro gb210 hg w6 hbox hb; have n0_ := Aside0.mk (blk_below (g := gb209) blk_c hb); have n1_ := Aside0.mk (below_step below_a hb); have BK210 := Aside0.mk (hbox); have GW210 := Aside0.mk (bsz_ (w := w) hg); have GE210 := Aside0.mk (bsz_ (w := w) hg); have NB209_210 := Aside0.mk (bne_ (g := gb209) hg); have NB210_209 := Aside0.mk (bne_ (g := gb209) hg).symm; replace BK209 := n0_; replace HB := n1_; clear n0_ n1_; clear hb hbox hg) | ((with_reducible refine gate_dst (N := 4) rfl ?_); refine box_event ?hg (N := 4) ?hd (cs := #[.int .i64 0, .int .i64 0, .int .i64 0, .int .i64 0, .int .i64 0, .bool false]) (t := 63) ?hr ?_; (case hd => rfl); (case hg => rfl); (case hr => first | (go_simp; done) | (go_simp; rfl)); intro gb211 hg w7 hbox hb; have n0_ := Aside0.mk (blk_below (g := gb209) blk_c hb); have n1_ := Aside0.mk (blk_below (g := gb210) blk_c hb); have n2_ := Aside0.mk (below_step below_a hb); have BK211 := Aside0.mk (hbox); have GW211 := Aside0.mk (bsz_ (w := w) hg); have GE211 := Aside0.mk (bsz_ (w := w) hg); have NB209_211 := Aside0.mk (bne_ (g := gb209) hg); have NB211_209 := Aside0.mk (bne_ (g := gb209) hg).symm; have NB210_211 := Aside0.mk (bne_ (g := gb210) hg); have NB211_210 := Aside0.mk (bne_ (g := gb210) hg).symm; replace BK209 := n0_; replace BK210 := n1_; replace HB := n2_; clear n0_ n1_ n2_; clear hb hbox hg; have hnb8 := NB209_210.out; have hnc8 := NB210_209.out; have hnb9 := NB209_211.out; have hnc9 := NB211_209.out; obtain ⟨hcz10_0, hcz10_1, hcz10_2, hcz10_3, hfz10_0, hfz10_1, hfz10_2, hfz10_3⟩ := bc4_ BK209.out) | ((with_reducible refine gate_callee (f := 74) rfl ?_); refine goesL_ (some 8) rfl rfl Try.func74 (by kernel_rfl) rfl #[.agg #[.int .i64 a0_0, .int .i64 a0_1, .int .i64 a0_2, .int .i64 a0_3]] rfl args_a ?_; (with_reducible refine (impl_ClaimFault.calls a0_0 a0_1 a0_2 a0_3 t212 _ A3.out).mono ?_); rintro e w11 ⟨rfl, hb⟩; refine ⟨_, rfl, ?_⟩; replace BK209 := Aside0.mk (blk_below (g := gb209) blk_c hb); replace BK210 := Aside0.mk (blk_below (g := gb210) blk_c hb); replace BK211 := Aside0.mk (blk_below (g := gb211) blk_c hb); replace HB := Aside0.mk (below_step below_a hb); (try clear hb); (try clear hb2); (try clear hk); (try clear hi)))
 (try simp only [Act.put, List.setIfInBounds_toArray, List.set_cons_zero, List.set_cons_succ])
 go_cut [5] (fun v5 wc => ∃ (kq : Nat) (x5_3 : Int), v5 = .int .i64 x5_3 ∧ Aside0 (impl_RefuteBy.j0 kq x5_3 a0_0 a0_1 a0_2 a0_3 a1_0 a1_1 a1_2 a1_3 = some (r1, r2, r3, r4, r5, r6)) ∧ Aside0 (kq ≤ k) ∧ Aside0 (wc.heap[gb209]? = some (.cells #[.int .i64 a0_0, .int .i64 a0_1, .int .i64 a0_2, .int .i64 a0_3] 51 (0, 0))) ∧ Aside0 (wc.heap[gb210]? = some (.cells #[.int .i64 a1_0, .int .i64 a1_1, .int .i64 a1_2, .int .i64 a1_3] 51 (0, 0))) ∧ Aside0 (wc.heap[gb211]? = some (.cells #[.int .i64 0, .int .i64 0, .int .i64 0, .int .i64 0, .int .i64 0, .bool false] 63 (0, 0))) ∧ Aside0 (Below w.heap.size w wc))
 case first =>
  have H := HC4.out; clear HC4
  by_cases c12 : t212 = 0
  ·
   rw [if_pos c12] at H; have c12b0 : (t212 == 0) = true := beq_iff_eq.mpr c12; have c12b1 : (t212 != 0) = false := bne_eq_false_iff_eq.mpr c12; clear c12; (first | rw [c12b0] | (simp only [i64_w, i32_w]; rw [c12b0]) | skip); replace H := Option.bind_eq_some_iff.mp H; obtain ⟨t213, A130, H⟩ := H; replace H : (impl_RefuteBy.j0 k t213 a0_0 a0_1 a0_2 a0_3 a1_0 a1_1 a1_2 a1_3) = some (r1, r2, r3, r4, r5, r6) := H; have A13 := Aside0.mk A130; clear A130; have H' := Aside0.mk H; clear H; have hnb14 := NB210_209.out; have hnc14 := NB209_210.out; have hnb15 := NB210_211.out; have hnc15 := NB211_210.out; obtain ⟨hcz16_0, hcz16_1, hcz16_2, hcz16_3, hfz16_0, hfz16_1, hfz16_2, hfz16_3⟩ := bc4_ BK210.out
   go_wp2_with (first | ((with_reducible refine gate_callee (f := 74) rfl ?_); refine goesL_ (some 12) rfl rfl Try.func74 (by kernel_rfl) rfl #[.agg #[.int .i64 a1_0, .int .i64 a1_1, .int .i64 a1_2, .int .i64 a1_3]] rfl args_a ?_; (with_reducible refine (impl_ClaimFault.calls a1_0 a1_1 a1_2 a1_3 t213 _ A13.out).mono ?_); rintro e w17 ⟨rfl, hb⟩; refine ⟨_, rfl, ?_⟩; replace BK209 := Aside0.mk (blk_below (g := gb209) blk_c hb); replace BK210 := Aside0.mk (blk_below (g := gb210) blk_c hb); replace BK211 := Aside0.mk (blk_below (g := gb211) blk_c hb); replace HB := Aside0.mk (below_step below_a hb); (try clear hb); (try clear hb2); (try clear hk); (try clear hi)))
   go_meet
   case rel => exact ⟨_, (t213), eq_b, H', ⟨by first | omega | exact Nat.le_refl _⟩, ⟨blk_a⟩, ⟨blk_a⟩, ⟨blk_a⟩, ⟨below_a⟩⟩
  ·
   rw [if_neg c12] at H; have c12b0 : (t212 == 0) = false := beq_eq_false_iff_ne.mpr c12; have c12b1 : (t212 != 0) = true := bne_iff_ne.mpr c12; (first | rw [c12b0] | (simp only [i64_w, i32_w]; rw [c12b0]) | skip); have H' := Aside0.mk H; clear H
   go_wp2
   go_meet
   case rel => exact ⟨_, (t212), eq_b, H', ⟨by first | omega | exact Nat.le_refl _⟩, ⟨blk_a⟩, ⟨blk_a⟩, ⟨blk_a⟩, ⟨below_a⟩⟩
 case rest =>
  clear HC4
  try clear c1
  try clear p2
  try clear c3
  try clear c7
  try clear c8
  try clear c9
  try clear c12 c12b0 c12b1
  try clear c14
  try clear c15
  try clear hcz10_0 hcz10_1 hcz10_2 hcz10_3
  try clear hcz16_0 hcz16_1 hcz16_2 hcz16_3
  try clear hfz10_0 hfz10_1 hfz10_2 hfz10_3
  try clear hfz16_0 hfz16_1 hfz16_2 hfz16_3
  obtain ⟨kq, x5_3, rfl, HA, HJ3, BK209, BK210, BK211, HB⟩ := hcut
  cases kq with
  | zero => exact absurd HA.out (by simp [impl_RefuteBy.j0])
  | succ kj3 =>
   have H := HA.out; clear HA; simp only [impl_RefuteBy.j0] at H; have HC18 := Aside0.mk H; clear H
   go_upto_region 4 with (fail)
   go_cut [21] (fun v21 wc => ∃ (kq : Nat) (x21_17 : Bool), v21 = .bool x21_17 ∧ Aside0 (impl_RefuteBy.j1 kq x5_3 x21_17 a0_0 a0_1 a0_2 a0_3 a1_0 a1_1 a1_2 a1_3 = some (r1, r2, r3, r4, r5, r6)) ∧ Aside0 (kq ≤ kj3) ∧ Aside0 (wc.heap[gb209]? = some (.cells #[.int .i64 a0_0, .int .i64 a0_1, .int .i64 a0_2, .int .i64 a0_3] 51 (0, 0))) ∧ Aside0 (wc.heap[gb210]? = some (.cells #[.int .i64 a1_0, .int .i64 a1_1, .int .i64 a1_2, .int .i64 a1_3] 51 (0, 0))) ∧ Aside0 (wc.heap[gb211]? = some (.cells #[.int .i64 0, .int .i64 0, .int .i64 0, .int .i64 0, .int .i64 0, .bool false] 63 (0, 0))) ∧ Aside0 (Below w.heap.size w wc))
   case first =>
    have H := HC18.out; clear HC18
    by_cases c19 : x5_3 = 0
    ·
     rw [if_pos c19] at H; have c19b0 : (x5_3 == 0) = true := beq_iff_eq.mpr c19; have c19b1 : (x5_3 != 0) = false := bne_eq_false_iff_eq.mpr c19; clear c19; (first | rw [c19b0] | (simp only [i64_w, i32_w]; rw [c19b0]) | skip); have H' := Aside0.mk H; clear H; have hnb20 := NB209_210.out; have hnc20 := NB210_209.out; have hnb21 := NB209_211.out; have hnc21 := NB211_209.out; obtain ⟨hcz22_0, hcz22_1, hcz22_2, hcz22_3, hfz22_0, hfz22_1, hfz22_2, hfz22_3⟩ := bc4_ BK209.out; have hnb23 := NB210_211.out; have hnc23 := NB211_210.out; obtain ⟨hcz24_0, hcz24_1, hcz24_2, hcz24_3, hfz24_0, hfz24_1, hfz24_2, hfz24_3⟩ := bc4_ BK210.out
     go_wp2
     go_meet
     case rel => exact ⟨_, ((a0_0 != a1_0)), eq_b, H', ⟨by have := HJ3.out; first | omega | exact Nat.le_refl _⟩, ⟨blk_a⟩, ⟨blk_a⟩, ⟨blk_a⟩, ⟨below_a⟩⟩
    ·
     rw [if_neg c19] at H; have c19b0 : (x5_3 == 0) = false := beq_eq_false_iff_ne.mpr c19; have c19b1 : (x5_3 != 0) = true := bne_iff_ne.mpr c19; (first | rw [c19b0] | (simp only [i64_w, i32_w]; rw [c19b0]) | skip); have H' := Aside0.mk H; clear H
     go_wp2
     go_meet
     case rel => exact ⟨_, (false), eq_b, H', ⟨by have := HJ3.out; first | omega | exact Nat.le_refl _⟩, ⟨blk_a⟩, ⟨blk_a⟩, ⟨blk_a⟩, ⟨below_a⟩⟩
   case rest =>
    clear HC18
    try clear c1
    try clear c2
    try clear p2 p2
    try clear c3
    try clear c7
    try clear c8
    try clear c9
    try clear c12 c12b0 c12b1
    try clear c14
    try clear c15
    try clear c19 c19b0 c19b1
    try clear c20
    try clear c21
    try clear c23
    try clear hcz10_0 hcz10_1 hcz10_2 hcz10_3
    try clear hcz16_0 hcz16_1 hcz16_2 hcz16_3
    try clear hcz22_0 hcz22_1 hcz22_2 hcz22_3
    try clear hcz24_0 hcz24_1 hcz24_2 hcz24_3
    try clear hfz10_0 hfz10_1 hfz10_2 hfz10_3
    try clear hfz16_0 hfz16_1 hfz16_2 hfz16_3
    try clear hfz22_0 hfz22_1 hfz22_2 hfz22_3
    try clear hfz24_0 hfz24_1 hfz24_2 hfz24_3
    obtain ⟨kq, x21_17, rfl, HA, HJ17, BK209, BK210, BK211, HB⟩ := hcut
    cases kq with
    | zero => exact absurd HA.out (by simp [impl_RefuteBy.j1])
    | succ kj17 =>
     have H := HA.out; clear HA; simp only [impl_RefuteBy.j1] at H; have HC25 := Aside0.mk H; clear H
     go_upto_if 21 with (fail)
     go_cut [5] (fun v5 wc => ∃ (kq : Nat) (x5_24 : Int), v5 = .int .i64 x5_24 ∧ Aside0 (impl_RefuteBy.j2 kq x5_24 a0_0 a0_1 a0_2 a0_3 a1_0 a1_1 a1_2 a1_3 = some (r1, r2, r3, r4, r5, r6)) ∧ Aside0 (kq ≤ kj17) ∧ Aside0 (wc.heap[gb209]? = some (.cells #[.int .i64 a0_0, .int .i64 a0_1, .int .i64 a0_2, .int .i64 a0_3] 51 (0, 0))) ∧ Aside0 (wc.heap[gb210]? = some (.cells #[.int .i64 a1_0, .int .i64 a1_1, .int .i64 a1_2, .int .i64 a1_3] 51 (0, 0))) ∧ Aside0 (wc.heap[gb211]? = some (.cells #[.int .i64 0, .int .i64 0, .int .i64 0, .int .i64 0, .int .i64 0, .bool false] 63 (0, 0))) ∧ Aside0 (Below w.heap.size w wc))
     case first =>
      have H := HC25.out; clear HC25
      by_cases c26 : x21_17 = true
      ·
       subst c26; have H1 : (impl_RefuteBy.j2 kj17 1 a0_0 a0_1 a0_2 a0_3 a1_0 a1_1 a1_2 a1_3) = some (r1, r2, r3, r4, r5, r6) := by rw [if_pos rfl] at H; exact H
       clear H; have H := H1; clear H1; have H' := Aside0.mk H; clear H
       go_wp2
       go_meet
       case rel => exact ⟨_, (1), eq_b, H', ⟨by have := HJ3.out; have := HJ17.out; first | omega | exact Nat.le_refl _⟩, ⟨blk_a⟩, ⟨blk_a⟩, ⟨blk_a⟩, ⟨below_a⟩⟩
      ·
       replace c26 := Bool.eq_false_iff.mpr c26; subst c26; have H1 : (impl_RefuteBy.j2 kj17 x5_3 a0_0 a0_1 a0_2 a0_3 a1_0 a1_1 a1_2 a1_3) = some (r1, r2, r3, r4, r5, r6) := by rw [if_neg (show ¬ (false = true) by decide)] at H; exact H
       clear H; have H := H1; clear H1; have H' := Aside0.mk H; clear H
       go_wp2
       go_meet
       case rel => exact ⟨_, (x5_3), eq_b, H', ⟨by have := HJ3.out; have := HJ17.out; first | omega | exact Nat.le_refl _⟩, ⟨blk_a⟩, ⟨blk_a⟩, ⟨blk_a⟩, ⟨below_a⟩⟩
     case rest =>
      clear HC25
      try clear c1
      try clear c2
      try clear p2 p2
      try clear c3
      try clear c7
      try clear c8
      try clear c9
      try clear c12 c12b0 c12b1
      try clear c14
      try clear c15
      try clear c19 c19b0 c19b1
      try clear c20
      try clear c21
      try clear c23
      try clear c26
      try clear hcz10_0 hcz10_1 hcz10_2 hcz10_3
      try clear hcz16_0 hcz16_1 hcz16_2 hcz16_3
      try clear hcz22_0 hcz22_1 hcz22_2 hcz22_3
      try clear hcz24_0 hcz24_1 hcz24_2 hcz24_3
      try clear hfz10_0 hfz10_1 hfz10_2 hfz10_3
      try clear hfz16_0 hfz16_1 hfz16_2 hfz16_3
      try clear hfz22_0 hfz22_1 hfz22_2 hfz22_3
      try clear hfz24_0 hfz24_1 hfz24_2 hfz24_3
      obtain ⟨kq, x5_24, rfl, HA, HJ24, BK209, BK210, BK211, HB⟩ := hcut
      cases kq with
      | zero => exact absurd HA.out (by simp [impl_RefuteBy.j2])
      | succ kj24 =>
       have H := HA.out; clear HA; simp only [impl_RefuteBy.j2] at H; have HC27 := Aside0.mk H; clear H
       go_upto_region 6 with (fail)
       go_cut [33] (fun v33 wc => ∃ (kq : Nat) (x33_26 : Bool), v33 = .bool x33_26 ∧ Aside0 (impl_RefuteBy.j3 kq x5_24 x33_26 a0_0 a0_1 a0_2 a0_3 a1_0 a1_1 a1_2 a1_3 = some (r1, r2, r3, r4, r5, r6)) ∧ Aside0 (kq ≤ kj24) ∧ Aside0 (wc.heap[gb209]? = some (.cells #[.int .i64 a0_0, .int .i64 a0_1, .int .i64 a0_2, .int .i64 a0_3] 51 (0, 0))) ∧ Aside0 (wc.heap[gb210]? = some (.cells #[.int .i64 a1_0, .int .i64 a1_1, .int .i64 a1_2, .int .i64 a1_3] 51 (0, 0))) ∧ Aside0 (wc.heap[gb211]? = some (.cells #[.int .i64 0, .int .i64 0, .int .i64 0, .int .i64 0, .int .i64 0, .bool false] 63 (0, 0))) ∧ Aside0 (Below w.heap.size w wc))
       case first =>
        have H := HC27.out; clear HC27
        by_cases c28 : x5_24 = 0
        ·
         rw [if_pos c28] at H; have c28b0 : (x5_24 == 0) = true := beq_iff_eq.mpr c28; have c28b1 : (x5_24 != 0) = false := bne_eq_false_iff_eq.mpr c28; clear c28; (first | rw [c28b0] | (simp only [i64_w, i32_w]; rw [c28b0]) | skip); replace H := Option.bind_eq_some_iff.mp H; obtain ⟨t214, A290, H⟩ := H; replace H : (if t214 = true then (impl_RefuteBy.j3 kj24 x5_24 (a1_1 == 1000000) a0_0 a0_1 a0_2 a0_3 a1_0 a1_1 a1_2 a1_3) else (impl_RefuteBy.j3 kj24 x5_24 false a0_0 a0_1 a0_2 a0_3 a1_0 a1_1 a1_2 a1_3)) = some (r1, r2, r3, r4, r5, r6) := H; have A29 := Aside0.mk A290; clear A290
         by_cases c30 : t214 = true
         ·
          subst c30; have H1 : (impl_RefuteBy.j3 kj24 x5_24 (a1_1 == 1000000) a0_0 a0_1 a0_2 a0_3 a1_0 a1_1 a1_2 a1_3) = some (r1, r2, r3, r4, r5, r6) := by rw [if_pos rfl] at H; exact H
          clear H; have H := H1; clear H1; have H' := Aside0.mk H; clear H; have hnb31 := NB210_209.out; have hnc31 := NB209_210.out; have hnb32 := NB210_211.out; have hnc32 := NB211_210.out; obtain ⟨hcz33_0, hcz33_1, hcz33_2, hcz33_3, hfz33_0, hfz33_1, hfz33_2, hfz33_3⟩ := bc4_ BK210.out; have hnb34 := NB209_211.out; have hnc34 := NB211_209.out; obtain ⟨hcz35_0, hcz35_1, hcz35_2, hcz35_3, hfz35_0, hfz35_1, hfz35_2, hfz35_3⟩ := bc4_ BK209.out
          go_wp2_with (first | (go_at_call 44; (with_reducible refine (impl_Beats.calls a1_0 a1_1 a1_2 a1_3 a0_0 a0_1 a0_2 a0_3 true _ A29.out).mono ?_); rintro e w36 ⟨rfl, hb⟩; replace BK209 := Aside0.mk (blk_below (g := gb209) blk_c hb); replace BK210 := Aside0.mk (blk_below (g := gb210) blk_c hb); replace BK211 := Aside0.mk (blk_below (g := gb211) blk_c hb); replace HB := Aside0.mk (below_step below_a hb); (try clear hb); (try clear hb2); (try clear hk); (try clear hi); obtain ⟨hcz37_0, hcz37_1, hcz37_2, hcz37_3, hfz37_0, hfz37_1, hfz37_2, hfz37_3⟩ := bc4_ BK210.out))
          go_meet
          case rel => exact ⟨_, ((a1_1 == 1000000)), eq_b, H', ⟨by have := HJ3.out; have := HJ17.out; have := HJ24.out; first | omega | exact Nat.le_refl _⟩, ⟨blk_a⟩, ⟨blk_a⟩, ⟨blk_a⟩, ⟨below_a⟩⟩
         ·
          replace c30 := Bool.eq_false_iff.mpr c30; subst c30; have H1 : (impl_RefuteBy.j3 kj24 x5_24 false a0_0 a0_1 a0_2 a0_3 a1_0 a1_1 a1_2 a1_3) = some (r1, r2, r3, r4, r5, r6) := by rw [if_neg (show ¬ (false = true) by decide)] at H; exact H
          clear H; have H := H1; clear H1; have H' := Aside0.mk H; clear H; have hnb38 := NB210_209.out; have hnc38 := NB209_210.out; have hnb39 := NB210_211.out; have hnc39 := NB211_210.out; obtain ⟨hcz40_0, hcz40_1, hcz40_2, hcz40_3, hfz40_0, hfz40_1, hfz40_2, hfz40_3⟩ := bc4_ BK210.out; have hnb41 := NB209_211.out; have hnc41 := NB211_209.out; obtain ⟨hcz42_0, hcz42_1, hcz42_2, hcz42_3, hfz42_0, hfz42_1, hfz42_2, hfz42_3⟩ := bc4_ BK209.out
          go_wp2_with (first | (go_at_call 44; (with_reducible refine (impl_Beats.calls a1_0 a1_1 a1_2 a1_3 a0_0 a0_1 a0_2 a0_3 false _ A29.out).mono ?_); rintro e w43 ⟨rfl, hb⟩; replace BK209 := Aside0.mk (blk_below (g := gb209) blk_c hb); replace BK210 := Aside0.mk (blk_below (g := gb210) blk_c hb); replace BK211 := Aside0.mk (blk_below (g := gb211) blk_c hb); replace HB := Aside0.mk (below_step below_a hb); (try clear hb); (try clear hb2); (try clear hk); (try clear hi)))
          go_meet
          case rel => exact ⟨_, (false), eq_b, H', ⟨by have := HJ3.out; have := HJ17.out; have := HJ24.out; first | omega | exact Nat.le_refl _⟩, ⟨blk_a⟩, ⟨blk_a⟩, ⟨blk_a⟩, ⟨below_a⟩⟩
        ·
         rw [if_neg c28] at H; have c28b0 : (x5_24 == 0) = false := beq_eq_false_iff_ne.mpr c28; have c28b1 : (x5_24 != 0) = true := bne_iff_ne.mpr c28; (first | rw [c28b0] | (simp only [i64_w, i32_w]; rw [c28b0]) | skip); have H' := Aside0.mk H; clear H
         go_wp2
         go_meet
         case rel => exact ⟨_, (false), eq_b, H', ⟨by have := HJ3.out; have := HJ17.out; have := HJ24.out; first | omega | exact Nat.le_refl _⟩, ⟨blk_a⟩, ⟨blk_a⟩, ⟨blk_a⟩, ⟨below_a⟩⟩
       case rest =>
        clear HC27
        try clear c1
        try clear c2
        try clear p2 p2
        try clear c3
        try clear c4
        try clear c7
        try clear c8
        try clear c9
        try clear c12 c12b0 c12b1
        try clear c14
        try clear c15
        try clear c19 c19b0 c19b1
        try clear c20
        try clear c21
        try clear c23
        try clear c26
        try clear c28 c28b0 c28b1
        try clear c30
        try clear c31
        try clear c32
        try clear c34
        try clear c36
        try clear c38
        try clear c39
        try clear c41
        try clear hcz10_0 hcz10_1 hcz10_2 hcz10_3
        try clear hcz16_0 hcz16_1 hcz16_2 hcz16_3
        try clear hcz22_0 hcz22_1 hcz22_2 hcz22_3
        try clear hcz24_0 hcz24_1 hcz24_2 hcz24_3
        try clear hcz33_0 hcz33_1 hcz33_2 hcz33_3
        try clear hcz35_0 hcz35_1 hcz35_2 hcz35_3
        try clear hcz37_0 hcz37_1 hcz37_2 hcz37_3
        try clear hcz40_0 hcz40_1 hcz40_2 hcz40_3
        try clear hcz42_0 hcz42_1 hcz42_2 hcz42_3
        try clear hfz10_0 hfz10_1 hfz10_2 hfz10_3
        try clear hfz16_0 hfz16_1 hfz16_2 hfz16_3
        try clear hfz22_0 hfz22_1 hfz22_2 hfz22_3
        try clear hfz24_0 hfz24_1 hfz24_2 hfz24_3
        try clear hfz33_0 hfz33_1 hfz33_2 hfz33_3
        try clear hfz35_0 hfz35_1 hfz35_2 hfz35_3
        try clear hfz37_0 hfz37_1 hfz37_2 hfz37_3
        try clear hfz40_0 hfz40_1 hfz40_2 hfz40_3
        try clear hfz42_0 hfz42_1 hfz42_2 hfz42_3
        obtain ⟨kq, x33_26, rfl, HA, HJ26, BK209, BK210, BK211, HB⟩ := hcut
        cases kq with
        | zero => exact absurd HA.out (by simp [impl_RefuteBy.j3])
        | succ kj26 =>
         have H := HA.out; clear HA; simp only [impl_RefuteBy.j3] at H; have HC44 := Aside0.mk H; clear H
         go_upto_if 33 with (fail)
         go_cut [5] (fun v5 wc => ∃ (kq : Nat) (x5_43 : Int), v5 = .int .i64 x5_43 ∧ Aside0 (impl_RefuteBy.j4 kq x5_43 a0_0 a0_1 a0_2 a0_3 a1_0 a1_1 a1_2 a1_3 = some (r1, r2, r3, r4, r5, r6)) ∧ Aside0 (kq ≤ kj26) ∧ Aside0 (wc.heap[gb209]? = some (.cells #[.int .i64 a0_0, .int .i64 a0_1, .int .i64 a0_2, .int .i64 a0_3] 51 (0, 0))) ∧ Aside0 (wc.heap[gb210]? = some (.cells #[.int .i64 a1_0, .int .i64 a1_1, .int .i64 a1_2, .int .i64 a1_3] 51 (0, 0))) ∧ Aside0 (wc.heap[gb211]? = some (.cells #[.int .i64 0, .int .i64 0, .int .i64 0, .int .i64 0, .int .i64 0, .bool false] 63 (0, 0))) ∧ Aside0 (Below w.heap.size w wc))
         case first =>
          have H := HC44.out; clear HC44
          by_cases c45 : x33_26 = true
          ·
           subst c45; have H1 : (impl_RefuteBy.j4 kj26 7 a0_0 a0_1 a0_2 a0_3 a1_0 a1_1 a1_2 a1_3) = some (r1, r2, r3, r4, r5, r6) := by rw [if_pos rfl] at H; exact H
           clear H; have H := H1; clear H1; have H' := Aside0.mk H; clear H
           go_wp2
           go_meet
           case rel => exact ⟨_, (7), eq_b, H', ⟨by have := HJ3.out; have := HJ17.out; have := HJ24.out; have := HJ26.out; first | omega | exact Nat.le_refl _⟩, ⟨blk_a⟩, ⟨blk_a⟩, ⟨blk_a⟩, ⟨below_a⟩⟩
          ·
           replace c45 := Bool.eq_false_iff.mpr c45; subst c45; have H1 : (impl_RefuteBy.j4 kj26 x5_24 a0_0 a0_1 a0_2 a0_3 a1_0 a1_1 a1_2 a1_3) = some (r1, r2, r3, r4, r5, r6) := by rw [if_neg (show ¬ (false = true) by decide)] at H; exact H
           clear H; have H := H1; clear H1; have H' := Aside0.mk H; clear H
           go_wp2
           go_meet
           case rel => exact ⟨_, (x5_24), eq_b, H', ⟨by have := HJ3.out; have := HJ17.out; have := HJ24.out; have := HJ26.out; first | omega | exact Nat.le_refl _⟩, ⟨blk_a⟩, ⟨blk_a⟩, ⟨blk_a⟩, ⟨below_a⟩⟩
         case rest =>
          clear HC44
          try clear c1
          try clear c2
          try clear p2 p2
          try clear c3
          try clear c4
          try clear c7
          try clear c8
          try clear c9
          try clear c12 c12b0 c12b1
          try clear c14
          try clear c15
          try clear c19 c19b0 c19b1
          try clear c20
          try clear c21
          try clear c23
          try clear c26
          try clear c28 c28b0 c28b1
          try clear c30
          try clear c31
          try clear c32
          try clear c34
          try clear c36
          try clear c38
          try clear c39
          try clear c41
          try clear c45
          try clear hcz10_0 hcz10_1 hcz10_2 hcz10_3
          try clear hcz16_0 hcz16_1 hcz16_2 hcz16_3
          try clear hcz22_0 hcz22_1 hcz22_2 hcz22_3
          try clear hcz24_0 hcz24_1 hcz24_2 hcz24_3
          try clear hcz33_0 hcz33_1 hcz33_2 hcz33_3
          try clear hcz35_0 hcz35_1 hcz35_2 hcz35_3
          try clear hcz37_0 hcz37_1 hcz37_2 hcz37_3
          try clear hcz40_0 hcz40_1 hcz40_2 hcz40_3
          try clear hcz42_0 hcz42_1 hcz42_2 hcz42_3
          try clear hfz10_0 hfz10_1 hfz10_2 hfz10_3
          try clear hfz16_0 hfz16_1 hfz16_2 hfz16_3
          try clear hfz22_0 hfz22_1 hfz22_2 hfz22_3
          try clear hfz24_0 hfz24_1 hfz24_2 hfz24_3
          try clear hfz33_0 hfz33_1 hfz33_2 hfz33_3
          try clear hfz35_0 hfz35_1 hfz35_2 hfz35_3
          try clear hfz37_0 hfz37_1 hfz37_2 hfz37_3
          try clear hfz40_0 hfz40_1 hfz40_2 hfz40_3
          try clear hfz42_0 hfz42_1 hfz42_2 hfz42_3
          obtain ⟨kq, x5_43, rfl, HA, HJ43, BK209, BK210, BK211, HB⟩ := hcut
          cases kq with
          | zero => exact absurd HA.out (by simp [impl_RefuteBy.j4])
          | succ kj43 =>
           have H := HA.out; clear HA; simp only [impl_RefuteBy.j4] at H
           by_cases c46 : x5_43 = 0
           ·
            rw [if_pos c46] at H; have c46b0 : (x5_43 == 0) = true := beq_iff_eq.mpr c46; have c46b1 : (x5_43 != 0) = false := bne_eq_false_iff_eq.mpr c46; clear c46; replace H := Option.bind_eq_some_iff.mp H; obtain ⟨t215, A470, H⟩ := H; replace H : (if t215 = true then (some (0, a0_0, wrap64 (a1_1 + 1), 0, a0_3, t215)) else (some (0, a0_0, a0_1, a0_2, a0_3, t215))) = some (r1, r2, r3, r4, r5, r6) := H; have A47 := Aside0.mk A470; clear A470
            by_cases c48 : t215 = true
            ·
             subst c48; have H1 : (some (0, a0_0, wrap64 (a1_1 + 1), 0, a0_3, true)) = some (r1, r2, r3, r4, r5, r6) := by rw [if_pos rfl] at H; exact H
             clear H; have H := H1; clear H1; simp only [Option.some.injEq, Prod.mk.injEq] at H; obtain ⟨rfl, rfl, rfl, rfl, rfl, rfl⟩ := H
             try go_wp2
             replace BK209 := Aside0.mk (blk_drew BK209.out); replace BK210 := Aside0.mk (blk_drew BK210.out); replace BK211 := Aside0.mk (blk_drew BK211.out); replace HB := Aside0.mk (below_drew1 HB.out); refine start_ (n := 7) (S := fun w' => w'.cell? ⟨gb209, 0, none⟩ = some (.int .i64 a0_0) ∧ w'.cell? ⟨gb209, 1, none⟩ = some (.int .i64 a0_1) ∧ w'.cell? ⟨gb209, 2, none⟩ = some (.int .i64 a0_2) ∧ w'.cell? ⟨gb209, 3, none⟩ = some (.int .i64 a0_3) ∧ w'.cell? ⟨gb210, 0, none⟩ = some (.int .i64 a1_0) ∧ w'.cell? ⟨gb210, 1, none⟩ = some (.int .i64 a1_1) ∧ w'.cell? ⟨gb210, 2, none⟩ = some (.int .i64 a1_2) ∧ w'.cell? ⟨gb210, 3, none⟩ = some (.int .i64 a1_3)) (ds := []) #[Z',Z',Z',Z',Z',Z',Z'] (by kernel_rfl) rfl rfl ⟨(blk_cell BK209.out 0).trans rfl, (blk_cell BK209.out 1).trans rfl, (blk_cell BK209.out 2).trans rfl, (blk_cell BK209.out 3).trans rfl, (blk_cell BK210.out 0).trans rfl, (blk_cell BK210.out 1).trans rfl, (blk_cell BK210.out 2).trans rfl, (blk_cell BK210.out 3).trans rfl⟩ (fun hHeld => ?_); generalize wc.drew = w49 at BK209 BK210 BK211 HB hHeld ⊢; refine take_ (i := 0) (N := some 38) (v := ?_) (a' := ?_) #[Y',Z',Z',Z',Z',Z',Z'] rfl rfl (by kernel_rfl) (fun _ _ _ h => h) (Or.inl ⟨by rfl, ?_⟩) hHeld ?_ ?_; rotate_left
             ·
              rintro w' ⟨s0, s1, s2, s3, s4, s5, s6, s7⟩
              go_simp
              with_reducible rfl
             rotate_left
             ·
              simp only [Act.put, List.setIfInBounds_toArray, List.set_cons_zero, List.set_cons_succ, i64_w, i32_w]; rfl
             refine take_ (i := 1) (N := some 39) (v := ?_) (a' := ?_) #[Y',Y',Z',Z',Z',Z',Z'] rfl rfl (by kernel_rfl) (fun _ _ _ h => h) (Or.inl ⟨by rfl, ?_⟩) hHeld ?_ ?_; rotate_left
             ·
              rintro w' ⟨s0, s1, s2, s3, s4, s5, s6, s7⟩
              go_simp
              with_reducible rfl
             rotate_left
             ·
              simp only [Act.put, List.setIfInBounds_toArray, List.set_cons_zero, List.set_cons_succ, i64_w, i32_w]; rfl
             refine take_ (i := 2) (N := some 40) (v := ?_) (a' := ?_) #[Y',Y',Y',Z',Z',Z',Z'] rfl rfl (by kernel_rfl) (fun _ _ _ h => h) (Or.inl ⟨by rfl, ?_⟩) hHeld ?_ ?_; rotate_left
             ·
              rintro w' ⟨s0, s1, s2, s3, s4, s5, s6, s7⟩
              go_simp
              with_reducible rfl
             rotate_left
             ·
              simp only [Act.put, List.setIfInBounds_toArray, List.set_cons_zero, List.set_cons_succ, i64_w, i32_w]; rfl
             refine join_ (σ := Nat) 1 #[Y',Y',Y',Y',Y',Y',Z'] (fun s_ => [(41, .bool true), (6, .pointer (some ⟨s_, 0, none⟩)), (42, .agg #[.int .i64 0, .int .i64 a0_0, .int .i64 a0_1, .int .i64 a0_2, .int .i64 a0_3, .bool true])]) (fun s_ w' => (w'.cell? ⟨gb209, 0, none⟩ = some (.int .i64 a0_0) ∧ w'.cell? ⟨gb209, 1, none⟩ = some (.int .i64 a0_1) ∧ w'.cell? ⟨gb209, 2, none⟩ = some (.int .i64 a0_2) ∧ w'.cell? ⟨gb209, 3, none⟩ = some (.int .i64 a0_3) ∧ w'.cell? ⟨gb210, 0, none⟩ = some (.int .i64 a1_0) ∧ w'.cell? ⟨gb210, 1, none⟩ = some (.int .i64 a1_1) ∧ w'.cell? ⟨gb210, 2, none⟩ = some (.int .i64 a1_2) ∧ w'.cell? ⟨gb210, 3, none⟩ = some (.int .i64 a1_3)) ∧ (w'.heap[gb209]? = some (.cells #[.int .i64 a0_0, .int .i64 a0_1, .int .i64 a0_2, .int .i64 a0_3] 51 (0, 0))) ∧ (w'.heap[gb210]? = some (.cells #[.int .i64 a1_0, .int .i64 a1_1, .int .i64 a1_2, .int .i64 a1_3] 51 (0, 0))) ∧ (w'.heap[gb211]? = some (.cells #[.int .i64 0, .int .i64 0, .int .i64 0, .int .i64 0, .int .i64 0, .bool false] 63 (0, 0))) ∧ (w'.heap[s_]? = some (.cells #[.int .i64 0, .int .i64 0, .int .i64 0, .int .i64 0, .int .i64 0, .bool false] 63 (0, 0))) ∧ (w.heap.size ≤ s_) ∧ (w.heap.size ≤ s_) ∧ (gb209 ≠ s_) ∧ (s_ ≠ gb209) ∧ (gb210 ≠ s_) ∧ (s_ ≠ gb210) ∧ (gb211 ≠ s_) ∧ (s_ ≠ gb211) ∧ (Below w.heap.size w w')) ?_ ?_; rotate_left
             ·
              intro hCont; refine two_ (i := 3) (j := 5) (Ni := some 41) (Nj := some 6) #[Y',Y',Y',Y',Z',Z',Z'] #[Y',Y',Y',Z',Z',Y',Z'] rfl rfl rfl rfl (by kernel_rfl) (by decide) (by decide) (fun K hK => ?_) (fun K hK => ?_)
              ·
               refine goes_ Try.func44 (by kernel_rfl) rfl #[.agg #[.int .i64 a1_0, .int .i64 a1_1, .int .i64 a1_2, .int .i64 a1_3], .agg #[.int .i64 a0_0, .int .i64 a0_1, .int .i64 a0_2, .int .i64 a0_3]] (by rfl) rfl rfl args_a ?_
               with_reducible refine (impl_Beats.calls a1_0 a1_1 a1_2 a1_3 a0_0 a0_1 a0_2 a0_3 true _ A47.out).mono ?_
               rintro e w50 ⟨rfl, hb⟩; refine ⟨_, rfl, ?_⟩; replace BK209 := Aside0.mk (blk_below (g := gb209) blk_c hb); replace BK210 := Aside0.mk (blk_below (g := gb210) blk_c hb); replace BK211 := Aside0.mk (blk_below (g := gb211) blk_c hb); replace HB := Aside0.mk (below_step below_a hb); (try clear hb); (try clear hb2); (try clear hk); (try clear hi); refine hK.out _ _ ⟨(blk_cell BK209.out 0).trans rfl, (blk_cell BK209.out 1).trans rfl, (blk_cell BK209.out 2).trans rfl, (blk_cell BK209.out 3).trans rfl, (blk_cell BK210.out 0).trans rfl, (blk_cell BK210.out 1).trans rfl, (blk_cell BK210.out 2).trans rfl, (blk_cell BK210.out 3).trans rfl⟩ (fun hHeld => ?_); clear hK K; refine norm_ (a' := ?_) ?_ ?_; rotate_left
               ·
                show Act.put _ (some 41) _ = _; simp only [Act.put, List.setIfInBounds_toArray, List.set_cons_zero, List.set_cons_succ, i64_w, i32_w]; rfl
               refine pure_ (i := 4) (N := some 42) (v := ?_) (a' := ?_) #[Y',Y',Y',Y',Y',Z',Z'] rfl rfl (by kernel_rfl) (fun _ _ _ h => h) (Or.inl ⟨by rfl, ?_⟩) ?_ ?_; rotate_left
               ·
                intro w'
                go_simp
                with_reducible rfl
               rotate_left
               ·
                simp only [Act.put, List.setIfInBounds_toArray, List.set_cons_zero, List.set_cons_succ, i64_w, i32_w]; rfl
               refine one_ (i := 5) (N := some 6) #[Y',Y',Y',Y',Y',Y',Z'] rfl rfl (by kernel_rfl) (by decide) (fun K hK => ?_); refine box_step ?hg (N := 6) ?hd (cs := #[.int .i64 0, .int .i64 0, .int .i64 0, .int .i64 0, .int .i64 0, .bool false]) (t := 63) ?hr ?_; (case hd => rfl); (case hg => rfl); (case hr => first | (go_simp; done) | (go_simp; rfl)); intro gb216 hg w51 hbox hb; have n0_ := Aside0.mk (blk_below (g := gb209) blk_c hb); have n1_ := Aside0.mk (blk_below (g := gb210) blk_c hb); have n2_ := Aside0.mk (blk_below (g := gb211) blk_c hb); have n3_ := Aside0.mk (below_step below_a hb); have BK216 := Aside0.mk (hbox); have GW216 := Aside0.mk (bsz_ (w := w) hg); have GE216 := Aside0.mk (bsz_ (w := w) hg); have NB209_216 := Aside0.mk (bne_ (g := gb209) hg); have NB216_209 := Aside0.mk (bne_ (g := gb209) hg).symm; have NB210_216 := Aside0.mk (bne_ (g := gb210) hg); have NB216_210 := Aside0.mk (bne_ (g := gb210) hg).symm; have NB211_216 := Aside0.mk (bne_ (g := gb211) hg); have NB216_211 := Aside0.mk (bne_ (g := gb211) hg).symm; replace BK209 := n0_; replace BK210 := n1_; replace BK211 := n2_; replace HB := n3_; clear n0_ n1_ n2_ n3_ hb hbox hg; refine hK.out _ _ ⟨(blk_cell BK209.out 0).trans rfl, (blk_cell BK209.out 1).trans rfl, (blk_cell BK209.out 2).trans rfl, (blk_cell BK209.out 3).trans rfl, (blk_cell BK210.out 0).trans rfl, (blk_cell BK210.out 1).trans rfl, (blk_cell BK210.out 2).trans rfl, (blk_cell BK210.out 3).trans rfl⟩ (fun hHeld => ?_); clear hK K; refine norm_ (a' := ?_) ?_ ?_; rotate_left
               ·
                show Act.put _ (some 6) _ = _; simp only [Act.put, List.setIfInBounds_toArray, List.set_cons_zero, List.set_cons_succ, i64_w, i32_w]; rfl
               exact norm_ (by simp only [putAll, Act.put, List.setIfInBounds_toArray, List.set_cons_zero, List.set_cons_succ]) (hCont (gb216) _ ⟨hHeld, blk_a, blk_a, blk_a, blk_a, GW216.out, GE216.out, NB209_216.out, NB216_209.out, NB210_216.out, NB216_210.out, NB211_216.out, NB216_211.out, below_a⟩)
              ·
               refine box_step ?hg (N := 6) ?hd (cs := #[.int .i64 0, .int .i64 0, .int .i64 0, .int .i64 0, .int .i64 0, .bool false]) (t := 63) ?hr ?_; (case hd => rfl); (case hg => rfl); (case hr => first | (go_simp; done) | (go_simp; rfl)); intro gb216 hg w50 hbox hb; have n0_ := Aside0.mk (blk_below (g := gb209) blk_c hb); have n1_ := Aside0.mk (blk_below (g := gb210) blk_c hb); have n2_ := Aside0.mk (blk_below (g := gb211) blk_c hb); have n3_ := Aside0.mk (below_step below_a hb); have BK216 := Aside0.mk (hbox); have GW216 := Aside0.mk (bsz_ (w := w) hg); have GE216 := Aside0.mk (bsz_ (w := w) hg); have NB209_216 := Aside0.mk (bne_ (g := gb209) hg); have NB216_209 := Aside0.mk (bne_ (g := gb209) hg).symm; have NB210_216 := Aside0.mk (bne_ (g := gb210) hg); have NB216_210 := Aside0.mk (bne_ (g := gb210) hg).symm; have NB211_216 := Aside0.mk (bne_ (g := gb211) hg); have NB216_211 := Aside0.mk (bne_ (g := gb211) hg).symm; replace BK209 := n0_; replace BK210 := n1_; replace BK211 := n2_; replace HB := n3_; clear n0_ n1_ n2_ n3_ hb hbox hg; refine hK.out _ _ ⟨(blk_cell BK209.out 0).trans rfl, (blk_cell BK209.out 1).trans rfl, (blk_cell BK209.out 2).trans rfl, (blk_cell BK209.out 3).trans rfl, (blk_cell BK210.out 0).trans rfl, (blk_cell BK210.out 1).trans rfl, (blk_cell BK210.out 2).trans rfl, (blk_cell BK210.out 3).trans rfl⟩ (fun hHeld => ?_); clear hK K; refine norm_ (a' := ?_) ?_ ?_; rotate_left
               ·
                show Act.put _ (some 6) _ = _; simp only [Act.put, List.setIfInBounds_toArray, List.set_cons_zero, List.set_cons_succ, i64_w, i32_w]; rfl
               refine one_ (i := 3) (N := some 41) #[Y',Y',Y',Y',Z',Y',Z'] rfl rfl (by kernel_rfl) (by decide) (fun K hK => ?_); refine goes_ Try.func44 (by kernel_rfl) rfl #[.agg #[.int .i64 a1_0, .int .i64 a1_1, .int .i64 a1_2, .int .i64 a1_3], .agg #[.int .i64 a0_0, .int .i64 a0_1, .int .i64 a0_2, .int .i64 a0_3]] (by rfl) rfl rfl args_a ?_
               with_reducible refine (impl_Beats.calls a1_0 a1_1 a1_2 a1_3 a0_0 a0_1 a0_2 a0_3 true _ A47.out).mono ?_
               rintro e w51 ⟨rfl, hb⟩; refine ⟨_, rfl, ?_⟩; replace BK209 := Aside0.mk (blk_below (g := gb209) blk_c hb); replace BK210 := Aside0.mk (blk_below (g := gb210) blk_c hb); replace BK211 := Aside0.mk (blk_below (g := gb211) blk_c hb); replace BK216 := Aside0.mk (blk_below (g := gb216) blk_c hb); replace HB := Aside0.mk (below_step below_a hb); (try clear hb); (try clear hb2); (try clear hk); (try clear hi); refine hK.out _ _ ⟨(blk_cell BK209.out 0).trans rfl, (blk_cell BK209.out 1).trans rfl, (blk_cell BK209.out 2).trans rfl, (blk_cell BK209.out 3).trans rfl, (blk_cell BK210.out 0).trans rfl, (blk_cell BK210.out 1).trans rfl, (blk_cell BK210.out 2).trans rfl, (blk_cell BK210.out 3).trans rfl⟩ (fun hHeld => ?_); clear hK K; refine norm_ (a' := ?_) ?_ ?_; rotate_left
               ·
                show Act.put _ (some 41) _ = _; simp only [Act.put, List.setIfInBounds_toArray, List.set_cons_zero, List.set_cons_succ, i64_w, i32_w]; rfl
               refine pure_ (i := 4) (N := some 42) (v := ?_) (a' := ?_) #[Y',Y',Y',Y',Y',Y',Z'] rfl rfl (by kernel_rfl) (fun _ _ _ h => h) (Or.inl ⟨by rfl, ?_⟩) ?_ ?_; rotate_left
               ·
                intro w'
                go_simp
                with_reducible rfl
               rotate_left
               ·
                simp only [Act.put, List.setIfInBounds_toArray, List.set_cons_zero, List.set_cons_succ, i64_w, i32_w]; rfl
               exact norm_ (by simp only [putAll, Act.put, List.setIfInBounds_toArray, List.set_cons_zero, List.set_cons_succ]) (hCont (gb216) _ ⟨hHeld, blk_a, blk_a, blk_a, blk_a, GW216.out, GE216.out, NB209_216.out, NB216_209.out, NB210_216.out, NB216_210.out, NB211_216.out, NB216_211.out, below_a⟩)
             rintro gb216 w52 ⟨hS_, h0_, h1_, h2_, h3_, h4_, h5_, h6_, h7_, h8_, h9_, h10_, h11_, h12_⟩
             try dsimp only at hS_ h0_ h1_ h2_ h3_ h4_ h5_ h6_ h7_ h8_ h9_ h10_ h11_ h12_
             clear BK209 BK210 BK211 HB; have BK209 := Aside0.mk h0_; have BK210 := Aside0.mk h1_; have BK211 := Aside0.mk h2_; have BK216 := Aside0.mk h3_; have GW216 := Aside0.mk h4_; have GE216 := Aside0.mk h5_; have NB209_216 := Aside0.mk h6_; have NB216_209 := Aside0.mk h7_; have NB210_216 := Aside0.mk h8_; have NB216_210 := Aside0.mk h9_; have NB211_216 := Aside0.mk h10_; have NB216_211 := Aside0.mk h11_; have HB := Aside0.mk h12_; clear h0_ h1_ h2_ h3_ h4_ h5_ h6_ h7_ h8_ h9_ h10_ h11_ h12_; have hHeld : w52.cell? ⟨gb209, 0, none⟩ = some (.int .i64 a0_0) ∧ w52.cell? ⟨gb209, 1, none⟩ = some (.int .i64 a0_1) ∧ w52.cell? ⟨gb209, 2, none⟩ = some (.int .i64 a0_2) ∧ w52.cell? ⟨gb209, 3, none⟩ = some (.int .i64 a0_3) ∧ w52.cell? ⟨gb210, 0, none⟩ = some (.int .i64 a1_0) ∧ w52.cell? ⟨gb210, 1, none⟩ = some (.int .i64 a1_1) ∧ w52.cell? ⟨gb210, 2, none⟩ = some (.int .i64 a1_2) ∧ w52.cell? ⟨gb210, 3, none⟩ = some (.int .i64 a1_3) := hS_; refine norm_ (a' := ?_) ?_ ?_; rotate_left
             ·
              simp only [putAll, Act.put, List.setIfInBounds_toArray, List.set_cons_zero, List.set_cons_succ]; rfl
             refine one_ (i := 6) (N := none) #[Y',Y',Y',Y',Y',Y',Y'] rfl rfl (by kernel_rfl) (by decide) (fun K hK => ?_); have hs53 : w52.cell? ⟨gb216, 0, none⟩ = some (.int .i64 0) := (blk_cell BK216.out 0).trans rfl; have hfs53 := blk_frozen BK216.out 0; have hns53_0 := NB209_216.out; have hns53_1 := NB210_216.out; have hns53_2 := NB211_216.out; have hms53_0 := NB216_209.out; have hms53_1 := NB216_210.out; have hms53_2 := NB216_211.out; have hs54 : w52.cell? ⟨gb216, 1, none⟩ = some (.int .i64 0) := (blk_cell BK216.out 1).trans rfl; have hfs54 := blk_frozen BK216.out 1; have hns54_0 := NB209_216.out; have hns54_1 := NB210_216.out; have hns54_2 := NB211_216.out; have hms54_0 := NB216_209.out; have hms54_1 := NB216_210.out; have hms54_2 := NB216_211.out; have hs55 : w52.cell? ⟨gb216, 2, none⟩ = some (.int .i64 0) := (blk_cell BK216.out 2).trans rfl; have hfs55 := blk_frozen BK216.out 2; have hns55_0 := NB209_216.out; have hns55_1 := NB210_216.out; have hns55_2 := NB211_216.out; have hms55_0 := NB216_209.out; have hms55_1 := NB216_210.out; have hms55_2 := NB216_211.out; have hs56 : w52.cell? ⟨gb216, 3, none⟩ = some (.int .i64 0) := (blk_cell BK216.out 3).trans rfl; have hfs56 := blk_frozen BK216.out 3; have hns56_0 := NB209_216.out; have hns56_1 := NB210_216.out; have hns56_2 := NB211_216.out; have hms56_0 := NB216_209.out; have hms56_1 := NB216_210.out; have hms56_2 := NB216_211.out; have hs57 : w52.cell? ⟨gb216, 4, none⟩ = some (.int .i64 0) := (blk_cell BK216.out 4).trans rfl; have hfs57 := blk_frozen BK216.out 4; have hns57_0 := NB209_216.out; have hns57_1 := NB210_216.out; have hns57_2 := NB211_216.out; have hms57_0 := NB216_209.out; have hms57_1 := NB216_210.out; have hms57_2 := NB216_211.out; have hs58 : w52.cell? ⟨gb216, 5, none⟩ = some (.bool false) := (blk_cell BK216.out 5).trans rfl; have hfs58 := blk_frozen BK216.out 5; have hns58_0 := NB209_216.out; have hns58_1 := NB210_216.out; have hns58_2 := NB211_216.out; have hms58_0 := NB216_209.out; have hms58_1 := NB216_210.out; have hms58_2 := NB216_211.out; refine skip_ (w1 := ?_) (by rfl) rfl ?_ ?_; rotate_left
             ·
              go_simp
              rfl
             refine hK.out _ _ ⟨((cell_far (p := ⟨gb216, _, none⟩) NB209_216.out _).trans (((cell_far (p := ⟨gb216, _, none⟩) NB209_216.out _).trans (((cell_far (p := ⟨gb216, _, none⟩) NB209_216.out _).trans (((cell_far (p := ⟨gb216, _, none⟩) NB209_216.out _).trans (((cell_far (p := ⟨gb216, _, none⟩) NB209_216.out _).trans (((cell_far (p := ⟨gb216, _, none⟩) NB209_216.out _).trans (hHeld.1)))))))))))), ((cell_far (p := ⟨gb216, _, none⟩) NB209_216.out _).trans (((cell_far (p := ⟨gb216, _, none⟩) NB209_216.out _).trans (((cell_far (p := ⟨gb216, _, none⟩) NB209_216.out _).trans (((cell_far (p := ⟨gb216, _, none⟩) NB209_216.out _).trans (((cell_far (p := ⟨gb216, _, none⟩) NB209_216.out _).trans (((cell_far (p := ⟨gb216, _, none⟩) NB209_216.out _).trans (hHeld.2.1)))))))))))), ((cell_far (p := ⟨gb216, _, none⟩) NB209_216.out _).trans (((cell_far (p := ⟨gb216, _, none⟩) NB209_216.out _).trans (((cell_far (p := ⟨gb216, _, none⟩) NB209_216.out _).trans (((cell_far (p := ⟨gb216, _, none⟩) NB209_216.out _).trans (((cell_far (p := ⟨gb216, _, none⟩) NB209_216.out _).trans (((cell_far (p := ⟨gb216, _, none⟩) NB209_216.out _).trans (hHeld.2.2.1)))))))))))), ((cell_far (p := ⟨gb216, _, none⟩) NB209_216.out _).trans (((cell_far (p := ⟨gb216, _, none⟩) NB209_216.out _).trans (((cell_far (p := ⟨gb216, _, none⟩) NB209_216.out _).trans (((cell_far (p := ⟨gb216, _, none⟩) NB209_216.out _).trans (((cell_far (p := ⟨gb216, _, none⟩) NB209_216.out _).trans (((cell_far (p := ⟨gb216, _, none⟩) NB209_216.out _).trans (hHeld.2.2.2.1)))))))))))), ((cell_far (p := ⟨gb216, _, none⟩) NB210_216.out _).trans (((cell_far (p := ⟨gb216, _, none⟩) NB210_216.out _).trans (((cell_far (p := ⟨gb216, _, none⟩) NB210_216.out _).trans (((cell_far (p := ⟨gb216, _, none⟩) NB210_216.out _).trans (((cell_far (p := ⟨gb216, _, none⟩) NB210_216.out _).trans (((cell_far (p := ⟨gb216, _, none⟩) NB210_216.out _).trans (hHeld.2.2.2.2.1)))))))))))), ((cell_far (p := ⟨gb216, _, none⟩) NB210_216.out _).trans (((cell_far (p := ⟨gb216, _, none⟩) NB210_216.out _).trans (((cell_far (p := ⟨gb216, _, none⟩) NB210_216.out _).trans (((cell_far (p := ⟨gb216, _, none⟩) NB210_216.out _).trans (((cell_far (p := ⟨gb216, _, none⟩) NB210_216.out _).trans (((cell_far (p := ⟨gb216, _, none⟩) NB210_216.out _).trans (hHeld.2.2.2.2.2.1)))))))))))), ((cell_far (p := ⟨gb216, _, none⟩) NB210_216.out _).trans (((cell_far (p := ⟨gb216, _, none⟩) NB210_216.out _).trans (((cell_far (p := ⟨gb216, _, none⟩) NB210_216.out _).trans (((cell_far (p := ⟨gb216, _, none⟩) NB210_216.out _).trans (((cell_far (p := ⟨gb216, _, none⟩) NB210_216.out _).trans (((cell_far (p := ⟨gb216, _, none⟩) NB210_216.out _).trans (hHeld.2.2.2.2.2.2.1)))))))))))), ((cell_far (p := ⟨gb216, _, none⟩) NB210_216.out _).trans (((cell_far (p := ⟨gb216, _, none⟩) NB210_216.out _).trans (((cell_far (p := ⟨gb216, _, none⟩) NB210_216.out _).trans (((cell_far (p := ⟨gb216, _, none⟩) NB210_216.out _).trans (((cell_far (p := ⟨gb216, _, none⟩) NB210_216.out _).trans (((cell_far (p := ⟨gb216, _, none⟩) NB210_216.out _).trans (hHeld.2.2.2.2.2.2.2))))))))))))⟩ (fun hHeld => ?_); clear hK K; refine done_ (by kernel_rfl) ?_; have hnb59 := NB216_209.out; have hnc59 := NB209_216.out; have hnb60 := NB216_210.out; have hnc60 := NB210_216.out; have hnb61 := NB216_211.out; have hnc61 := NB211_216.out; obtain ⟨hcz62_0, hcz62_1, hcz62_2, hcz62_3, hcz62_4, hcz62_5, hfz62_0, hfz62_1, hfz62_2, hfz62_3, hfz62_4, hfz62_5⟩ := bc6_ BK216.out; have hnb63 := NB210_209.out; have hnc63 := NB209_210.out; have hnb64 := NB210_211.out; have hnc64 := NB211_210.out; obtain ⟨hcz65_0, hcz65_1, hcz65_2, hcz65_3, hfz65_0, hfz65_1, hfz65_2, hfz65_3⟩ := bc4_ BK210.out; have hnb66 := NB211_209.out; have hnc66 := NB209_211.out; obtain ⟨hcz67_0, hcz67_1, hcz67_2, hcz67_3, hcz67_4, hcz67_5, hfz67_0, hfz67_1, hfz67_2, hfz67_3, hfz67_4, hfz67_5⟩ := bc6_ BK211.out
             try go_wp2
             try simp only [i64_w]
             refine bodyPost_ret (results_cell_row rfl _ _ gb211 63 #[.int .i64 0, .int .i64 a0_0, .int .i64 (wrap64 (a1_1 + 1)), .int .i64 0, .int .i64 a0_3, .bool true] (0, 0) _ rfl blk_a Try.underlying63 rfl (by kernel_rfl)) rfl ?_; exact ⟨eq_a, below_a⟩
            ·
             replace c48 := Bool.eq_false_iff.mpr c48; subst c48; have H1 : (some (0, a0_0, a0_1, a0_2, a0_3, false)) = some (r1, r2, r3, r4, r5, r6) := by rw [if_neg (show ¬ (false = true) by decide)] at H; exact H
             clear H; have H := H1; clear H1; simp only [Option.some.injEq, Prod.mk.injEq] at H; obtain ⟨rfl, rfl, rfl, rfl, rfl, rfl⟩ := H
             try go_wp2
             replace BK209 := Aside0.mk (blk_drew BK209.out); replace BK210 := Aside0.mk (blk_drew BK210.out); replace BK211 := Aside0.mk (blk_drew BK211.out); replace HB := Aside0.mk (below_drew1 HB.out); refine start_ (n := 7) (S := fun w' => w'.cell? ⟨gb209, 0, none⟩ = some (.int .i64 a0_0) ∧ w'.cell? ⟨gb209, 1, none⟩ = some (.int .i64 a0_1) ∧ w'.cell? ⟨gb209, 2, none⟩ = some (.int .i64 a0_2) ∧ w'.cell? ⟨gb209, 3, none⟩ = some (.int .i64 a0_3) ∧ w'.cell? ⟨gb210, 0, none⟩ = some (.int .i64 a1_0) ∧ w'.cell? ⟨gb210, 1, none⟩ = some (.int .i64 a1_1) ∧ w'.cell? ⟨gb210, 2, none⟩ = some (.int .i64 a1_2) ∧ w'.cell? ⟨gb210, 3, none⟩ = some (.int .i64 a1_3)) (ds := []) #[Z',Z',Z',Z',Z',Z',Z'] (by kernel_rfl) rfl rfl ⟨(blk_cell BK209.out 0).trans rfl, (blk_cell BK209.out 1).trans rfl, (blk_cell BK209.out 2).trans rfl, (blk_cell BK209.out 3).trans rfl, (blk_cell BK210.out 0).trans rfl, (blk_cell BK210.out 1).trans rfl, (blk_cell BK210.out 2).trans rfl, (blk_cell BK210.out 3).trans rfl⟩ (fun hHeld => ?_); generalize wc.drew = w68 at BK209 BK210 BK211 HB hHeld ⊢; refine take_ (i := 0) (N := some 38) (v := ?_) (a' := ?_) #[Y',Z',Z',Z',Z',Z',Z'] rfl rfl (by kernel_rfl) (fun _ _ _ h => h) (Or.inl ⟨by rfl, ?_⟩) hHeld ?_ ?_; rotate_left
             ·
              rintro w' ⟨s0, s1, s2, s3, s4, s5, s6, s7⟩
              go_simp
              with_reducible rfl
             rotate_left
             ·
              simp only [Act.put, List.setIfInBounds_toArray, List.set_cons_zero, List.set_cons_succ, i64_w, i32_w]; rfl
             refine take_ (i := 1) (N := some 39) (v := ?_) (a' := ?_) #[Y',Y',Z',Z',Z',Z',Z'] rfl rfl (by kernel_rfl) (fun _ _ _ h => h) (Or.inl ⟨by rfl, ?_⟩) hHeld ?_ ?_; rotate_left
             ·
              rintro w' ⟨s0, s1, s2, s3, s4, s5, s6, s7⟩
              go_simp
              with_reducible rfl
             rotate_left
             ·
              simp only [Act.put, List.setIfInBounds_toArray, List.set_cons_zero, List.set_cons_succ, i64_w, i32_w]; rfl
             refine take_ (i := 2) (N := some 40) (v := ?_) (a' := ?_) #[Y',Y',Y',Z',Z',Z',Z'] rfl rfl (by kernel_rfl) (fun _ _ _ h => h) (Or.inl ⟨by rfl, ?_⟩) hHeld ?_ ?_; rotate_left
             ·
              rintro w' ⟨s0, s1, s2, s3, s4, s5, s6, s7⟩
              go_simp
              with_reducible rfl
             rotate_left
             ·
              simp only [Act.put, List.setIfInBounds_toArray, List.set_cons_zero, List.set_cons_succ, i64_w, i32_w]; rfl
             refine join_ (σ := Nat) 1 #[Y',Y',Y',Y',Y',Y',Z'] (fun s_ => [(41, .bool false), (6, .pointer (some ⟨s_, 0, none⟩)), (42, .agg #[.int .i64 0, .int .i64 a0_0, .int .i64 a0_1, .int .i64 a0_2, .int .i64 a0_3, .bool false])]) (fun s_ w' => (w'.cell? ⟨gb209, 0, none⟩ = some (.int .i64 a0_0) ∧ w'.cell? ⟨gb209, 1, none⟩ = some (.int .i64 a0_1) ∧ w'.cell? ⟨gb209, 2, none⟩ = some (.int .i64 a0_2) ∧ w'.cell? ⟨gb209, 3, none⟩ = some (.int .i64 a0_3) ∧ w'.cell? ⟨gb210, 0, none⟩ = some (.int .i64 a1_0) ∧ w'.cell? ⟨gb210, 1, none⟩ = some (.int .i64 a1_1) ∧ w'.cell? ⟨gb210, 2, none⟩ = some (.int .i64 a1_2) ∧ w'.cell? ⟨gb210, 3, none⟩ = some (.int .i64 a1_3)) ∧ (w'.heap[gb209]? = some (.cells #[.int .i64 a0_0, .int .i64 a0_1, .int .i64 a0_2, .int .i64 a0_3] 51 (0, 0))) ∧ (w'.heap[gb210]? = some (.cells #[.int .i64 a1_0, .int .i64 a1_1, .int .i64 a1_2, .int .i64 a1_3] 51 (0, 0))) ∧ (w'.heap[gb211]? = some (.cells #[.int .i64 0, .int .i64 0, .int .i64 0, .int .i64 0, .int .i64 0, .bool false] 63 (0, 0))) ∧ (w'.heap[s_]? = some (.cells #[.int .i64 0, .int .i64 0, .int .i64 0, .int .i64 0, .int .i64 0, .bool false] 63 (0, 0))) ∧ (w.heap.size ≤ s_) ∧ (w.heap.size ≤ s_) ∧ (gb209 ≠ s_) ∧ (s_ ≠ gb209) ∧ (gb210 ≠ s_) ∧ (s_ ≠ gb210) ∧ (gb211 ≠ s_) ∧ (s_ ≠ gb211) ∧ (Below w.heap.size w w')) ?_ ?_; rotate_left
             ·
              intro hCont; refine two_ (i := 3) (j := 5) (Ni := some 41) (Nj := some 6) #[Y',Y',Y',Y',Z',Z',Z'] #[Y',Y',Y',Z',Z',Y',Z'] rfl rfl rfl rfl (by kernel_rfl) (by decide) (by decide) (fun K hK => ?_) (fun K hK => ?_)
              ·
               refine goes_ Try.func44 (by kernel_rfl) rfl #[.agg #[.int .i64 a1_0, .int .i64 a1_1, .int .i64 a1_2, .int .i64 a1_3], .agg #[.int .i64 a0_0, .int .i64 a0_1, .int .i64 a0_2, .int .i64 a0_3]] (by rfl) rfl rfl args_a ?_
               with_reducible refine (impl_Beats.calls a1_0 a1_1 a1_2 a1_3 a0_0 a0_1 a0_2 a0_3 false _ A47.out).mono ?_
               rintro e w69 ⟨rfl, hb⟩; refine ⟨_, rfl, ?_⟩; replace BK209 := Aside0.mk (blk_below (g := gb209) blk_c hb); replace BK210 := Aside0.mk (blk_below (g := gb210) blk_c hb); replace BK211 := Aside0.mk (blk_below (g := gb211) blk_c hb); replace HB := Aside0.mk (below_step below_a hb); (try clear hb); (try clear hb2); (try clear hk); (try clear hi); refine hK.out _ _ ⟨(blk_cell BK209.out 0).trans rfl, (blk_cell BK209.out 1).trans rfl, (blk_cell BK209.out 2).trans rfl, (blk_cell BK209.out 3).trans rfl, (blk_cell BK210.out 0).trans rfl, (blk_cell BK210.out 1).trans rfl, (blk_cell BK210.out 2).trans rfl, (blk_cell BK210.out 3).trans rfl⟩ (fun hHeld => ?_); clear hK K; refine norm_ (a' := ?_) ?_ ?_; rotate_left
               ·
                show Act.put _ (some 41) _ = _; simp only [Act.put, List.setIfInBounds_toArray, List.set_cons_zero, List.set_cons_succ, i64_w, i32_w]; rfl
               refine pure_ (i := 4) (N := some 42) (v := ?_) (a' := ?_) #[Y',Y',Y',Y',Y',Z',Z'] rfl rfl (by kernel_rfl) (fun _ _ _ h => h) (Or.inl ⟨by rfl, ?_⟩) ?_ ?_; rotate_left
               ·
                intro w'
                go_simp
                with_reducible rfl
               rotate_left
               ·
                simp only [Act.put, List.setIfInBounds_toArray, List.set_cons_zero, List.set_cons_succ, i64_w, i32_w]; rfl
               refine one_ (i := 5) (N := some 6) #[Y',Y',Y',Y',Y',Y',Z'] rfl rfl (by kernel_rfl) (by decide) (fun K hK => ?_); refine box_step ?hg (N := 6) ?hd (cs := #[.int .i64 0, .int .i64 0, .int .i64 0, .int .i64 0, .int .i64 0, .bool false]) (t := 63) ?hr ?_; (case hd => rfl); (case hg => rfl); (case hr => first | (go_simp; done) | (go_simp; rfl)); intro gb216 hg w70 hbox hb; have n0_ := Aside0.mk (blk_below (g := gb209) blk_c hb); have n1_ := Aside0.mk (blk_below (g := gb210) blk_c hb); have n2_ := Aside0.mk (blk_below (g := gb211) blk_c hb); have n3_ := Aside0.mk (below_step below_a hb); have BK216 := Aside0.mk (hbox); have GW216 := Aside0.mk (bsz_ (w := w) hg); have GE216 := Aside0.mk (bsz_ (w := w) hg); have NB209_216 := Aside0.mk (bne_ (g := gb209) hg); have NB216_209 := Aside0.mk (bne_ (g := gb209) hg).symm; have NB210_216 := Aside0.mk (bne_ (g := gb210) hg); have NB216_210 := Aside0.mk (bne_ (g := gb210) hg).symm; have NB211_216 := Aside0.mk (bne_ (g := gb211) hg); have NB216_211 := Aside0.mk (bne_ (g := gb211) hg).symm; replace BK209 := n0_; replace BK210 := n1_; replace BK211 := n2_; replace HB := n3_; clear n0_ n1_ n2_ n3_ hb hbox hg; refine hK.out _ _ ⟨(blk_cell BK209.out 0).trans rfl, (blk_cell BK209.out 1).trans rfl, (blk_cell BK209.out 2).trans rfl, (blk_cell BK209.out 3).trans rfl, (blk_cell BK210.out 0).trans rfl, (blk_cell BK210.out 1).trans rfl, (blk_cell BK210.out 2).trans rfl, (blk_cell BK210.out 3).trans rfl⟩ (fun hHeld => ?_); clear hK K; refine norm_ (a' := ?_) ?_ ?_; rotate_left
               ·
                show Act.put _ (some 6) _ = _; simp only [Act.put, List.setIfInBounds_toArray, List.set_cons_zero, List.set_cons_succ, i64_w, i32_w]; rfl
               exact norm_ (by simp only [putAll, Act.put, List.setIfInBounds_toArray, List.set_cons_zero, List.set_cons_succ]) (hCont (gb216) _ ⟨hHeld, blk_a, blk_a, blk_a, blk_a, GW216.out, GE216.out, NB209_216.out, NB216_209.out, NB210_216.out, NB216_210.out, NB211_216.out, NB216_211.out, below_a⟩)
              ·
               refine box_step ?hg (N := 6) ?hd (cs := #[.int .i64 0, .int .i64 0, .int .i64 0, .int .i64 0, .int .i64 0, .bool false]) (t := 63) ?hr ?_; (case hd => rfl); (case hg => rfl); (case hr => first | (go_simp; done) | (go_simp; rfl)); intro gb216 hg w69 hbox hb; have n0_ := Aside0.mk (blk_below (g := gb209) blk_c hb); have n1_ := Aside0.mk (blk_below (g := gb210) blk_c hb); have n2_ := Aside0.mk (blk_below (g := gb211) blk_c hb); have n3_ := Aside0.mk (below_step below_a hb); have BK216 := Aside0.mk (hbox); have GW216 := Aside0.mk (bsz_ (w := w) hg); have GE216 := Aside0.mk (bsz_ (w := w) hg); have NB209_216 := Aside0.mk (bne_ (g := gb209) hg); have NB216_209 := Aside0.mk (bne_ (g := gb209) hg).symm; have NB210_216 := Aside0.mk (bne_ (g := gb210) hg); have NB216_210 := Aside0.mk (bne_ (g := gb210) hg).symm; have NB211_216 := Aside0.mk (bne_ (g := gb211) hg); have NB216_211 := Aside0.mk (bne_ (g := gb211) hg).symm; replace BK209 := n0_; replace BK210 := n1_; replace BK211 := n2_; replace HB := n3_; clear n0_ n1_ n2_ n3_ hb hbox hg; refine hK.out _ _ ⟨(blk_cell BK209.out 0).trans rfl, (blk_cell BK209.out 1).trans rfl, (blk_cell BK209.out 2).trans rfl, (blk_cell BK209.out 3).trans rfl, (blk_cell BK210.out 0).trans rfl, (blk_cell BK210.out 1).trans rfl, (blk_cell BK210.out 2).trans rfl, (blk_cell BK210.out 3).trans rfl⟩ (fun hHeld => ?_); clear hK K; refine norm_ (a' := ?_) ?_ ?_; rotate_left
               ·
                show Act.put _ (some 6) _ = _; simp only [Act.put, List.setIfInBounds_toArray, List.set_cons_zero, List.set_cons_succ, i64_w, i32_w]; rfl
               refine one_ (i := 3) (N := some 41) #[Y',Y',Y',Y',Z',Y',Z'] rfl rfl (by kernel_rfl) (by decide) (fun K hK => ?_); refine goes_ Try.func44 (by kernel_rfl) rfl #[.agg #[.int .i64 a1_0, .int .i64 a1_1, .int .i64 a1_2, .int .i64 a1_3], .agg #[.int .i64 a0_0, .int .i64 a0_1, .int .i64 a0_2, .int .i64 a0_3]] (by rfl) rfl rfl args_a ?_
               with_reducible refine (impl_Beats.calls a1_0 a1_1 a1_2 a1_3 a0_0 a0_1 a0_2 a0_3 false _ A47.out).mono ?_
               rintro e w70 ⟨rfl, hb⟩; refine ⟨_, rfl, ?_⟩; replace BK209 := Aside0.mk (blk_below (g := gb209) blk_c hb); replace BK210 := Aside0.mk (blk_below (g := gb210) blk_c hb); replace BK211 := Aside0.mk (blk_below (g := gb211) blk_c hb); replace BK216 := Aside0.mk (blk_below (g := gb216) blk_c hb); replace HB := Aside0.mk (below_step below_a hb); (try clear hb); (try clear hb2); (try clear hk); (try clear hi); refine hK.out _ _ ⟨(blk_cell BK209.out 0).trans rfl, (blk_cell BK209.out 1).trans rfl, (blk_cell BK209.out 2).trans rfl, (blk_cell BK209.out 3).trans rfl, (blk_cell BK210.out 0).trans rfl, (blk_cell BK210.out 1).trans rfl, (blk_cell BK210.out 2).trans rfl, (blk_cell BK210.out 3).trans rfl⟩ (fun hHeld => ?_); clear hK K; refine norm_ (a' := ?_) ?_ ?_; rotate_left
               ·
                show Act.put _ (some 41) _ = _; simp only [Act.put, List.setIfInBounds_toArray, List.set_cons_zero, List.set_cons_succ, i64_w, i32_w]; rfl
               refine pure_ (i := 4) (N := some 42) (v := ?_) (a' := ?_) #[Y',Y',Y',Y',Y',Y',Z'] rfl rfl (by kernel_rfl) (fun _ _ _ h => h) (Or.inl ⟨by rfl, ?_⟩) ?_ ?_; rotate_left
               ·
                intro w'
                go_simp
                with_reducible rfl
               rotate_left
               ·
                simp only [Act.put, List.setIfInBounds_toArray, List.set_cons_zero, List.set_cons_succ, i64_w, i32_w]; rfl
               exact norm_ (by simp only [putAll, Act.put, List.setIfInBounds_toArray, List.set_cons_zero, List.set_cons_succ]) (hCont (gb216) _ ⟨hHeld, blk_a, blk_a, blk_a, blk_a, GW216.out, GE216.out, NB209_216.out, NB216_209.out, NB210_216.out, NB216_210.out, NB211_216.out, NB216_211.out, below_a⟩)
             rintro gb216 w71 ⟨hS_, h0_, h1_, h2_, h3_, h4_, h5_, h6_, h7_, h8_, h9_, h10_, h11_, h12_⟩
             try dsimp only at hS_ h0_ h1_ h2_ h3_ h4_ h5_ h6_ h7_ h8_ h9_ h10_ h11_ h12_
             clear BK209 BK210 BK211 HB; have BK209 := Aside0.mk h0_; have BK210 := Aside0.mk h1_; have BK211 := Aside0.mk h2_; have BK216 := Aside0.mk h3_; have GW216 := Aside0.mk h4_; have GE216 := Aside0.mk h5_; have NB209_216 := Aside0.mk h6_; have NB216_209 := Aside0.mk h7_; have NB210_216 := Aside0.mk h8_; have NB216_210 := Aside0.mk h9_; have NB211_216 := Aside0.mk h10_; have NB216_211 := Aside0.mk h11_; have HB := Aside0.mk h12_; clear h0_ h1_ h2_ h3_ h4_ h5_ h6_ h7_ h8_ h9_ h10_ h11_ h12_; have hHeld : w71.cell? ⟨gb209, 0, none⟩ = some (.int .i64 a0_0) ∧ w71.cell? ⟨gb209, 1, none⟩ = some (.int .i64 a0_1) ∧ w71.cell? ⟨gb209, 2, none⟩ = some (.int .i64 a0_2) ∧ w71.cell? ⟨gb209, 3, none⟩ = some (.int .i64 a0_3) ∧ w71.cell? ⟨gb210, 0, none⟩ = some (.int .i64 a1_0) ∧ w71.cell? ⟨gb210, 1, none⟩ = some (.int .i64 a1_1) ∧ w71.cell? ⟨gb210, 2, none⟩ = some (.int .i64 a1_2) ∧ w71.cell? ⟨gb210, 3, none⟩ = some (.int .i64 a1_3) := hS_; refine norm_ (a' := ?_) ?_ ?_; rotate_left
             ·
              simp only [putAll, Act.put, List.setIfInBounds_toArray, List.set_cons_zero, List.set_cons_succ]; rfl
             refine one_ (i := 6) (N := none) #[Y',Y',Y',Y',Y',Y',Y'] rfl rfl (by kernel_rfl) (by decide) (fun K hK => ?_); have hs72 : w71.cell? ⟨gb216, 0, none⟩ = some (.int .i64 0) := (blk_cell BK216.out 0).trans rfl; have hfs72 := blk_frozen BK216.out 0; have hns72_0 := NB209_216.out; have hns72_1 := NB210_216.out; have hns72_2 := NB211_216.out; have hms72_0 := NB216_209.out; have hms72_1 := NB216_210.out; have hms72_2 := NB216_211.out; have hs73 : w71.cell? ⟨gb216, 1, none⟩ = some (.int .i64 0) := (blk_cell BK216.out 1).trans rfl; have hfs73 := blk_frozen BK216.out 1; have hns73_0 := NB209_216.out; have hns73_1 := NB210_216.out; have hns73_2 := NB211_216.out; have hms73_0 := NB216_209.out; have hms73_1 := NB216_210.out; have hms73_2 := NB216_211.out; have hs74 : w71.cell? ⟨gb216, 2, none⟩ = some (.int .i64 0) := (blk_cell BK216.out 2).trans rfl; have hfs74 := blk_frozen BK216.out 2; have hns74_0 := NB209_216.out; have hns74_1 := NB210_216.out; have hns74_2 := NB211_216.out; have hms74_0 := NB216_209.out; have hms74_1 := NB216_210.out; have hms74_2 := NB216_211.out; have hs75 : w71.cell? ⟨gb216, 3, none⟩ = some (.int .i64 0) := (blk_cell BK216.out 3).trans rfl; have hfs75 := blk_frozen BK216.out 3; have hns75_0 := NB209_216.out; have hns75_1 := NB210_216.out; have hns75_2 := NB211_216.out; have hms75_0 := NB216_209.out; have hms75_1 := NB216_210.out; have hms75_2 := NB216_211.out; have hs76 : w71.cell? ⟨gb216, 4, none⟩ = some (.int .i64 0) := (blk_cell BK216.out 4).trans rfl; have hfs76 := blk_frozen BK216.out 4; have hns76_0 := NB209_216.out; have hns76_1 := NB210_216.out; have hns76_2 := NB211_216.out; have hms76_0 := NB216_209.out; have hms76_1 := NB216_210.out; have hms76_2 := NB216_211.out; have hs77 : w71.cell? ⟨gb216, 5, none⟩ = some (.bool false) := (blk_cell BK216.out 5).trans rfl; have hfs77 := blk_frozen BK216.out 5; have hns77_0 := NB209_216.out; have hns77_1 := NB210_216.out; have hns77_2 := NB211_216.out; have hms77_0 := NB216_209.out; have hms77_1 := NB216_210.out; have hms77_2 := NB216_211.out; refine skip_ (w1 := ?_) (by rfl) rfl ?_ ?_; rotate_left
             ·
              go_simp
              rfl
             refine hK.out _ _ ⟨((cell_far (p := ⟨gb216, _, none⟩) NB209_216.out _).trans (((cell_far (p := ⟨gb216, _, none⟩) NB209_216.out _).trans (((cell_far (p := ⟨gb216, _, none⟩) NB209_216.out _).trans (((cell_far (p := ⟨gb216, _, none⟩) NB209_216.out _).trans (((cell_far (p := ⟨gb216, _, none⟩) NB209_216.out _).trans (((cell_far (p := ⟨gb216, _, none⟩) NB209_216.out _).trans (hHeld.1)))))))))))), ((cell_far (p := ⟨gb216, _, none⟩) NB209_216.out _).trans (((cell_far (p := ⟨gb216, _, none⟩) NB209_216.out _).trans (((cell_far (p := ⟨gb216, _, none⟩) NB209_216.out _).trans (((cell_far (p := ⟨gb216, _, none⟩) NB209_216.out _).trans (((cell_far (p := ⟨gb216, _, none⟩) NB209_216.out _).trans (((cell_far (p := ⟨gb216, _, none⟩) NB209_216.out _).trans (hHeld.2.1)))))))))))), ((cell_far (p := ⟨gb216, _, none⟩) NB209_216.out _).trans (((cell_far (p := ⟨gb216, _, none⟩) NB209_216.out _).trans (((cell_far (p := ⟨gb216, _, none⟩) NB209_216.out _).trans (((cell_far (p := ⟨gb216, _, none⟩) NB209_216.out _).trans (((cell_far (p := ⟨gb216, _, none⟩) NB209_216.out _).trans (((cell_far (p := ⟨gb216, _, none⟩) NB209_216.out _).trans (hHeld.2.2.1)))))))))))), ((cell_far (p := ⟨gb216, _, none⟩) NB209_216.out _).trans (((cell_far (p := ⟨gb216, _, none⟩) NB209_216.out _).trans (((cell_far (p := ⟨gb216, _, none⟩) NB209_216.out _).trans (((cell_far (p := ⟨gb216, _, none⟩) NB209_216.out _).trans (((cell_far (p := ⟨gb216, _, none⟩) NB209_216.out _).trans (((cell_far (p := ⟨gb216, _, none⟩) NB209_216.out _).trans (hHeld.2.2.2.1)))))))))))), ((cell_far (p := ⟨gb216, _, none⟩) NB210_216.out _).trans (((cell_far (p := ⟨gb216, _, none⟩) NB210_216.out _).trans (((cell_far (p := ⟨gb216, _, none⟩) NB210_216.out _).trans (((cell_far (p := ⟨gb216, _, none⟩) NB210_216.out _).trans (((cell_far (p := ⟨gb216, _, none⟩) NB210_216.out _).trans (((cell_far (p := ⟨gb216, _, none⟩) NB210_216.out _).trans (hHeld.2.2.2.2.1)))))))))))), ((cell_far (p := ⟨gb216, _, none⟩) NB210_216.out _).trans (((cell_far (p := ⟨gb216, _, none⟩) NB210_216.out _).trans (((cell_far (p := ⟨gb216, _, none⟩) NB210_216.out _).trans (((cell_far (p := ⟨gb216, _, none⟩) NB210_216.out _).trans (((cell_far (p := ⟨gb216, _, none⟩) NB210_216.out _).trans (((cell_far (p := ⟨gb216, _, none⟩) NB210_216.out _).trans (hHeld.2.2.2.2.2.1)))))))))))), ((cell_far (p := ⟨gb216, _, none⟩) NB210_216.out _).trans (((cell_far (p := ⟨gb216, _, none⟩) NB210_216.out _).trans (((cell_far (p := ⟨gb216, _, none⟩) NB210_216.out _).trans (((cell_far (p := ⟨gb216, _, none⟩) NB210_216.out _).trans (((cell_far (p := ⟨gb216, _, none⟩) NB210_216.out _).trans (((cell_far (p := ⟨gb216, _, none⟩) NB210_216.out _).trans (hHeld.2.2.2.2.2.2.1)))))))))))), ((cell_far (p := ⟨gb216, _, none⟩) NB210_216.out _).trans (((cell_far (p := ⟨gb216, _, none⟩) NB210_216.out _).trans (((cell_far (p := ⟨gb216, _, none⟩) NB210_216.out _).trans (((cell_far (p := ⟨gb216, _, none⟩) NB210_216.out _).trans (((cell_far (p := ⟨gb216, _, none⟩) NB210_216.out _).trans (((cell_far (p := ⟨gb216, _, none⟩) NB210_216.out _).trans (hHeld.2.2.2.2.2.2.2))))))))))))⟩ (fun hHeld => ?_); clear hK K; refine done_ (by kernel_rfl) ?_; have hnb78 := NB216_209.out; have hnc78 := NB209_216.out; have hnb79 := NB216_210.out; have hnc79 := NB210_216.out; have hnb80 := NB216_211.out; have hnc80 := NB211_216.out; obtain ⟨hcz81_0, hcz81_1, hcz81_2, hcz81_3, hcz81_4, hcz81_5, hfz81_0, hfz81_1, hfz81_2, hfz81_3, hfz81_4, hfz81_5⟩ := bc6_ BK216.out; have hnb82 := NB211_209.out; have hnc82 := NB209_211.out; have hnb83 := NB211_210.out; have hnc83 := NB210_211.out; obtain ⟨hcz84_0, hcz84_1, hcz84_2, hcz84_3, hcz84_4, hcz84_5, hfz84_0, hfz84_1, hfz84_2, hfz84_3, hfz84_4, hfz84_5⟩ := bc6_ BK211.out
             try go_wp2
             refine bodyPost_ret (results_cell_row rfl _ _ gb211 63 #[.int .i64 0, .int .i64 a0_0, .int .i64 a0_1, .int .i64 a0_2, .int .i64 a0_3, .bool false] (0, 0) _ rfl blk_a Try.underlying63 rfl (by kernel_rfl)) rfl ?_; exact ⟨eq_a, below_a⟩
           ·
            rw [if_neg c46] at H; have c46b0 : (x5_43 == 0) = false := beq_eq_false_iff_ne.mpr c46; have c46b1 : (x5_43 != 0) = true := bne_iff_ne.mpr c46; simp only [Option.some.injEq, Prod.mk.injEq] at H; obtain ⟨rfl, rfl, rfl, rfl, rfl, rfl⟩ := H; have hnb85 := NB211_209.out; have hnc85 := NB209_211.out; have hnb86 := NB211_210.out; have hnc86 := NB210_211.out; obtain ⟨hcz87_0, hcz87_1, hcz87_2, hcz87_3, hcz87_4, hcz87_5, hfz87_0, hfz87_1, hfz87_2, hfz87_3, hfz87_4, hfz87_5⟩ := bc6_ BK211.out
            go_wp2
            refine bodyPost_ret (results_cell_row rfl _ _ gb211 63 #[.int .i64 x5_43, .int .i64 0, .int .i64 0, .int .i64 0, .int .i64 0, .bool false] (0, 0) _ rfl blk_a Try.underlying63 rfl (by kernel_rfl)) rfl ?_; exact ⟨eq_a, below_a⟩

/-! ### spec_l8Draw: function 62 -/
def spec_l8Draw.l0 : Nat → List (S51) → Int → List Int → Int → Option ((List (S51)) × Int)
 | 0, _, _, _, _ => none
 | k + 1, x3, x4, x1000, x1001 => if x4 < 4 then ((spec_l1Chance.f x1000 x1001 4).bind fun bt220 => (if bt220.1 = true then (spec_l8Draw.l0 k x3 (wrap64 (x4 + 1)) x1000 bt220.2) else ((spec_l7Claim.f x1000 bt220.2).bind fun bt222 => (if x3.length < 4398046511104 then (spec_l8Draw.l0 k (x3 ++ [(⟨x4, bt222.2.1, bt222.2.2.1, bt222.2.2.2.1⟩ : S51)]) (wrap64 (x4 + 1)) x1000 bt222.2.2.2.2) else (none))))) else (some (x3, x1001))
def spec_l8Draw.f (k : Nat) (s0_0 : List Int) (s0_1 : Int) : Option ((List (S51)) × Int) := spec_l8Draw.l0 k (([] : List (S51))) 0 s0_0 s0_1
theorem spec_l8Draw.mono_l : ∀ k, (∀ y0 y1 y2 y3, LeO (spec_l8Draw.l0 k y0 y1 y2 y3) (spec_l8Draw.l0 (k + 1) y0 y1 y2 y3))
 | 0 => fun _ _ _ _ r h => by simp [spec_l8Draw.l0] at h
 | k + 1 => by
  have ih0 := spec_l8Draw.mono_l k
  ·
   intro y0 y1 y2 y3
   unfold spec_l8Draw.l0
   repeat' first
   | (with_reducible exact ih0 _ _ _ _)
   | (with_reducible exact LeO.refl _)
   | (with_reducible exact LeO.none _)
   | (with_reducible refine LeO.ite ?_ ?_)
   | (with_reducible refine LeO.bind ?_ (fun _ => ?_))
   | exact ih0 _ _ _ _
   | exact LeO.none _
   | refine LeO.ite ?_ ?_
   | refine LeO.bind ?_ (fun _ => ?_)
theorem spec_l8Draw.mono : ∀ a0 a1 k, LeO (spec_l8Draw.f k a0 a1) (spec_l8Draw.f (k + 1) a0 a1) := by
 intro a0 a1 k
 have ih0 := spec_l8Draw.mono_l k
 unfold spec_l8Draw.f
 repeat' first
   | (with_reducible exact ih0 _ _ _ _)
   | (with_reducible exact LeO.refl _)
   | (with_reducible exact LeO.none _)
   | (with_reducible refine LeO.ite ?_ ?_)
   | (with_reducible refine LeO.bind ?_ (fun _ => ?_))
   | exact ih0 _ _ _ _
   | exact LeO.none _
   | refine LeO.ite ?_ ?_
   | refine LeO.bind ?_ (fun _ => ?_)
set_option maxHeartbeats 8000000 in
set_option maxRecDepth 100000 in
theorem spec_l8Draw.calls (k : Nat) (g : Nat) (s0_0 : List Int) (s0_1 : Int) (r1 : List (S51)) (r2 : Int) (w0 w : World) (hI : IsS99 w0 w g s0_0 s0_1) (hB : Below w0.heap.size w0 w) (h : spec_l8Draw.f k s0_0 s0_1 = some (r1, r2)) :
  Calls Try.prog 62 #[.pointer (some ⟨g, 0, none⟩)] w fun e w' => ∃ v0_ : Value, e = .returned (v0_) ∧ Kd.R k51 51 w' w.heap.size (fun _ => True) v0_ r1 ∧ IsS99 w0 w' g s0_0 r2 ∧ Below w0.heap.size w0 w' ∧ KeepBut w w' g none := by
 have hu51 := Try.underlying51
 have HI0 := Aside0.mk hI
 have HK := Aside0.mk (KeepBut.refl w g none)
 have HL := Aside0.mk hB.size
 clear hI
 have HW0 := Aside0.mk hB.size
 have HB := Aside0.mk hB
 clear hB
 have H : (spec_l8Draw.l0 k (([] : List (S51))) 0 s0_0 s0_1) = some (r1, r2) := h
 clear h
 obtain ⟨y217, hy217⟩ : ∃ y_ : List (S51), y_ = (([] : List (S51))) := ⟨_, rfl⟩
 replace H : (spec_l8Draw.l0 k y217 0 s0_0 s0_1) = some (r1, r2) := by first | (rw [hy217]; with_reducible exact H) | (have H2_ := (Option.bind_some _ _).symm.trans H; rw [hy217]; with_reducible exact H2_) | (have H2_ := (Option.bind_some _ _).symm.trans H; with_reducible exact H2_) | with_reducible exact H | (rw [hy217]; exact H) | exact H
 have Ny217 := Aside0.mk hy217
 clear hy217
 have H' := Aside0.mk H
 clear H
 go_enter Try.func62, Try.ntmps62
 go_wp2_with (first | ((with_reducible refine gate_dst (N := 6) rfl ?_); refine Kd.R_lit k51 _ 51 ?hg (N := 6) ?hd (xs := ([] : List (S51))) (inner := []) (ok := fun _ => True) (okp := fun _ => True) ?hr ?hp (fun _ hk => hk) trivial (Below.refl _ _) (Nat.le_refl _) (by simp) ?_; (case hd => rfl); (case hg => rfl); (case hr => first | (go_simp; done) | (go_simp; rfl)); (case hp => exact (Reps.none _ _)); intro v218 w2 ho3 hb hg_ hnew_; clear hg_ hnew_; (first | rw [← Ny217.out] at ho3 | (simp only [Int.reduceToNat] at ho3; rw [← Ny217.out] at ho3)); have HO219 := Aside0.mk (Kd.R_lower ho3 (keep_size (w := w) (g := g) (row := none) (by repeat (first | (with_reducible first | exact HK.out | apply KeepBut.set_ | apply keep_drewN | apply keep_drew | apply keep_alloc) | exact HK.out)))); have n1_ := Aside0.mk (IsS99.below (IsS99.a) hb); replace HK := Aside0.mk (KeepBut.trans (by repeat (first | (with_reducible first | exact HK.out | apply KeepBut.set_ | apply keep_drewN | apply keep_drew | apply keep_alloc) | exact HK.out)) (KeepBut.of_below hb g none) (.inl rfl)); replace HB := Aside0.mk (below_step (by repeat (first | (with_reducible first | exact HB.out | apply below_alloc | apply pw_below_drewN | apply below_drew1 | refine below_set ?_ (IsS99.ge HI0.out)) | exact HB.out)) hb); replace HI0 := n1_; clear n1_; clear hb ho3))
 go_loopg [3, 4] k (fun kq v3 v4 w' => ∃ (x3_1 : List (S51)) (x4_1 : Int) (x1001_1 : Int), v4 = .int .i64 x4_1 ∧ Aside0 (spec_l8Draw.l0 kq x3_1 x4_1 s0_0 x1001_1 = some (r1, r2)) ∧ Aside0 (kq ≤ k) ∧ Aside0 (Kd.R k51 51 w' w.heap.size (fun _ => True) v3 x3_1) ∧ Aside0 (IsS99 w0 w' g s0_0 x1001_1) ∧ Aside0 (KeepBut w w' g none) ∧ Aside0 (Below w0.heap.size w0 w'))
 case atStart => exact ⟨(y217), (0), (s0_1), eq_b, H', ⟨Nat.le_refl _⟩, ⟨R_a HO219.out⟩, ⟨IsS99.a⟩, ⟨by repeat (first | (with_reducible first | exact HK.out | apply KeepBut.set_ | apply keep_drewN | apply keep_drew | apply keep_alloc) | exact HK.out)⟩, ⟨by repeat (first | (with_reducible first | exact HB.out | apply below_alloc | apply pw_below_drewN | apply below_drew1 | refine below_set ?_ (IsS99.ge HI0.out)) | exact HB.out)⟩⟩
 case round =>
  clear H'
  try clear p2
  obtain ⟨x3_1, x4_1, x1001_1, rfl, HA, HK1, HO_3, HI0, HK, HB⟩ := hrel
  cases gk with
  | zero => exact absurd HA.out (by simp [spec_l8Draw.l0])
  | succ k1 =>
   have H := HA.out; clear HA; simp only [spec_l8Draw.l0] at H
   by_cases c4 : x4_1 < 4
   ·
    rw [if_pos c4] at H; have c4b0 : decide (x4_1 < 4) = true := decide_eq_true c4; clear c4; replace H := Option.bind_eq_some_iff.mp H; obtain ⟨⟨t220, t221⟩, A50, H⟩ := H; replace H : (if t220 = true then (spec_l8Draw.l0 k1 x3_1 (wrap64 (x4_1 + 1)) s0_0 t221) else ((spec_l7Claim.f s0_0 t221).bind fun bt222 => (if x3_1.length < 4398046511104 then (spec_l8Draw.l0 k1 (x3_1 ++ [(⟨x4_1, bt222.2.1, bt222.2.2.1, bt222.2.2.2.1⟩ : S51)]) (wrap64 (x4_1 + 1)) s0_0 bt222.2.2.2.2) else (none)))) = some (r1, r2) := H; have A5 := Aside0.mk A50; clear A50
    by_cases c6 : t220 = true
    ·
     subst c6; have H1 : (spec_l8Draw.l0 k1 x3_1 (wrap64 (x4_1 + 1)) s0_0 t221) = some (r1, r2) := by rw [if_pos rfl] at H; exact H
     clear H; have H := H1; clear H1; have H' := Aside0.mk H; clear H
     go_wp2_with (first | ((with_reducible refine gate_callee (f := 49) rfl ?_); refine goesL_ (some 12) rfl rfl Try.func49 (by kernel_rfl) rfl #[.pointer (some ⟨g, 0, none⟩), .int .i64 4] rfl args_a ?_; (with_reducible refine (spec_l1Chance.calls g s0_0 x1001_1 4 true t221 w0 _ ?side1 ?side2 A5.out).mono ?_); (case side1 => exact IsS99.a); (case side2 => repeat (first | (with_reducible first | exact HB.out | apply below_alloc | apply pw_below_drewN | apply below_drew1 | refine below_set ?_ (IsS99.ge HI0.out)) | exact HB.out)); rintro e w7 ⟨rfl, hi, hb, hk⟩; refine ⟨_, rfl, ?_⟩; replace HO_3 := Aside0.mk (Kd.R_mono (Kd.R_keep (IsS99.apart (show IsS99 w0 _ g s0_0 x1001_1 from IsS99.a) (R_a HO_3.out) (by decide)) hk (fun _ h => h.2)) (fun _ h => h.1)); replace HK := Aside0.mk (KeepBut.trans (by repeat (first | (with_reducible first | exact HK.out | apply KeepBut.set_ | apply keep_drewN | apply keep_drew | apply keep_alloc) | exact HK.out)) hk (.inl rfl)); replace HB := Aside0.mk (hb); replace HI0 := Aside0.mk (hi); (try clear hb); (try clear hb2); (try clear hk); (try clear hi)))
     go_roundg k1
     case measure => have := HK1.out; omega
     case rel => exact ⟨(x3_1), (wrap64 (x4_1 + 1)), (t221), eq_b, H', ⟨by have := HK1.out; omega⟩, ⟨R_a HO_3.out⟩, ⟨IsS99.a⟩, ⟨by repeat (first | (with_reducible first | exact HK.out | apply KeepBut.set_ | apply keep_drewN | apply keep_drew | apply keep_alloc) | exact HK.out)⟩, ⟨by repeat (first | (with_reducible first | exact HB.out | apply below_alloc | apply pw_below_drewN | apply below_drew1 | refine below_set ?_ (IsS99.ge HI0.out)) | exact HB.out)⟩⟩
    ·
     replace c6 := Bool.eq_false_iff.mpr c6; subst c6; have H1 : ((spec_l7Claim.f s0_0 t221).bind fun bt222 => (if x3_1.length < 4398046511104 then (spec_l8Draw.l0 k1 (x3_1 ++ [(⟨x4_1, bt222.2.1, bt222.2.2.1, bt222.2.2.2.1⟩ : S51)]) (wrap64 (x4_1 + 1)) s0_0 bt222.2.2.2.2) else (none))) = some (r1, r2) := by rw [if_neg (show ¬ (false = true) by decide)] at H; exact H
     clear H; have H := H1; clear H1; replace H := Option.bind_eq_some_iff.mp H; obtain ⟨⟨t222, t223, t224, t225, t226⟩, A80, H⟩ := H; replace H : (if x3_1.length < 4398046511104 then (spec_l8Draw.l0 k1 (x3_1 ++ [(⟨x4_1, t223, t224, t225⟩ : S51)]) (wrap64 (x4_1 + 1)) s0_0 t226) else (none)) = some (r1, r2) := H; have A8 := Aside0.mk A80; clear A80
     by_cases c9 : x3_1.length < 4398046511104
     ·
      rw [if_pos c9] at H; have LMc9 := Aside0.mk c9; clear c9; obtain ⟨y228, hy228⟩ : ∃ y_ : List (S51), y_ = (x3_1 ++ [(⟨x4_1, t223, t224, t225⟩ : S51)]) := ⟨_, rfl⟩; replace H : (spec_l8Draw.l0 k1 y228 (wrap64 (x4_1 + 1)) s0_0 t226) = some (r1, r2) := by first | (rw [hy228]; with_reducible exact H) | (have H2_ := (Option.bind_some _ _).symm.trans H; rw [hy228]; with_reducible exact H2_) | (have H2_ := (Option.bind_some _ _).symm.trans H; with_reducible exact H2_) | with_reducible exact H | (rw [hy228]; exact H) | exact H
      have Ny228 := Aside0.mk hy228; clear hy228; have H' := Aside0.mk H; clear H
      go_wp2_with (first | ((with_reducible refine gate_callee (f := 49) rfl ?_); refine goesL_ (some 12) rfl rfl Try.func49 (by kernel_rfl) rfl #[.pointer (some ⟨g, 0, none⟩), .int .i64 4] rfl args_a ?_; (with_reducible refine (spec_l1Chance.calls g s0_0 x1001_1 4 false t221 w0 _ ?side1 ?side2 A5.out).mono ?_); (case side1 => exact IsS99.a); (case side2 => repeat (first | (with_reducible first | exact HB.out | apply below_alloc | apply pw_below_drewN | apply below_drew1 | refine below_set ?_ (IsS99.ge HI0.out)) | exact HB.out)); rintro e w10 ⟨rfl, hi, hb, hk⟩; refine ⟨_, rfl, ?_⟩; replace HO_3 := Aside0.mk (Kd.R_mono (Kd.R_keep (IsS99.apart (show IsS99 w0 _ g s0_0 x1001_1 from IsS99.a) (R_a HO_3.out) (by decide)) hk (fun _ h => h.2)) (fun _ h => h.1)); replace HK := Aside0.mk (KeepBut.trans (by repeat (first | (with_reducible first | exact HK.out | apply KeepBut.set_ | apply keep_drewN | apply keep_drew | apply keep_alloc) | exact HK.out)) hk (.inl rfl)); replace HB := Aside0.mk (hb); replace HI0 := Aside0.mk (hi); (try clear hb); (try clear hb2); (try clear hk); (try clear hi)) | ((with_reducible refine gate_callee (f := 72) rfl ?_); refine goesL_ (some 14) rfl rfl Try.func72 (by kernel_rfl) rfl #[.pointer (some ⟨g, 0, none⟩)] rfl args_a ?_; (with_reducible refine (spec_l7Claim.calls g s0_0 t221 t222 t223 t224 t225 t226 w0 _ ?side1 ?side2 A8.out).mono ?_); (case side1 => exact IsS99.a); (case side2 => repeat (first | (with_reducible first | exact HB.out | apply below_alloc | apply pw_below_drewN | apply below_drew1 | refine below_set ?_ (IsS99.ge HI0.out)) | exact HB.out)); rintro e w11 ⟨rfl, hi, hb, hk⟩; refine ⟨_, rfl, ?_⟩; replace HO_3 := Aside0.mk (Kd.R_mono (Kd.R_keep (IsS99.apart (show IsS99 w0 _ g s0_0 t221 from IsS99.a) (R_a HO_3.out) (by decide)) hk (fun _ h => h.2)) (fun _ h => h.1)); replace HK := Aside0.mk (KeepBut.trans (by repeat (first | (with_reducible first | exact HK.out | apply KeepBut.set_ | apply keep_drewN | apply keep_drew | apply keep_alloc) | exact HK.out)) hk (.inl rfl)); replace HB := Aside0.mk (hb); replace HI0 := Aside0.mk (hi); (try clear hb); (try clear hb2); (try clear hk); (try clear hi)) | ((with_reducible refine gate_dst (N := 5) rfl ?_); refine box_event ?hg (N := 5) ?hd (cs := #[.int .i64 0, .int .i64 0, .int .i64 0, .int .i64 0]) (t := 51) ?hr ?_; (case hd => rfl); (case hg => rfl); (case hr => first | (go_simp; done) | (go_simp; rfl)); intro gb227 hg w12 hbox hb; replace HO_3 := Aside0.mk (Kd.R_below (Kd.R_elderB (R_a HO_3.out) gb227 (Nat.le_of_eq hg.symm)) hb); have n1_ := Aside0.mk (IsS99.below (IsS99.a) hb); have n2_ := Aside0.mk (KeepBut.trans (by repeat (first | (with_reducible first | exact HK.out | apply KeepBut.set_ | apply keep_drewN | apply keep_drew | apply keep_alloc) | exact HK.out)) (KeepBut.of_below hb g none) (.inl rfl)); replace HB := Aside0.mk (below_step (by repeat (first | (with_reducible first | exact HB.out | apply below_alloc | apply pw_below_drewN | apply below_drew1 | refine below_set ?_ (IsS99.ge HI0.out)) | exact HB.out)) hb); have BK227 := Aside0.mk (hbox); have GW227 := Aside0.mk ((by rw [hg]; exact (keep_size (w := w) (g := g) (row := none) (by repeat (first | (with_reducible first | exact HK.out | apply KeepBut.set_ | apply keep_drewN | apply keep_drew | apply keep_alloc) | exact HK.out))) : w.heap.size ≤ gb227)); have GE227 := Aside0.mk ((Nat.le_trans HW0.out (by rw [hg]; exact (keep_size (w := w) (g := g) (row := none) (by repeat (first | (with_reducible first | exact HK.out | apply KeepBut.set_ | apply keep_drewN | apply keep_drew | apply keep_alloc) | exact HK.out))) : w.heap.size ≤ gb227) : w0.heap.size ≤ gb227)); have NB0_227 := Aside0.mk ((by rw [hg]; exact Nat.ne_of_lt (IsS99.lt (show IsS99 w0 _ g s0_0 t226 from IsS99.a)) : g ≠ gb227)); have NB227_0 := Aside0.mk ((by rw [hg]; exact Nat.ne_of_gt (IsS99.lt (show IsS99 w0 _ g s0_0 t226 from IsS99.a)) : gb227 ≠ g)); replace HI0 := n1_; replace HK := n2_; clear n1_ n2_; clear hb hbox hg; have hnb13 := NB227_0.out; have hnc13 := NB0_227.out; obtain ⟨hcz14_0, hcz14_1, hcz14_2, hcz14_3, hfz14_0, hfz14_1, hfz14_2, hfz14_3⟩ := bc4_ BK227.out) | ((with_reducible refine gate_builtin (b := .append) (xs := #[.tmp 17, .tmp 19]) rfl ?_); at_builtin; refine Kd.R_append k51 w.heap.size rfl (.tmp 17) (.tmp 19) 36 51 (.agg #[(.int .i64 0), (.int .i64 0), (.int .i64 0), (.int .i64 0)]) 32 rfl Try.underlying36 info51 rfl (by decide) (by omega) u3 x3_1 (⟨x4_1, t223, t224, t225⟩ : S51) [.int .i64 x4_1, .int .i64 t223, .int .i64 t224, .int .i64 t225] (fun k_ => k_ ≠ gb227) (fun _ => False) rfl (by first | (go_simp; done) | (go_simp; rfl)) ?aP (fun _ hk => hk.elim) ?aF ?aO (Below.refl _ _) ?aS ?aL ?_; (case aP => exact k51_mkM _ _ _ (⟨x4_1, t223, t224, t225⟩ : S51)); (case aF => exact (fun k_ hk => Kd.freshB (g := gb227) (o := .cells #[.int .i64 x4_1, .int .i64 t223, .int .i64 t224, .int .i64 t225] 51 (0, 0)) blk_a k_ hk)); (case aO => exact (by (with_reducible repeat (first | apply Kd.R_alloc | apply Kd.R_drewN | apply Kd.R_drew)); exact Kd.R_mono (Kd.R_far (p := ⟨gb227, 0, none⟩) (Kd.R_far (p := ⟨gb227, 3, none⟩) (Kd.R_far (p := ⟨gb227, 2, none⟩) (Kd.R_far (p := ⟨gb227, 1, none⟩) (Kd.R_far (p := ⟨gb227, 0, none⟩) (Kd.R_mono HO_3.out (fun k_ hk => (⟨hk, hk.2⟩ : _ ∧ k_ ≠ gb227))) (fun _ hk => hk.2) (.int .i64 t222)) (fun _ hk => hk.2) (.int .i64 t223)) (fun _ hk => hk.2) (.int .i64 t224)) (fun _ hk => hk.2) (.int .i64 t225)) (fun _ hk => hk.2) (.int .i64 x4_1)) (fun _ hk => hk.1.2))); (case aS => exact (keep_size (w := w) (g := g) (row := none) (by repeat (first | (with_reducible first | exact HK.out | apply KeepBut.set_ | apply keep_drewN | apply keep_drew | apply keep_alloc | refine keep_far ?_ GW227.out _) | exact HK.out)))); (case aL => have := LMc9.out; omega); intro v229 w15 ho hb hg hat; rw [← Ny228.out] at ho; have n0_ := Aside0.mk (IsS99.grown (show IsS99 w0 _ g s0_0 t226 from IsS99.a) hg (IsS99.own_ne HI0.out HO_3.out (by decide))); replace BK227 := Aside0.mk (blk_grown (g := gb227) (o := .cells #[.int .i64 x4_1, .int .i64 t223, .int .i64 t224, .int .i64 t225] 51 (0, 0)) blk_a hg (Kd.R_away HO_3.out (fun _ hk => hk.2))); replace HB := Aside0.mk (below_weaken (by repeat (first | (with_reducible first | exact HB.out | apply below_alloc | apply pw_below_drewN | apply below_drew1 | refine below_set ?_ (IsS99.ge HI0.out) | refine below_set ?_ GE227.out) | exact HB.out)) HL.out hb); replace HK := Aside0.mk (KeepBut.trans (by repeat (first | (with_reducible first | exact HK.out | apply KeepBut.set_ | apply keep_drewN | apply keep_drew | apply keep_alloc | refine keep_far ?_ GW227.out _) | exact HK.out)) (KeepBut.of_grown hg g) (Kd.R_base2 HO_3.out)); have HO230 := Aside0.mk (ho); replace HI0 := n0_; clear HO_3 n0_; clear ho hb hg hat))
      go_roundg k1
      case measure => have := HK1.out; omega
      case rel => exact ⟨(y228), (wrap64 (x4_1 + 1)), (t226), eq_b, H', ⟨by have := HK1.out; omega⟩, ⟨by (with_reducible repeat (first | apply Kd.R_alloc | apply Kd.R_drewN | apply Kd.R_drew)); exact Kd.R_mono HO230.out (fun _ hk => trivial)⟩, ⟨IsS99.a⟩, ⟨by repeat (first | (with_reducible first | exact HK.out | apply KeepBut.set_ | apply keep_drewN | apply keep_drew | apply keep_alloc | refine keep_far ?_ GW227.out _) | exact HK.out)⟩, ⟨by repeat (first | (with_reducible first | exact HB.out | apply below_alloc | apply pw_below_drewN | apply below_drew1 | refine below_set ?_ (IsS99.ge HI0.out) | refine below_set ?_ GE227.out) | exact HB.out)⟩⟩
     ·
      rw [if_neg c9] at H; exact absurd H (by simp)
   ·
    rw [if_neg c4] at H; have c4b0 : decide (x4_1 < 4) = false := decide_eq_false c4; clear c4; simp only [Option.some.injEq, Prod.mk.injEq] at H; obtain ⟨rfl, rfl⟩ := H
    go_wp2
    go_ret
    exact ⟨_, eq_a, R_a HO_3.out, IsS99.a, by repeat (first | (with_reducible first | exact HB.out | apply below_alloc | apply pw_below_drewN | apply below_drew1 | refine below_set ?_ (IsS99.ge HI0.out)) | exact HB.out), by repeat (first | (with_reducible first | exact HK.out | apply KeepBut.set_ | apply keep_drewN | apply keep_drew | apply keep_alloc) | exact HK.out)⟩

/-! ### spec_l8Bent: function 58 -/
def spec_l8Bent.f (k : Nat) (s0_0 : List Int) (s0_1 : Int) : Option ((List (S51)) × Int) := (spec_l8Draw.f k s0_0 s0_1).bind fun bt231 => ((spec_l1Next.f s0_0 bt231.2 14).bind fun bt235 => (if bt235.1 = 0 then ((spec_l7Claim.f s0_0 bt235.2).bind fun bt237 => (if bt231.1.length < 4398046511104 then (some ((bt231.1 ++ [(⟨bt237.1, bt237.2.1, bt237.2.2.1, bt237.2.2.2.1⟩ : S51)]), bt237.2.2.2.2)) else (none))) else (if bt235.1 = 1 then ((spec_l1Pick.f s0_0 bt235.2 (([3, 4] : List Int))).bind fun bt248 => (if bt231.1.length < 4398046511104 then (some ((bt231.1 ++ [(⟨bt248.1, 0, 0, 0⟩ : S51)]), bt248.2)) else (none))) else (if bt235.1 = 2 then (if bt231.1.length + bt231.1.length < 4398046511104 then (some ((bt231.1 ++ bt231.1), bt235.2)) else (none)) else (if bt235.1 = 3 then (if (bt231.1.length : Int) > 0 then ((spec_l1Pick.f s0_0 bt235.2 (([3, (-1), 2] : List Int))).bind fun bt259 => (if 0 < (bt231.1.length : Int) then (some ((bt231.1.set (0 : Int).toNat (⟨(rd_T51 bt231.1 0).f0, (rd_T51 bt231.1 0).f1, bt259.1, (rd_T51 bt231.1 0).f3⟩ : S51)), bt259.2)) else (none))) else (some (bt231.1, bt235.2))) else (some (bt231.1, bt235.2)))))))
theorem spec_l8Bent.mono : ∀ a0 a1 k, LeO (spec_l8Bent.f k a0 a1) (spec_l8Bent.f (k + 1) a0 a1) := by
 intro a0 a1 k
 unfold spec_l8Bent.f
 repeat' first
   | (with_reducible exact spec_l8Draw.mono _ _ _)
   | (with_reducible exact LeO.refl _)
   | (with_reducible exact LeO.none _)
   | (with_reducible refine LeO.ite ?_ ?_)
   | (with_reducible refine LeO.bind ?_ (fun _ => ?_))
   | exact spec_l8Draw.mono _ _ _
   | exact LeO.none _
   | refine LeO.ite ?_ ?_
   | refine LeO.bind ?_ (fun _ => ?_)
set_option maxHeartbeats 8000000 in
set_option maxRecDepth 100000 in
theorem spec_l8Bent.calls (k : Nat) (g : Nat) (s0_0 : List Int) (s0_1 : Int) (r1 : List (S51)) (r2 : Int) (w0 w : World) (hI : IsS99 w0 w g s0_0 s0_1) (hB : Below w0.heap.size w0 w) (h : spec_l8Bent.f k s0_0 s0_1 = some (r1, r2)) :
  Calls Try.prog 58 #[.pointer (some ⟨g, 0, none⟩)] w fun e w' => ∃ v0_ : Value, e = .returned (v0_) ∧ Kd.R k51 51 w' w.heap.size (fun _ => True) v0_ r1 ∧ IsS99 w0 w' g s0_0 r2 ∧ Below w0.heap.size w0 w' ∧ KeepBut w w' g none := by
 have hu51 := Try.underlying51
 have HI0 := Aside0.mk hI
 have HK := Aside0.mk (KeepBut.refl w g none)
 have HL := Aside0.mk hB.size
 clear hI
 have HW0 := Aside0.mk hB.size
 have HB := Aside0.mk hB
 clear hB
 have H : ((spec_l8Draw.f k s0_0 s0_1).bind fun bt231 => ((spec_l1Next.f s0_0 bt231.2 14).bind fun bt235 => (if bt235.1 = 0 then ((spec_l7Claim.f s0_0 bt235.2).bind fun bt237 => (if bt231.1.length < 4398046511104 then (some ((bt231.1 ++ [(⟨bt237.1, bt237.2.1, bt237.2.2.1, bt237.2.2.2.1⟩ : S51)]), bt237.2.2.2.2)) else (none))) else (if bt235.1 = 1 then ((spec_l1Pick.f s0_0 bt235.2 (([3, 4] : List Int))).bind fun bt248 => (if bt231.1.length < 4398046511104 then (some ((bt231.1 ++ [(⟨bt248.1, 0, 0, 0⟩ : S51)]), bt248.2)) else (none))) else (if bt235.1 = 2 then (if bt231.1.length + bt231.1.length < 4398046511104 then (some ((bt231.1 ++ bt231.1), bt235.2)) else (none)) else (if bt235.1 = 3 then (if (bt231.1.length : Int) > 0 then ((spec_l1Pick.f s0_0 bt235.2 (([3, (-1), 2] : List Int))).bind fun bt259 => (if 0 < (bt231.1.length : Int) then (some ((bt231.1.set (0 : Int).toNat (⟨(rd_T51 bt231.1 0).f0, (rd_T51 bt231.1 0).f1, bt259.1, (rd_T51 bt231.1 0).f3⟩ : S51)), bt259.2)) else (none))) else (some (bt231.1, bt235.2))) else (some (bt231.1, bt235.2)))))))) = some (r1, r2) := h
 clear h
 replace H := Option.bind_eq_some_iff.mp H
 obtain ⟨⟨t231, t234⟩, A20, H⟩ := H
 replace H : ((spec_l1Next.f s0_0 t234 14).bind fun bt235 => (if bt235.1 = 0 then ((spec_l7Claim.f s0_0 bt235.2).bind fun bt237 => (if t231.length < 4398046511104 then (some ((t231 ++ [(⟨bt237.1, bt237.2.1, bt237.2.2.1, bt237.2.2.2.1⟩ : S51)]), bt237.2.2.2.2)) else (none))) else (if bt235.1 = 1 then ((spec_l1Pick.f s0_0 bt235.2 (([3, 4] : List Int))).bind fun bt248 => (if t231.length < 4398046511104 then (some ((t231 ++ [(⟨bt248.1, 0, 0, 0⟩ : S51)]), bt248.2)) else (none))) else (if bt235.1 = 2 then (if t231.length + t231.length < 4398046511104 then (some ((t231 ++ t231), bt235.2)) else (none)) else (if bt235.1 = 3 then (if (t231.length : Int) > 0 then ((spec_l1Pick.f s0_0 bt235.2 (([3, (-1), 2] : List Int))).bind fun bt259 => (if 0 < (t231.length : Int) then (some ((t231.set (0 : Int).toNat (⟨(rd_T51 t231 0).f0, (rd_T51 t231 0).f1, bt259.1, (rd_T51 t231 0).f3⟩ : S51)), bt259.2)) else (none))) else (some (t231, bt235.2))) else (some (t231, bt235.2))))))) = some (r1, r2) := H
 have A2 := Aside0.mk A20
 clear A20
 replace H := Option.bind_eq_some_iff.mp H
 obtain ⟨⟨t235, t236⟩, A30, H⟩ := H
 replace H : (if t235 = 0 then ((spec_l7Claim.f s0_0 t236).bind fun bt237 => (if t231.length < 4398046511104 then (some ((t231 ++ [(⟨bt237.1, bt237.2.1, bt237.2.2.1, bt237.2.2.2.1⟩ : S51)]), bt237.2.2.2.2)) else (none))) else (if t235 = 1 then ((spec_l1Pick.f s0_0 t236 (([3, 4] : List Int))).bind fun bt248 => (if t231.length < 4398046511104 then (some ((t231 ++ [(⟨bt248.1, 0, 0, 0⟩ : S51)]), bt248.2)) else (none))) else (if t235 = 2 then (if t231.length + t231.length < 4398046511104 then (some ((t231 ++ t231), t236)) else (none)) else (if t235 = 3 then (if (t231.length : Int) > 0 then ((spec_l1Pick.f s0_0 t236 (([3, (-1), 2] : List Int))).bind fun bt259 => (if 0 < (t231.length : Int) then (some ((t231.set (0 : Int).toNat (⟨(rd_T51 t231 0).f0, (rd_T51 t231 0).f1, bt259.1, (rd_T51 t231 0).f3⟩ : S51)), bt259.2)) else (none))) else (some (t231, t236))) else (some (t231, t236)))))) = some (r1, r2) := H
 have A3 := Aside0.mk A30
 clear A30
 by_cases c4 : t235 = 0
 ·
  rw [if_pos c4] at H; have c4b0 : (t235 == 0) = true := beq_iff_eq.mpr c4; have c4b1 : (t235 != 0) = false := bne_eq_false_iff_eq.mpr c4; clear c4; replace H := Option.bind_eq_some_iff.mp H; obtain ⟨⟨t237, t238, t239, t240, t241⟩, A50, H⟩ := H; replace H : (if t231.length < 4398046511104 then (some ((t231 ++ [(⟨t237, t238, t239, t240⟩ : S51)]), t241)) else (none)) = some (r1, r2) := H; have A5 := Aside0.mk A50; clear A50
  by_cases c6 : t231.length < 4398046511104
  ·
   rw [if_pos c6] at H; have LMc6 := Aside0.mk c6; clear c6; obtain ⟨y242, hy242⟩ : ∃ y_ : List (S51), y_ = (t231 ++ [(⟨t237, t238, t239, t240⟩ : S51)]) := ⟨_, rfl⟩; replace H : (some (y242, t241)) = some (r1, r2) := by first | (rw [hy242]; with_reducible exact H) | (have H2_ := (Option.bind_some _ _).symm.trans H; rw [hy242]; with_reducible exact H2_) | (have H2_ := (Option.bind_some _ _).symm.trans H; with_reducible exact H2_) | with_reducible exact H | (rw [hy242]; exact H) | exact H
   have Ny242 := Aside0.mk hy242; clear hy242; simp only [Option.some.injEq, Prod.mk.injEq] at H; obtain ⟨rfl, rfl⟩ := H
   go_enter Try.func58, Try.ntmps58
   go_wp2_with (first | ((with_reducible refine gate_callee (f := 62) rfl ?_); refine goesL_ (some 5) rfl rfl Try.func62 (by kernel_rfl) rfl #[.pointer (some ⟨g, 0, none⟩)] rfl args_a ?_; (with_reducible refine (spec_l8Draw.calls k g s0_0 s0_1 t231 t234 w0 _ ?side1 ?side2 A2.out).mono ?_); (case side1 => exact IsS99.a); (case side2 => repeat (first | (with_reducible first | exact HB.out | apply below_alloc | apply pw_below_drewN | apply below_drew1 | refine below_set ?_ (IsS99.ge HI0.out)) | exact HB.out)); rintro e w7 ⟨v232, rfl, ho0, hi, hb, hk⟩; refine ⟨_, rfl, ?_⟩; have HO233 := Aside0.mk (Kd.R_lower ho0 (keep_size (w := w) (g := g) (row := none) (by repeat (first | (with_reducible first | exact HK.out | apply KeepBut.set_ | apply keep_drewN | apply keep_drew | apply keep_alloc) | exact HK.out)))); replace HK := Aside0.mk (KeepBut.trans (by repeat (first | (with_reducible first | exact HK.out | apply KeepBut.set_ | apply keep_drewN | apply keep_drew | apply keep_alloc) | exact HK.out)) hk (.inl rfl)); replace HB := Aside0.mk (hb); replace HI0 := Aside0.mk (hi); (try clear hb); (try clear hb2); (try clear hk); (try clear hi); (try clear ho0)) | ((with_reducible refine gate_callee (f := 50) rfl ?_); refine goesL_ (some 7) rfl rfl Try.func50 (by kernel_rfl) rfl #[.pointer (some ⟨g, 0, none⟩), .int .i64 14] rfl args_a ?_; (with_reducible refine (spec_l1Next.calls g s0_0 t234 14 t235 t236 w0 _ ?side1 ?side2 A3.out).mono ?_); (case side1 => exact IsS99.a); (case side2 => repeat (first | (with_reducible first | exact HB.out | apply below_alloc | apply pw_below_drewN | apply below_drew1 | refine below_set ?_ (IsS99.ge HI0.out)) | exact HB.out)); rintro e w8 ⟨rfl, hi, hb, hk⟩; refine ⟨_, rfl, ?_⟩; replace HO233 := Aside0.mk (Kd.R_mono (Kd.R_keep (IsS99.apart (show IsS99 w0 _ g s0_0 t234 from IsS99.a) (R_a HO233.out) (by decide)) hk (fun _ h => h.2)) (fun _ h => h.1)); replace HK := Aside0.mk (KeepBut.trans (by repeat (first | (with_reducible first | exact HK.out | apply KeepBut.set_ | apply keep_drewN | apply keep_drew | apply keep_alloc) | exact HK.out)) hk (.inl rfl)); replace HB := Aside0.mk (hb); replace HI0 := Aside0.mk (hi); (try clear hb); (try clear hb2); (try clear hk); (try clear hi)) | ((with_reducible refine gate_callee (f := 72) rfl ?_); refine goesL_ (some 12) rfl rfl Try.func72 (by kernel_rfl) rfl #[.pointer (some ⟨g, 0, none⟩)] rfl args_a ?_; (with_reducible refine (spec_l7Claim.calls g s0_0 t236 t237 t238 t239 t240 t241 w0 _ ?side1 ?side2 A5.out).mono ?_); (case side1 => exact IsS99.a); (case side2 => repeat (first | (with_reducible first | exact HB.out | apply below_alloc | apply pw_below_drewN | apply below_drew1 | refine below_set ?_ (IsS99.ge HI0.out)) | exact HB.out)); rintro e w9 ⟨rfl, hi, hb, hk⟩; refine ⟨_, rfl, ?_⟩; replace HO233 := Aside0.mk (Kd.R_mono (Kd.R_keep (IsS99.apart (show IsS99 w0 _ g s0_0 t236 from IsS99.a) (R_a HO233.out) (by decide)) hk (fun _ h => h.2)) (fun _ h => h.1)); replace HK := Aside0.mk (KeepBut.trans (by repeat (first | (with_reducible first | exact HK.out | apply KeepBut.set_ | apply keep_drewN | apply keep_drew | apply keep_alloc) | exact HK.out)) hk (.inl rfl)); replace HB := Aside0.mk (hb); replace HI0 := Aside0.mk (hi); (try clear hb); (try clear hb2); (try clear hk); (try clear hi)) | ((with_reducible refine gate_builtin (b := .append) (xs := #[.tmp 10, .tmp 13]) rfl ?_); at_builtin; refine Kd.R_append k51 w.heap.size rfl (.tmp 10) (.tmp 13) 36 51 (.agg #[(.int .i64 0), (.int .i64 0), (.int .i64 0), (.int .i64 0)]) 32 rfl Try.underlying36 info51 rfl (by decide) (by omega) v232 t231 (⟨t237, t238, t239, t240⟩ : S51) [.int .i64 t237, .int .i64 t238, .int .i64 t239, .int .i64 t240] (fun _ => True) (fun _ => False) rfl rfl ?aP (fun _ hk => hk.elim) ?aF ?aO (Below.refl _ _) ?aS ?aL ?_; (case aP => exact k51_mkM _ _ _ (⟨t237, t238, t239, t240⟩ : S51)); (case aF => exact (fun _ _ => trivial)); (case aO => exact (R_a HO233.out)); (case aS => exact (keep_size (w := w) (g := g) (row := none) (by repeat (first | (with_reducible first | exact HK.out | apply KeepBut.set_ | apply keep_drewN | apply keep_drew | apply keep_alloc) | exact HK.out)))); (case aL => have := LMc6.out; omega); intro v243 w10 ho hb hg hat; rw [← Ny242.out] at ho; have n0_ := Aside0.mk (IsS99.grown (show IsS99 w0 _ g s0_0 t241 from IsS99.a) hg (IsS99.own_ne HI0.out HO233.out (by decide))); replace HB := Aside0.mk (below_weaken (by repeat (first | (with_reducible first | exact HB.out | apply below_alloc | apply pw_below_drewN | apply below_drew1 | refine below_set ?_ (IsS99.ge HI0.out)) | exact HB.out)) HL.out hb); replace HK := Aside0.mk (KeepBut.trans (by repeat (first | (with_reducible first | exact HK.out | apply KeepBut.set_ | apply keep_drewN | apply keep_drew | apply keep_alloc) | exact HK.out)) (KeepBut.of_grown hg g) (Kd.R_base2 HO233.out)); have HO244 := Aside0.mk (ho); replace HI0 := n0_; clear HO233 n0_; clear ho hb hg hat))
   go_ret
   exact ⟨_, eq_a, R_a HO244.out, IsS99.a, by repeat (first | (with_reducible first | exact HB.out | apply below_alloc | apply pw_below_drewN | apply below_drew1 | refine below_set ?_ (IsS99.ge HI0.out)) | exact HB.out), by repeat (first | (with_reducible first | exact HK.out | apply KeepBut.set_ | apply keep_drewN | apply keep_drew | apply keep_alloc) | exact HK.out)⟩
  ·
   rw [if_neg c6] at H; exact absurd H (by simp)
 ·
  rw [if_neg c4] at H; have c4b0 : (t235 == 0) = false := beq_eq_false_iff_ne.mpr c4; have c4b1 : (t235 != 0) = true := bne_iff_ne.mpr c4
  by_cases c11 : t235 = 1
  ·
   rw [if_pos c11] at H; have c11b0 : (t235 == 1) = true := beq_iff_eq.mpr c11; have c11b1 : (t235 != 1) = false := bne_eq_false_iff_eq.mpr c11; clear c11; obtain ⟨y245, hy245⟩ : ∃ y_ : List Int, y_ = (([3, 4] : List Int)) := ⟨_, rfl⟩; replace H : ((spec_l1Pick.f s0_0 t236 y245).bind fun bt248 => (if t231.length < 4398046511104 then (some ((t231 ++ [(⟨bt248.1, 0, 0, 0⟩ : S51)]), bt248.2)) else (none))) = some (r1, r2) := by first | (rw [hy245]; with_reducible exact H) | (have H2_ := (Option.bind_some _ _).symm.trans H; rw [hy245]; with_reducible exact H2_) | (have H2_ := (Option.bind_some _ _).symm.trans H; with_reducible exact H2_) | with_reducible exact H | (rw [hy245]; exact H) | exact H
   have Ny245 := Aside0.mk hy245; clear hy245; replace H := Option.bind_eq_some_iff.mp H; obtain ⟨⟨t248, t249⟩, A120, H⟩ := H; replace H : (if t231.length < 4398046511104 then (some ((t231 ++ [(⟨t248, 0, 0, 0⟩ : S51)]), t249)) else (none)) = some (r1, r2) := H; have A12 := Aside0.mk A120; clear A120
   by_cases c13 : t231.length < 4398046511104
   ·
    rw [if_pos c13] at H; have LMc13 := Aside0.mk c13; clear c13; obtain ⟨y250, hy250⟩ : ∃ y_ : List (S51), y_ = (t231 ++ [(⟨t248, 0, 0, 0⟩ : S51)]) := ⟨_, rfl⟩; replace H : (some (y250, t249)) = some (r1, r2) := by first | (rw [hy250]; with_reducible exact H) | (have H2_ := (Option.bind_some _ _).symm.trans H; rw [hy250]; with_reducible exact H2_) | (have H2_ := (Option.bind_some _ _).symm.trans H; with_reducible exact H2_) | with_reducible exact H | (rw [hy250]; exact H) | exact H
    have Ny250 := Aside0.mk hy250; clear hy250; simp only [Option.some.injEq, Prod.mk.injEq] at H; obtain ⟨rfl, rfl⟩ := H
    go_enter Try.func58, Try.ntmps58
    go_wp2_with (first | ((with_reducible refine gate_callee (f := 62) rfl ?_); refine goesL_ (some 5) rfl rfl Try.func62 (by kernel_rfl) rfl #[.pointer (some ⟨g, 0, none⟩)] rfl args_a ?_; (with_reducible refine (spec_l8Draw.calls k g s0_0 s0_1 t231 t234 w0 _ ?side1 ?side2 A2.out).mono ?_); (case side1 => exact IsS99.a); (case side2 => repeat (first | (with_reducible first | exact HB.out | apply below_alloc | apply pw_below_drewN | apply below_drew1 | refine below_set ?_ (IsS99.ge HI0.out)) | exact HB.out)); rintro e w14 ⟨v232, rfl, ho0, hi, hb, hk⟩; refine ⟨_, rfl, ?_⟩; have HO233 := Aside0.mk (Kd.R_lower ho0 (keep_size (w := w) (g := g) (row := none) (by repeat (first | (with_reducible first | exact HK.out | apply KeepBut.set_ | apply keep_drewN | apply keep_drew | apply keep_alloc) | exact HK.out)))); replace HK := Aside0.mk (KeepBut.trans (by repeat (first | (with_reducible first | exact HK.out | apply KeepBut.set_ | apply keep_drewN | apply keep_drew | apply keep_alloc) | exact HK.out)) hk (.inl rfl)); replace HB := Aside0.mk (hb); replace HI0 := Aside0.mk (hi); (try clear hb); (try clear hb2); (try clear hk); (try clear hi); (try clear ho0)) | ((with_reducible refine gate_callee (f := 50) rfl ?_); refine goesL_ (some 7) rfl rfl Try.func50 (by kernel_rfl) rfl #[.pointer (some ⟨g, 0, none⟩), .int .i64 14] rfl args_a ?_; (with_reducible refine (spec_l1Next.calls g s0_0 t234 14 t235 t236 w0 _ ?side1 ?side2 A3.out).mono ?_); (case side1 => exact IsS99.a); (case side2 => repeat (first | (with_reducible first | exact HB.out | apply below_alloc | apply pw_below_drewN | apply below_drew1 | refine below_set ?_ (IsS99.ge HI0.out)) | exact HB.out)); rintro e w15 ⟨rfl, hi, hb, hk⟩; refine ⟨_, rfl, ?_⟩; replace HO233 := Aside0.mk (Kd.R_mono (Kd.R_keep (IsS99.apart (show IsS99 w0 _ g s0_0 t234 from IsS99.a) (R_a HO233.out) (by decide)) hk (fun _ h => h.2)) (fun _ h => h.1)); replace HK := Aside0.mk (KeepBut.trans (by repeat (first | (with_reducible first | exact HK.out | apply KeepBut.set_ | apply keep_drewN | apply keep_drew | apply keep_alloc) | exact HK.out)) hk (.inl rfl)); replace HB := Aside0.mk (hb); replace HI0 := Aside0.mk (hi); (try clear hb); (try clear hb2); (try clear hk); (try clear hi)) | ((with_reducible refine gate_dst (N := 19) rfl ?_); refine Kd.R_lit (Kd.int .i64) _ 2 ?hg (N := 19) ?hd (xs := ([3, 4] : List Int)) (inner := [.int .i64 3, .int .i64 4]) (ok := fun _ => True) (okp := fun _ => True) ?hr ?hp (fun _ hk => hk) trivial (Below.refl _ _) (Nat.le_refl _) (by simp) ?_; (case hd => rfl); (case hg => rfl); (case hr => first | (go_simp; done) | (go_simp; rfl)); (case hp => exact (Reps.one (show Kd.M (Kd.int .i64) _ _ _ 3 [.int .i64 3] from rfl) (Reps.one (show Kd.M (Kd.int .i64) _ _ _ 4 [.int .i64 4] from rfl) (Reps.none _ _)))); intro v246 w16 ho17 hb hg_ hnew_; clear hg_ hnew_; (first | rw [← Ny245.out] at ho17 | (simp only [Int.reduceToNat] at ho17; rw [← Ny245.out] at ho17)); replace HO233 := Aside0.mk (Kd.R_below (R_a HO233.out) hb); have HO247 := Aside0.mk (Kd.R_lower ho17 (keep_size (w := w) (g := g) (row := none) (by repeat (first | (with_reducible first | exact HK.out | apply KeepBut.set_ | apply keep_drewN | apply keep_drew | apply keep_alloc) | exact HK.out)))); have n2_ := Aside0.mk (IsS99.below (IsS99.a) hb); replace HK := Aside0.mk (KeepBut.trans (by repeat (first | (with_reducible first | exact HK.out | apply KeepBut.set_ | apply keep_drewN | apply keep_drew | apply keep_alloc) | exact HK.out)) (KeepBut.of_below hb g none) (.inl rfl)); replace HB := Aside0.mk (below_step (by repeat (first | (with_reducible first | exact HB.out | apply below_alloc | apply pw_below_drewN | apply below_drew1 | refine below_set ?_ (IsS99.ge HI0.out)) | exact HB.out)) hb); replace HI0 := n2_; clear n2_; clear hb ho17; obtain ⟨Ao18, co18, eo18⟩ := Kd.R_slice HO247.out; subst eo18) | ((with_reducible refine gate_callee (f := 47) rfl ?_); refine goesL_ (some 20) rfl rfl Try.func47 (by kernel_rfl) rfl #[.pointer (some ⟨g, 0, none⟩), .slice Ao18 y245.length co18] rfl args_a ?_; (with_reducible refine (spec_l1Pick.calls g s0_0 t236 _ _ y245 t248 t249 w0 _ ?side1 ?side2 ?side3 ?side4 ?side5 A12.out).mono ?_); (case side1 => exact IsS99.a); (case side2 => repeat (first | (with_reducible first | exact HB.out | apply below_alloc | apply pw_below_drewN | apply below_drew1 | refine below_set ?_ (IsS99.ge HI0.out)) | exact HB.out)); (case side3 => repeat (first | exact (Kd.R_reads' HO247.out).2.2 | (with_reducible refine Kd.C_alloc ?_ _) | (with_reducible refine Kd.C_drewN ?_ _) | (with_reducible refine Kd.C_drew ?_))); (case side4 => exact (Kd.R_reads' HO247.out).2.1); (case side5 => exact far_slice (IsS99.own_ne HI0.out HO247.out (by decide))); rintro e w19 ⟨rfl, hi, hb, hk⟩; refine ⟨_, rfl, ?_⟩; replace HO233 := Aside0.mk (Kd.R_mono (Kd.R_keep (IsS99.apart (show IsS99 w0 _ g s0_0 t236 from IsS99.a) (R_a HO233.out) (by decide)) hk (fun _ h => h.2)) (fun _ h => h.1)); replace HO247 := Aside0.mk (Kd.R_mono (Kd.R_keep (IsS99.apart (show IsS99 w0 _ g s0_0 t236 from IsS99.a) (R_a HO247.out) (by decide)) hk (fun _ h => h.2)) (fun _ h => h.1)); replace HK := Aside0.mk (KeepBut.trans (by repeat (first | (with_reducible first | exact HK.out | apply KeepBut.set_ | apply keep_drewN | apply keep_drew | apply keep_alloc) | exact HK.out)) hk (.inl rfl)); replace HB := Aside0.mk (hb); replace HI0 := Aside0.mk (hi); (try clear hb); (try clear hb2); (try clear hk); (try clear hi)) | ((with_reducible refine gate_builtin (b := .append) (xs := #[.tmp 17, .tmp 22]) rfl ?_); at_builtin; refine Kd.R_append k51 w.heap.size rfl (.tmp 17) (.tmp 22) 36 51 (.agg #[(.int .i64 0), (.int .i64 0), (.int .i64 0), (.int .i64 0)]) 32 rfl Try.underlying36 info51 rfl (by decide) (by omega) v232 t231 (⟨t248, 0, 0, 0⟩ : S51) [.int .i64 t248, .int .i64 0, .int .i64 0, .int .i64 0] (fun _ => True) (fun _ => False) rfl rfl ?aP (fun _ hk => hk.elim) ?aF ?aO (Below.refl _ _) ?aS ?aL ?_; (case aP => exact k51_mkM _ _ _ (⟨t248, 0, 0, 0⟩ : S51)); (case aF => exact (fun _ _ => trivial)); (case aO => exact (R_a HO233.out)); (case aS => exact (keep_size (w := w) (g := g) (row := none) (by repeat (first | (with_reducible first | exact HK.out | apply KeepBut.set_ | apply keep_drewN | apply keep_drew | apply keep_alloc) | exact HK.out)))); (case aL => have := LMc13.out; omega); intro v251 w20 ho hb hg hat; rw [← Ny250.out] at ho; have n0_ := Aside0.mk (IsS99.grown (show IsS99 w0 _ g s0_0 t249 from IsS99.a) hg (IsS99.own_ne HI0.out HO233.out (by decide))); replace HO247 := Aside0.mk (Kd.R_over' (R_a HO247.out) (Kd.R_typed (R_a HO233.out)) (by decide) hg); replace HB := Aside0.mk (below_weaken (by repeat (first | (with_reducible first | exact HB.out | apply below_alloc | apply pw_below_drewN | apply below_drew1 | refine below_set ?_ (IsS99.ge HI0.out)) | exact HB.out)) HL.out hb); replace HK := Aside0.mk (KeepBut.trans (by repeat (first | (with_reducible first | exact HK.out | apply KeepBut.set_ | apply keep_drewN | apply keep_drew | apply keep_alloc) | exact HK.out)) (KeepBut.of_grown hg g) (Kd.R_base2 HO233.out)); have HO252 := Aside0.mk (ho); replace HI0 := n0_; clear HO233 n0_; clear ho hb hg hat))
    go_ret
    exact ⟨_, eq_a, R_a HO252.out, IsS99.a, by repeat (first | (with_reducible first | exact HB.out | apply below_alloc | apply pw_below_drewN | apply below_drew1 | refine below_set ?_ (IsS99.ge HI0.out)) | exact HB.out), by repeat (first | (with_reducible first | exact HK.out | apply KeepBut.set_ | apply keep_drewN | apply keep_drew | apply keep_alloc) | exact HK.out)⟩
   ·
    rw [if_neg c13] at H; exact absurd H (by simp)
  ·
   rw [if_neg c11] at H; have c11b0 : (t235 == 1) = false := beq_eq_false_iff_ne.mpr c11; have c11b1 : (t235 != 1) = true := bne_iff_ne.mpr c11
   by_cases c21 : t235 = 2
   ·
    rw [if_pos c21] at H; have c21b0 : (t235 == 2) = true := beq_iff_eq.mpr c21; have c21b1 : (t235 != 2) = false := bne_eq_false_iff_eq.mpr c21; clear c21
    by_cases c22 : t231.length + t231.length < 4398046511104
    ·
     rw [if_pos c22] at H; have LMc22 := Aside0.mk c22; clear c22; obtain ⟨y253, hy253⟩ : ∃ y_ : List (S51), y_ = (t231 ++ t231) := ⟨_, rfl⟩; replace H : (some (y253, t236)) = some (r1, r2) := by first | (rw [hy253]; with_reducible exact H) | (have H2_ := (Option.bind_some _ _).symm.trans H; rw [hy253]; with_reducible exact H2_) | (have H2_ := (Option.bind_some _ _).symm.trans H; with_reducible exact H2_) | with_reducible exact H | (rw [hy253]; exact H) | exact H
     have Ny253 := Aside0.mk hy253; clear hy253; simp only [Option.some.injEq, Prod.mk.injEq] at H; obtain ⟨rfl, rfl⟩ := H
     go_enter Try.func58, Try.ntmps58
     go_wp2_with (first | ((with_reducible refine gate_callee (f := 62) rfl ?_); refine goesL_ (some 5) rfl rfl Try.func62 (by kernel_rfl) rfl #[.pointer (some ⟨g, 0, none⟩)] rfl args_a ?_; (with_reducible refine (spec_l8Draw.calls k g s0_0 s0_1 t231 t234 w0 _ ?side1 ?side2 A2.out).mono ?_); (case side1 => exact IsS99.a); (case side2 => repeat (first | (with_reducible first | exact HB.out | apply below_alloc | apply pw_below_drewN | apply below_drew1 | refine below_set ?_ (IsS99.ge HI0.out)) | exact HB.out)); rintro e w23 ⟨v232, rfl, ho0, hi, hb, hk⟩; refine ⟨_, rfl, ?_⟩; have HO233 := Aside0.mk (Kd.R_lower ho0 (keep_size (w := w) (g := g) (row := none) (by repeat (first | (with_reducible first | exact HK.out | apply KeepBut.set_ | apply keep_drewN | apply keep_drew | apply keep_alloc) | exact HK.out)))); replace HK := Aside0.mk (KeepBut.trans (by repeat (first | (with_reducible first | exact HK.out | apply KeepBut.set_ | apply keep_drewN | apply keep_drew | apply keep_alloc) | exact HK.out)) hk (.inl rfl)); replace HB := Aside0.mk (hb); replace HI0 := Aside0.mk (hi); (try clear hb); (try clear hb2); (try clear hk); (try clear hi); (try clear ho0)) | ((with_reducible refine gate_callee (f := 50) rfl ?_); refine goesL_ (some 7) rfl rfl Try.func50 (by kernel_rfl) rfl #[.pointer (some ⟨g, 0, none⟩), .int .i64 14] rfl args_a ?_; (with_reducible refine (spec_l1Next.calls g s0_0 t234 14 t235 t236 w0 _ ?side1 ?side2 A3.out).mono ?_); (case side1 => exact IsS99.a); (case side2 => repeat (first | (with_reducible first | exact HB.out | apply below_alloc | apply pw_below_drewN | apply below_drew1 | refine below_set ?_ (IsS99.ge HI0.out)) | exact HB.out)); rintro e w24 ⟨rfl, hi, hb, hk⟩; refine ⟨_, rfl, ?_⟩; replace HO233 := Aside0.mk (Kd.R_mono (Kd.R_keep (IsS99.apart (show IsS99 w0 _ g s0_0 t234 from IsS99.a) (R_a HO233.out) (by decide)) hk (fun _ h => h.2)) (fun _ h => h.1)); replace HK := Aside0.mk (KeepBut.trans (by repeat (first | (with_reducible first | exact HK.out | apply KeepBut.set_ | apply keep_drewN | apply keep_drew | apply keep_alloc) | exact HK.out)) hk (.inl rfl)); replace HB := Aside0.mk (hb); replace HI0 := Aside0.mk (hi); (try clear hb); (try clear hb2); (try clear hk); (try clear hi); obtain ⟨Ao26, co26, eo26⟩ := Kd.R_slice HO233.out; subst eo26) | ((with_reducible refine gate_builtin (b := .append) (xs := #[.tmp 26, .tmp 27]) rfl ?_); at_builtin; refine Kd.R_append_rows k51 w.heap.size rfl (.tmp 26) (.tmp 27) 36 51 (.agg #[(.int .i64 0), (.int .i64 0), (.int .i64 0), (.int .i64 0)]) 32 rfl Try.underlying36 info51 rfl (by decide) (by omega) (.slice Ao26 t231.length co26) t231 t231 _ _ _ (fun _ => True) (fun _ => False) rfl rfl ?aO ?aR (fun _ _ h => h) (fun _ h => h.elim) ?aF (Below.refl _ _) ?aS ?aL ?_; (case aR => repeat (first | exact (Kd.R_reads' HO233.out).2.2 | (with_reducible refine Kd.C_alloc ?_ _) | (with_reducible refine Kd.C_drewN ?_ _) | (with_reducible refine Kd.C_drew ?_))); (case aF => exact (fun _ _ => trivial)); (case aO => exact (R_a HO233.out)); (case aS => exact (keep_size (w := w) (g := g) (row := none) (by repeat (first | (with_reducible first | exact HK.out | apply KeepBut.set_ | apply keep_drewN | apply keep_drew | apply keep_alloc) | exact HK.out)))); (case aL => have := LMc22.out; omega); intro v254 w25 ho hb hg hat; rw [← Ny253.out] at ho; have n0_ := Aside0.mk (IsS99.grown (show IsS99 w0 _ g s0_0 t236 from IsS99.a) hg (IsS99.own_ne HI0.out HO233.out (by decide))); replace HB := Aside0.mk (below_weaken (by repeat (first | (with_reducible first | exact HB.out | apply below_alloc | apply pw_below_drewN | apply below_drew1 | refine below_set ?_ (IsS99.ge HI0.out)) | exact HB.out)) HL.out hb); replace HK := Aside0.mk (KeepBut.trans (by repeat (first | (with_reducible first | exact HK.out | apply KeepBut.set_ | apply keep_drewN | apply keep_drew | apply keep_alloc) | exact HK.out)) (KeepBut.of_grown hg g) (Kd.R_base2 HO233.out)); have HO255 := Aside0.mk (ho); replace HI0 := n0_; clear HO233 n0_; clear ho hb hg hat))
     go_ret
     exact ⟨_, eq_a, R_a HO255.out, IsS99.a, by repeat (first | (with_reducible first | exact HB.out | apply below_alloc | apply pw_below_drewN | apply below_drew1 | refine below_set ?_ (IsS99.ge HI0.out)) | exact HB.out), by repeat (first | (with_reducible first | exact HK.out | apply KeepBut.set_ | apply keep_drewN | apply keep_drew | apply keep_alloc) | exact HK.out)⟩
    ·
     rw [if_neg c22] at H; exact absurd H (by simp)
   ·
    rw [if_neg c21] at H; have c21b0 : (t235 == 2) = false := beq_eq_false_iff_ne.mpr c21; have c21b1 : (t235 != 2) = true := bne_iff_ne.mpr c21
    by_cases c27 : t235 = 3
    ·
     rw [if_pos c27] at H; have c27b0 : (t235 == 3) = true := beq_iff_eq.mpr c27; have c27b1 : (t235 != 3) = false := bne_eq_false_iff_eq.mpr c27; clear c27
     by_cases c28 : (t231.length : Int) > 0
     ·
      rw [if_pos c28] at H; have c28b0 : decide (0 < (t231.length : Int)) = true := decide_eq_true c28; have c28b1 : decide (0 < t231.length) = true := decide_eq_true (by omega); clear c28; obtain ⟨y256, hy256⟩ : ∃ y_ : List Int, y_ = (([3, (-1), 2] : List Int)) := ⟨_, rfl⟩; replace H : ((spec_l1Pick.f s0_0 t236 y256).bind fun bt259 => (if 0 < (t231.length : Int) then (some ((t231.set (0 : Int).toNat (⟨(rd_T51 t231 0).f0, (rd_T51 t231 0).f1, bt259.1, (rd_T51 t231 0).f3⟩ : S51)), bt259.2)) else (none))) = some (r1, r2) := by first | (rw [hy256]; with_reducible exact H) | (have H2_ := (Option.bind_some _ _).symm.trans H; rw [hy256]; with_reducible exact H2_) | (have H2_ := (Option.bind_some _ _).symm.trans H; with_reducible exact H2_) | with_reducible exact H | (rw [hy256]; exact H) | exact H
      have Ny256 := Aside0.mk hy256; clear hy256; replace H := Option.bind_eq_some_iff.mp H; obtain ⟨⟨t259, t260⟩, A290, H⟩ := H; replace H : (if 0 < (t231.length : Int) then (some ((t231.set (0 : Int).toNat (⟨(rd_T51 t231 0).f0, (rd_T51 t231 0).f1, t259, (rd_T51 t231 0).f3⟩ : S51)), t260)) else (none)) = some (r1, r2) := H; have A29 := Aside0.mk A290; clear A290
      by_cases c30 : 0 < (t231.length : Int)
      ·
       rw [if_pos c30] at H; have c30b0 : decide (0 < (t231.length : Int)) = true := decide_eq_true c30; have c30b1 : decide (0 < t231.length) = true := decide_eq_true (by omega); clear c30; obtain ⟨y261, hy261⟩ : ∃ y_ : List (S51), y_ = (t231.set (0 : Int).toNat (⟨(rd_T51 t231 0).f0, (rd_T51 t231 0).f1, t259, (rd_T51 t231 0).f3⟩ : S51)) := ⟨_, rfl⟩; replace H : (some (y261, t260)) = some (r1, r2) := by first | (rw [hy261]; with_reducible exact H) | (have H2_ := (Option.bind_some _ _).symm.trans H; rw [hy261]; with_reducible exact H2_) | (have H2_ := (Option.bind_some _ _).symm.trans H; with_reducible exact H2_) | with_reducible exact H | (rw [hy261]; exact H) | exact H
       have Ny261 := Aside0.mk hy261; clear hy261; simp only [Option.some.injEq, Prod.mk.injEq] at H; obtain ⟨rfl, rfl⟩ := H
       go_enter Try.func58, Try.ntmps58
       go_wp2_with (first | ((with_reducible refine gate_callee (f := 62) rfl ?_); refine goesL_ (some 5) rfl rfl Try.func62 (by kernel_rfl) rfl #[.pointer (some ⟨g, 0, none⟩)] rfl args_a ?_; (with_reducible refine (spec_l8Draw.calls k g s0_0 s0_1 t231 t234 w0 _ ?side1 ?side2 A2.out).mono ?_); (case side1 => exact IsS99.a); (case side2 => repeat (first | (with_reducible first | exact HB.out | apply below_alloc | apply pw_below_drewN | apply below_drew1 | refine below_set ?_ (IsS99.ge HI0.out)) | exact HB.out)); rintro e w32 ⟨v232, rfl, ho0, hi, hb, hk⟩; refine ⟨_, rfl, ?_⟩; have HO233 := Aside0.mk (Kd.R_lower ho0 (keep_size (w := w) (g := g) (row := none) (by repeat (first | (with_reducible first | exact HK.out | apply KeepBut.set_ | apply keep_drewN | apply keep_drew | apply keep_alloc) | exact HK.out)))); replace HK := Aside0.mk (KeepBut.trans (by repeat (first | (with_reducible first | exact HK.out | apply KeepBut.set_ | apply keep_drewN | apply keep_drew | apply keep_alloc) | exact HK.out)) hk (.inl rfl)); replace HB := Aside0.mk (hb); replace HI0 := Aside0.mk (hi); (try clear hb); (try clear hb2); (try clear hk); (try clear hi); (try clear ho0)) | ((with_reducible refine gate_callee (f := 50) rfl ?_); refine goesL_ (some 7) rfl rfl Try.func50 (by kernel_rfl) rfl #[.pointer (some ⟨g, 0, none⟩), .int .i64 14] rfl args_a ?_; (with_reducible refine (spec_l1Next.calls g s0_0 t234 14 t235 t236 w0 _ ?side1 ?side2 A3.out).mono ?_); (case side1 => exact IsS99.a); (case side2 => repeat (first | (with_reducible first | exact HB.out | apply below_alloc | apply pw_below_drewN | apply below_drew1 | refine below_set ?_ (IsS99.ge HI0.out)) | exact HB.out)); rintro e w33 ⟨rfl, hi, hb, hk⟩; refine ⟨_, rfl, ?_⟩; replace HO233 := Aside0.mk (Kd.R_mono (Kd.R_keep (IsS99.apart (show IsS99 w0 _ g s0_0 t234 from IsS99.a) (R_a HO233.out) (by decide)) hk (fun _ h => h.2)) (fun _ h => h.1)); replace HK := Aside0.mk (KeepBut.trans (by repeat (first | (with_reducible first | exact HK.out | apply KeepBut.set_ | apply keep_drewN | apply keep_drew | apply keep_alloc) | exact HK.out)) hk (.inl rfl)); replace HB := Aside0.mk (hb); replace HI0 := Aside0.mk (hi); (try clear hb); (try clear hb2); (try clear hk); (try clear hi); obtain ⟨Ao34, co34, eo34⟩ := Kd.R_slice HO233.out; subst eo34) | ((with_reducible refine gate_dst (N := 36) rfl ?_); refine Kd.R_lit (Kd.int .i64) _ 2 ?hg (N := 36) ?hd (xs := ([3, (-1), 2] : List Int)) (inner := [.int .i64 3, .int .i64 (-1), .int .i64 2]) (ok := fun _ => True) (okp := fun _ => True) ?hr ?hp (fun _ hk => hk) trivial (Below.refl _ _) (Nat.le_refl _) (by simp) ?_; (case hd => rfl); (case hg => rfl); (case hr => first | (go_simp; done) | (go_simp; rfl)); (case hp => exact (Reps.one (show Kd.M (Kd.int .i64) _ _ _ 3 [.int .i64 3] from rfl) (Reps.one (show Kd.M (Kd.int .i64) _ _ _ (-1) [.int .i64 (-1)] from rfl) (Reps.one (show Kd.M (Kd.int .i64) _ _ _ 2 [.int .i64 2] from rfl) (Reps.none _ _))))); intro v257 w35 ho36 hb hg_ hnew_; clear hg_ hnew_; (first | rw [← Ny256.out] at ho36 | (simp only [Int.reduceToNat] at ho36; rw [← Ny256.out] at ho36)); replace HO233 := Aside0.mk (Kd.R_below (R_a HO233.out) hb); have HO258 := Aside0.mk (Kd.R_lower ho36 (keep_size (w := w) (g := g) (row := none) (by repeat (first | (with_reducible first | exact HK.out | apply KeepBut.set_ | apply keep_drewN | apply keep_drew | apply keep_alloc) | exact HK.out)))); have n2_ := Aside0.mk (IsS99.below (IsS99.a) hb); replace HK := Aside0.mk (KeepBut.trans (by repeat (first | (with_reducible first | exact HK.out | apply KeepBut.set_ | apply keep_drewN | apply keep_drew | apply keep_alloc) | exact HK.out)) (KeepBut.of_below hb g none) (.inl rfl)); replace HB := Aside0.mk (below_step (by repeat (first | (with_reducible first | exact HB.out | apply below_alloc | apply pw_below_drewN | apply below_drew1 | refine below_set ?_ (IsS99.ge HI0.out)) | exact HB.out)) hb); replace HI0 := n2_; clear n2_; clear hb ho36; obtain ⟨Ao37, co37, eo37⟩ := Kd.R_slice HO258.out; subst eo37) | ((with_reducible refine gate_callee (f := 47) rfl ?_); refine goesL_ (some 37) rfl rfl Try.func47 (by kernel_rfl) rfl #[.pointer (some ⟨g, 0, none⟩), .slice Ao37 y256.length co37] rfl args_a ?_; (with_reducible refine (spec_l1Pick.calls g s0_0 t236 _ _ y256 t259 t260 w0 _ ?side1 ?side2 ?side3 ?side4 ?side5 A29.out).mono ?_); (case side1 => exact IsS99.a); (case side2 => repeat (first | (with_reducible first | exact HB.out | apply below_alloc | apply pw_below_drewN | apply below_drew1 | refine below_set ?_ (IsS99.ge HI0.out)) | exact HB.out)); (case side3 => repeat (first | exact (Kd.R_reads' HO258.out).2.2 | (with_reducible refine Kd.C_alloc ?_ _) | (with_reducible refine Kd.C_drewN ?_ _) | (with_reducible refine Kd.C_drew ?_))); (case side4 => exact (Kd.R_reads' HO258.out).2.1); (case side5 => exact far_slice (IsS99.own_ne HI0.out HO258.out (by decide))); rintro e w38 ⟨rfl, hi, hb, hk⟩; refine ⟨_, rfl, ?_⟩; replace HO233 := Aside0.mk (Kd.R_mono (Kd.R_keep (IsS99.apart (show IsS99 w0 _ g s0_0 t236 from IsS99.a) (R_a HO233.out) (by decide)) hk (fun _ h => h.2)) (fun _ h => h.1)); replace HO258 := Aside0.mk (Kd.R_mono (Kd.R_keep (IsS99.apart (show IsS99 w0 _ g s0_0 t236 from IsS99.a) (R_a HO258.out) (by decide)) hk (fun _ h => h.2)) (fun _ h => h.1)); replace HK := Aside0.mk (KeepBut.trans (by repeat (first | (with_reducible first | exact HK.out | apply KeepBut.set_ | apply keep_drewN | apply keep_drew | apply keep_alloc) | exact HK.out)) hk (.inl rfl)); replace HB := Aside0.mk (hb); replace HI0 := Aside0.mk (hi); (try clear hb); (try clear hb2); (try clear hk); (try clear hi); have p31 : 0 ≤ (0 : Int) := (by omega); have q31 : (0 : Int) < ((t231.length : Int) : Int) := of_decide_eq_true (by first | (with_reducible assumption) | assumption); have qi31 : (0 < t231.length) = True := eq_true (by omega); obtain ⟨go31, co31, eo31, gb31, gl31, cl31, HG31⟩ := Kd.R_form HO233.out (by omega); (first | cases eo31 | (injection eo31 with ea_ en_ ec_; (first | subst ea_ | (injection ea_ with ea_; subst ea_)); subst ec_; clear en_)); have GB31 := Aside0.mk gb31; have GG31 := Aside0.mk HG31; clear gb31 gl31 HG31; obtain ⟨ce31, hcl31, hM31, hcc31, hfr31⟩ := Kd.R_elem HO233.out z51 (0 : Int) p31 q31; obtain rfl := k51_openM hM31; have hx31_0 : w38.cell? ⟨go31, (0 : Int).toNat * 4, none⟩ = some (.int .i64 ((rd_T51 t231 0).f0)) := hcc31 0 _ rfl; have hx31_1 : w38.cell? ⟨go31, (0 : Int).toNat * 4 + 1, none⟩ = some (.int .i64 ((rd_T51 t231 0).f1)) := hcc31 1 _ rfl; have hx31_2 : w38.cell? ⟨go31, (0 : Int).toNat * 4 + 2, none⟩ = some (.int .i64 ((rd_T51 t231 0).f2)) := hcc31 2 _ rfl; have hx31_3 : w38.cell? ⟨go31, (0 : Int).toNat * 4 + 3, none⟩ = some (.int .i64 ((rd_T51 t231 0).f3)) := hcc31 3 _ rfl; have hf31_0 : w38.frozen? ⟨go31, (0 : Int).toNat * 4, none⟩ = false := hfr31 0; have hf31_1 : w38.frozen? ⟨go31, (0 : Int).toNat * 4 + 1, none⟩ = false := hfr31 1; have hf31_2 : w38.frozen? ⟨go31, (0 : Int).toNat * 4 + 2, none⟩ = false := hfr31 2; have hf31_3 : w38.frozen? ⟨go31, (0 : Int).toNat * 4 + 3, none⟩ = false := hfr31 3; clear hcl31 hcc31 hfr31 hM31; (try rw [show ((0 : Int)).toNat = 0 from rfl] at hx31_0); (try simp only [Nat.reduceMul, Nat.zero_mul, Nat.zero_add, Nat.reduceAdd] at hx31_0); (try rw [show ((0 : Int)).toNat = 0 from rfl] at hf31_0); (try simp only [Nat.reduceMul, Nat.zero_mul, Nat.zero_add, Nat.reduceAdd] at hf31_0); (try rw [show ((0 : Int)).toNat = 0 from rfl] at hx31_1); (try simp only [Nat.reduceMul, Nat.zero_mul, Nat.zero_add, Nat.reduceAdd] at hx31_1); (try rw [show ((0 : Int)).toNat = 0 from rfl] at hf31_1); (try simp only [Nat.reduceMul, Nat.zero_mul, Nat.zero_add, Nat.reduceAdd] at hf31_1); (try rw [show ((0 : Int)).toNat = 0 from rfl] at hx31_2); (try simp only [Nat.reduceMul, Nat.zero_mul, Nat.zero_add, Nat.reduceAdd] at hx31_2); (try rw [show ((0 : Int)).toNat = 0 from rfl] at hf31_2); (try simp only [Nat.reduceMul, Nat.zero_mul, Nat.zero_add, Nat.reduceAdd] at hf31_2); (try rw [show ((0 : Int)).toNat = 0 from rfl] at hx31_3); (try simp only [Nat.reduceMul, Nat.zero_mul, Nat.zero_add, Nat.reduceAdd] at hx31_3); (try rw [show ((0 : Int)).toNat = 0 from rfl] at hf31_3); (try simp only [Nat.reduceMul, Nat.zero_mul, Nat.zero_add, Nat.reduceAdd] at hf31_3); replace p31 := eq_true p31; replace q31 := eq_true q31; have HX39 := Aside0.mk (show Kd.R k51 51 w38 w.heap.size (fun _ => True) (.slice (some ⟨go31, 0, none⟩) t231.length co34) t231 from (R_a HO233.out)); obtain ⟨ce39, hcl39, hM39, hcc39, hfr39⟩ := Kd.R_elem HX39.out z51 (0 : Int) (by omega) (by have h_ : (0 : Int) < ((t231.length : Int) : Int) := of_decide_eq_true (by first | (with_reducible assumption) | assumption); first | exact h_ | (have e_ := (Kd.R_reads' HO233.out).1; omega) | simpa using h_); obtain rfl := k51_openM hM39; have HP39 := Kd.R_seg HX39.out (0 : Int) (by omega) (by have h_ : (0 : Int) < ((t231.length : Int) : Int) := of_decide_eq_true (by first | (with_reducible assumption) | assumption); first | exact h_ | (have e_ := (Kd.R_reads' HO233.out).1; omega) | simpa using h_) (seg := [.int .i64 t259]) (j := 2) hcl39 hcc39 (show 3 ≤ 4 from by decide) (x' := (⟨(rd_T51 t231 0).f0, (rd_T51 t231 0).f1, t259, (rd_T51 t231 0).f3⟩ : S51)) (k51_mkM _ _ _ (⟨(rd_T51 t231 0).f0, (rd_T51 t231 0).f1, t259, (rd_T51 t231 0).f3⟩ : S51) ) (fun _ hk => hk); have hx39_2 := hcc39 2 _ rfl; (try simp only [show (k51).sz = 4 from rfl, Nat.mul_one, Nat.add_zero] at hx39_2); (try rw [show ((0 : Int)).toNat = 0 from rfl] at hx39_2); (try simp only [Nat.reduceMul, Nat.zero_mul, Nat.zero_add, Nat.reduceAdd] at hx39_2); have hf39_2 := hfr39 2; (try simp only [show (k51).sz = 4 from rfl, Nat.mul_one, Nat.add_zero] at hf39_2); (try rw [show ((0 : Int)).toNat = 0 from rfl] at hf39_2); (try simp only [Nat.reduceMul, Nat.zero_mul, Nat.zero_add, Nat.reduceAdd] at hf39_2); clear hcl39 hcc39 hfr39 hM39) | ((with_reducible refine gate_store (t := 2) (p := 39) rfl ?_); refine store_event (t := 2) (p := 39) (v := ?vo_w40) (w1 := (w38.setCell ⟨go31, 2, none⟩ (.int .i64 t259))) ?hg ?ho ?hn ?hr ?_; (case ho => rfl); (case hg => rfl); (case hn => rfl); (case hr => first | (go_simp; done) | (go_simp; rfl)); intro w40 hw; have hg : w38.grownBy w40 (some go31) := (by rw [hw]; exact HP39.2); have hp_ : Kd.R k51 51 w40 w.heap.size (fun _ => True) (.slice (some ⟨go31, 0, none⟩) t231.length co34) y261 := (by rw [hw, Ny261.out]; exact HP39.1); clear HP39; replace HI0 := Aside0.mk (IsS99.grown (show IsS99 w0 _ g s0_0 t260 from IsS99.a) hg (IsS99.own_ne HI0.out HO233.out (by decide))); have n1_ := Aside0.mk (hp_); replace HO258 := Aside0.mk (Kd.R_over' (v := (.slice (some ⟨go31, 0, none⟩) t231.length co34)) (R_a HO258.out) (Kd.R_typed HO233.out) (by decide) hg); replace HB := Aside0.mk ((by rw [hw]; exact below_set (HB.out) (Nat.le_trans HL.out GB31.out) : Below w0.heap.size w0 w40)); replace HK := Aside0.mk (KeepBut.trans (by repeat (first | (with_reducible first | exact HK.out | apply KeepBut.set_ | apply keep_drewN | apply keep_drew | apply keep_alloc) | exact HK.out)) (KeepBut.of_grown hg g) (Kd.R_base2 HO233.out)); replace HO233 := n1_; clear n1_; clear hg hw hp_))
       go_ret
       exact ⟨_, eq_a, R_a HO233.out, IsS99.a, by repeat (first | (with_reducible first | exact HB.out | apply below_alloc | apply pw_below_drewN | apply below_drew1 | refine below_set ?_ (IsS99.ge HI0.out)) | exact HB.out), by repeat (first | (with_reducible first | exact HK.out | apply KeepBut.set_ | apply keep_drewN | apply keep_drew | apply keep_alloc) | exact HK.out)⟩
      ·
       rw [if_neg c30] at H; exact absurd H (by simp)
     ·
      rw [if_neg c28] at H; have c28b0 : decide (0 < (t231.length : Int)) = false := decide_eq_false c28; have c28b1 : decide (0 < t231.length) = false := decide_eq_false (by omega); clear c28; simp only [Option.some.injEq, Prod.mk.injEq] at H; obtain ⟨rfl, rfl⟩ := H
      go_enter Try.func58, Try.ntmps58
      go_wp2_with (first | ((with_reducible refine gate_callee (f := 62) rfl ?_); refine goesL_ (some 5) rfl rfl Try.func62 (by kernel_rfl) rfl #[.pointer (some ⟨g, 0, none⟩)] rfl args_a ?_; (with_reducible refine (spec_l8Draw.calls k g s0_0 s0_1 t231 t234 w0 _ ?side1 ?side2 A2.out).mono ?_); (case side1 => exact IsS99.a); (case side2 => repeat (first | (with_reducible first | exact HB.out | apply below_alloc | apply pw_below_drewN | apply below_drew1 | refine below_set ?_ (IsS99.ge HI0.out)) | exact HB.out)); rintro e w41 ⟨v232, rfl, ho0, hi, hb, hk⟩; refine ⟨_, rfl, ?_⟩; have HO233 := Aside0.mk (Kd.R_lower ho0 (keep_size (w := w) (g := g) (row := none) (by repeat (first | (with_reducible first | exact HK.out | apply KeepBut.set_ | apply keep_drewN | apply keep_drew | apply keep_alloc) | exact HK.out)))); replace HK := Aside0.mk (KeepBut.trans (by repeat (first | (with_reducible first | exact HK.out | apply KeepBut.set_ | apply keep_drewN | apply keep_drew | apply keep_alloc) | exact HK.out)) hk (.inl rfl)); replace HB := Aside0.mk (hb); replace HI0 := Aside0.mk (hi); (try clear hb); (try clear hb2); (try clear hk); (try clear hi); (try clear ho0)) | ((with_reducible refine gate_callee (f := 50) rfl ?_); refine goesL_ (some 7) rfl rfl Try.func50 (by kernel_rfl) rfl #[.pointer (some ⟨g, 0, none⟩), .int .i64 14] rfl args_a ?_; (with_reducible refine (spec_l1Next.calls g s0_0 t234 14 t235 t236 w0 _ ?side1 ?side2 A3.out).mono ?_); (case side1 => exact IsS99.a); (case side2 => repeat (first | (with_reducible first | exact HB.out | apply below_alloc | apply pw_below_drewN | apply below_drew1 | refine below_set ?_ (IsS99.ge HI0.out)) | exact HB.out)); rintro e w42 ⟨rfl, hi, hb, hk⟩; refine ⟨_, rfl, ?_⟩; replace HO233 := Aside0.mk (Kd.R_mono (Kd.R_keep (IsS99.apart (show IsS99 w0 _ g s0_0 t234 from IsS99.a) (R_a HO233.out) (by decide)) hk (fun _ h => h.2)) (fun _ h => h.1)); replace HK := Aside0.mk (KeepBut.trans (by repeat (first | (with_reducible first | exact HK.out | apply KeepBut.set_ | apply keep_drewN | apply keep_drew | apply keep_alloc) | exact HK.out)) hk (.inl rfl)); replace HB := Aside0.mk (hb); replace HI0 := Aside0.mk (hi); (try clear hb); (try clear hb2); (try clear hk); (try clear hi); obtain ⟨Ao43, co43, eo43⟩ := Kd.R_slice HO233.out; subst eo43))
      go_ret
      exact ⟨_, eq_a, R_a HO233.out, IsS99.a, by repeat (first | (with_reducible first | exact HB.out | apply below_alloc | apply pw_below_drewN | apply below_drew1 | refine below_set ?_ (IsS99.ge HI0.out)) | exact HB.out), by repeat (first | (with_reducible first | exact HK.out | apply KeepBut.set_ | apply keep_drewN | apply keep_drew | apply keep_alloc) | exact HK.out)⟩
    ·
     rw [if_neg c27] at H; have c27b0 : (t235 == 3) = false := beq_eq_false_iff_ne.mpr c27; have c27b1 : (t235 != 3) = true := bne_iff_ne.mpr c27; simp only [Option.some.injEq, Prod.mk.injEq] at H; obtain ⟨rfl, rfl⟩ := H
     go_enter Try.func58, Try.ntmps58
     go_wp2_with (first | ((with_reducible refine gate_callee (f := 62) rfl ?_); refine goesL_ (some 5) rfl rfl Try.func62 (by kernel_rfl) rfl #[.pointer (some ⟨g, 0, none⟩)] rfl args_a ?_; (with_reducible refine (spec_l8Draw.calls k g s0_0 s0_1 t231 t234 w0 _ ?side1 ?side2 A2.out).mono ?_); (case side1 => exact IsS99.a); (case side2 => repeat (first | (with_reducible first | exact HB.out | apply below_alloc | apply pw_below_drewN | apply below_drew1 | refine below_set ?_ (IsS99.ge HI0.out)) | exact HB.out)); rintro e w44 ⟨v232, rfl, ho0, hi, hb, hk⟩; refine ⟨_, rfl, ?_⟩; have HO233 := Aside0.mk (Kd.R_lower ho0 (keep_size (w := w) (g := g) (row := none) (by repeat (first | (with_reducible first | exact HK.out | apply KeepBut.set_ | apply keep_drewN | apply keep_drew | apply keep_alloc) | exact HK.out)))); replace HK := Aside0.mk (KeepBut.trans (by repeat (first | (with_reducible first | exact HK.out | apply KeepBut.set_ | apply keep_drewN | apply keep_drew | apply keep_alloc) | exact HK.out)) hk (.inl rfl)); replace HB := Aside0.mk (hb); replace HI0 := Aside0.mk (hi); (try clear hb); (try clear hb2); (try clear hk); (try clear hi); (try clear ho0)) | ((with_reducible refine gate_callee (f := 50) rfl ?_); refine goesL_ (some 7) rfl rfl Try.func50 (by kernel_rfl) rfl #[.pointer (some ⟨g, 0, none⟩), .int .i64 14] rfl args_a ?_; (with_reducible refine (spec_l1Next.calls g s0_0 t234 14 t235 t236 w0 _ ?side1 ?side2 A3.out).mono ?_); (case side1 => exact IsS99.a); (case side2 => repeat (first | (with_reducible first | exact HB.out | apply below_alloc | apply pw_below_drewN | apply below_drew1 | refine below_set ?_ (IsS99.ge HI0.out)) | exact HB.out)); rintro e w45 ⟨rfl, hi, hb, hk⟩; refine ⟨_, rfl, ?_⟩; replace HO233 := Aside0.mk (Kd.R_mono (Kd.R_keep (IsS99.apart (show IsS99 w0 _ g s0_0 t234 from IsS99.a) (R_a HO233.out) (by decide)) hk (fun _ h => h.2)) (fun _ h => h.1)); replace HK := Aside0.mk (KeepBut.trans (by repeat (first | (with_reducible first | exact HK.out | apply KeepBut.set_ | apply keep_drewN | apply keep_drew | apply keep_alloc) | exact HK.out)) hk (.inl rfl)); replace HB := Aside0.mk (hb); replace HI0 := Aside0.mk (hi); (try clear hb); (try clear hb2); (try clear hk); (try clear hi)))
     go_ret
     exact ⟨_, eq_a, R_a HO233.out, IsS99.a, by repeat (first | (with_reducible first | exact HB.out | apply below_alloc | apply pw_below_drewN | apply below_drew1 | refine below_set ?_ (IsS99.ge HI0.out)) | exact HB.out), by repeat (first | (with_reducible first | exact HK.out | apply KeepBut.set_ | apply keep_drewN | apply keep_drew | apply keep_alloc) | exact HK.out)⟩

/-! ### spec_DrawFindClaim: function 21 -/
def spec_DrawFindClaim.f (k : Nat) (l0 : List Int) : Option ((List (S51)) × Int) := (spec_l1Source.f l0).bind fun bt262 => ((spec_l8Bent.f k bt262.1 bt262.2).bind fun bt265 => ((spec_l1Pick.f bt262.1 bt265.2 (([0, 1, 2, 3, 4, (-1)] : List Int))).bind fun bt272 => (some (bt265.1, bt272.1))))
theorem spec_DrawFindClaim.mono : ∀ a0 k, LeO (spec_DrawFindClaim.f k a0) (spec_DrawFindClaim.f (k + 1) a0) := by
 intro a0 k
 unfold spec_DrawFindClaim.f
 repeat' first
   | (with_reducible exact spec_l8Bent.mono _ _ _)
   | (with_reducible exact LeO.refl _)
   | (with_reducible exact LeO.none _)
   | (with_reducible refine LeO.ite ?_ ?_)
   | (with_reducible refine LeO.bind ?_ (fun _ => ?_))
   | exact spec_l8Bent.mono _ _ _
   | exact LeO.none _
   | refine LeO.ite ?_ ?_
   | refine LeO.bind ?_ (fun _ => ?_)
set_option maxHeartbeats 8000000 in
set_option maxRecDepth 100000 in
theorem spec_DrawFindClaim.calls (k : Nat) (A0 : Option Addr) (c0 : Nat) (l0 : List Int) (r1 : List (S51)) (r2 : Int) (w : World) (hr0 : Kd.C (Kd.int .u8) w A0 l0.length l0) (hc0 : l0.length ≤ c0) (h : spec_DrawFindClaim.f k l0 = some (r1, r2)) :
  Calls Try.prog 21 #[.slice A0 l0.length c0] w fun e w' => ∃ v0_ : Value, e = .returned (.tuple #[v0_, .int .i64 r2]) ∧ Kd.R k51 51 w' w.heap.size (fun _ => True) v0_ r1 ∧ Below w.heap.size w w' := by
 have HR0 := Aside0.mk hr0
 have HC0 := Aside0.mk hc0
 clear hr0 hc0
 have HB := Aside0.mk (Below.refl w.heap.size w)
 have H : ((spec_l1Source.f l0).bind fun bt262 => ((spec_l8Bent.f k bt262.1 bt262.2).bind fun bt265 => ((spec_l1Pick.f bt262.1 bt265.2 (([0, 1, 2, 3, 4, (-1)] : List Int))).bind fun bt272 => (some (bt265.1, bt272.1))))) = some (r1, r2) := h
 clear h
 replace H := Option.bind_eq_some_iff.mp H
 obtain ⟨⟨t262, t263⟩, A20, H⟩ := H
 replace H : ((spec_l8Bent.f k t262 t263).bind fun bt265 => ((spec_l1Pick.f t262 bt265.2 (([0, 1, 2, 3, 4, (-1)] : List Int))).bind fun bt272 => (some (bt265.1, bt272.1)))) = some (r1, r2) := H
 have A2 := Aside0.mk A20
 clear A20
 replace H := Option.bind_eq_some_iff.mp H
 obtain ⟨⟨t265, t268⟩, A30, H⟩ := H
 replace H : ((spec_l1Pick.f t262 t268 (([0, 1, 2, 3, 4, (-1)] : List Int))).bind fun bt272 => (some (t265, bt272.1))) = some (r1, r2) := H
 have A3 := Aside0.mk A30
 clear A30
 obtain ⟨y269, hy269⟩ : ∃ y_ : List Int, y_ = (([0, 1, 2, 3, 4, (-1)] : List Int)) := ⟨_, rfl⟩
 replace H : ((spec_l1Pick.f t262 t268 y269).bind fun bt272 => (some (t265, bt272.1))) = some (r1, r2) := by first | (rw [hy269]; with_reducible exact H) | (have H2_ := (Option.bind_some _ _).symm.trans H; rw [hy269]; with_reducible exact H2_) | (have H2_ := (Option.bind_some _ _).symm.trans H; with_reducible exact H2_) | with_reducible exact H | (rw [hy269]; exact H) | exact H
 have Ny269 := Aside0.mk hy269
 clear hy269
 replace H := Option.bind_eq_some_iff.mp H
 obtain ⟨⟨t272, t273⟩, A40, H⟩ := H
 replace H : (some (t265, t272)) = some (r1, r2) := H
 have A4 := Aside0.mk A40
 clear A40
 simp only [Option.some.injEq, Prod.mk.injEq] at H
 obtain ⟨rfl, rfl⟩ := H
 go_enter Try.func21, Try.ntmps21
 go_wp2_with (first | ((with_reducible refine gate_callee (f := 46) rfl ?_); refine goesL_ (some 6) rfl rfl Try.func46 (by kernel_rfl) rfl #[.slice A0 l0.length c0] rfl args_a ?_; (with_reducible refine (spec_l1Source.calls _ _ l0 t262 t263 w _ ?side1 ?side2 ?side3 A2.out).mono ?_); (case side1 => exact below_a); (case side2 => exact HR0.out); (case side3 => exact HC0.out); rintro e w5 ⟨g264, rfl, hi, hb, hb2⟩; refine ⟨_, rfl, ?_⟩; replace HB := Aside0.mk (hb); have HI264 := Aside0.mk (hi); (try clear hb); (try clear hb2); (try clear hk); (try clear hi)) | ((with_reducible refine gate_callee (f := 58) rfl ?_); refine goesL_ (some 8) rfl rfl Try.func58 (by kernel_rfl) rfl #[.pointer (some ⟨g264, 0, none⟩)] rfl args_a ?_; (with_reducible refine (spec_l8Bent.calls k g264 t262 t263 t265 t268 w _ ?side1 ?side2 A3.out).mono ?_); (case side1 => exact IsS99.a); (case side2 => repeat (first | (with_reducible first | exact HB.out | apply below_alloc | apply pw_below_drewN | apply below_drew1 | refine below_set ?_ (IsS99.ge HI264.out)) | exact HB.out)); rintro e w6 ⟨v266, rfl, ho0, hi, hb, hk⟩; refine ⟨_, rfl, ?_⟩; have HO267 := Aside0.mk (Kd.R_lower ho0 (below_size (by repeat (first | (with_reducible first | exact HB.out | apply below_alloc | apply pw_below_drewN | apply below_drew1 | refine below_set ?_ (IsS99.ge HI264.out)) | exact HB.out)))); replace HB := Aside0.mk (hb); replace HI264 := Aside0.mk (hi); (try clear hb); (try clear hb2); (try clear hk); (try clear hi); (try clear ho0)) | ((with_reducible refine gate_dst (N := 10) rfl ?_); refine Kd.R_lit (Kd.int .i64) _ 2 ?hg (N := 10) ?hd (xs := ([0, 1, 2, 3, 4, (-1)] : List Int)) (inner := [.int .i64 0, .int .i64 1, .int .i64 2, .int .i64 3, .int .i64 4, .int .i64 (-1)]) (ok := fun _ => True) (okp := fun _ => True) ?hr ?hp (fun _ hk => hk) trivial (Below.refl _ _) (Nat.le_refl _) (by simp) ?_; (case hd => rfl); (case hg => rfl); (case hr => first | (go_simp; done) | (go_simp; rfl)); (case hp => exact (Reps.one (show Kd.M (Kd.int .i64) _ _ _ 0 [.int .i64 0] from rfl) (Reps.one (show Kd.M (Kd.int .i64) _ _ _ 1 [.int .i64 1] from rfl) (Reps.one (show Kd.M (Kd.int .i64) _ _ _ 2 [.int .i64 2] from rfl) (Reps.one (show Kd.M (Kd.int .i64) _ _ _ 3 [.int .i64 3] from rfl) (Reps.one (show Kd.M (Kd.int .i64) _ _ _ 4 [.int .i64 4] from rfl) (Reps.one (show Kd.M (Kd.int .i64) _ _ _ (-1) [.int .i64 (-1)] from rfl) (Reps.none _ _)))))))); intro v270 w7 ho8 hb hg_ hnew_; clear hg_ hnew_; (first | rw [← Ny269.out] at ho8 | (simp only [Int.reduceToNat] at ho8; rw [← Ny269.out] at ho8)); replace HO267 := Aside0.mk (Kd.R_below (R_a HO267.out) hb); have HO271 := Aside0.mk (Kd.R_lower ho8 (below_size (by repeat (first | (with_reducible first | exact HB.out | apply below_alloc | apply pw_below_drewN | apply below_drew1 | refine below_set ?_ (IsS99.ge HI264.out)) | exact HB.out)))); have n2_ := Aside0.mk (IsS99.below (IsS99.a) hb); replace HB := Aside0.mk (below_step (by repeat (first | (with_reducible first | exact HB.out | apply below_alloc | apply pw_below_drewN | apply below_drew1 | refine below_set ?_ (IsS99.ge HI264.out)) | exact HB.out)) hb); replace HI264 := n2_; clear n2_; clear hb ho8; obtain ⟨Ao9, co9, eo9⟩ := Kd.R_slice HO271.out; subst eo9) | ((with_reducible refine gate_callee (f := 47) rfl ?_); refine goesL_ (some 11) rfl rfl Try.func47 (by kernel_rfl) rfl #[.pointer (some ⟨g264, 0, none⟩), .slice Ao9 y269.length co9] rfl args_a ?_; (with_reducible refine (spec_l1Pick.calls g264 t262 t268 _ _ y269 t272 t273 w _ ?side1 ?side2 ?side3 ?side4 ?side5 A4.out).mono ?_); (case side1 => exact IsS99.a); (case side2 => repeat (first | (with_reducible first | exact HB.out | apply below_alloc | apply pw_below_drewN | apply below_drew1 | refine below_set ?_ (IsS99.ge HI264.out)) | exact HB.out)); (case side3 => repeat (first | exact (Kd.R_reads' HO271.out).2.2 | (with_reducible refine Kd.C_alloc ?_ _) | (with_reducible refine Kd.C_drewN ?_ _) | (with_reducible refine Kd.C_drew ?_))); (case side4 => exact (Kd.R_reads' HO271.out).2.1); (case side5 => exact far_slice (IsS99.own_ne HI264.out HO271.out (by decide))); rintro e w10 ⟨rfl, hi, hb, hk⟩; refine ⟨_, rfl, ?_⟩; replace HO267 := Aside0.mk (Kd.R_mono (Kd.R_keep (IsS99.apart (show IsS99 w _ g264 t262 t268 from IsS99.a) (R_a HO267.out) (by decide)) hk (fun _ h => h.2)) (fun _ h => h.1)); replace HO271 := Aside0.mk (Kd.R_mono (Kd.R_keep (IsS99.apart (show IsS99 w _ g264 t262 t268 from IsS99.a) (R_a HO271.out) (by decide)) hk (fun _ h => h.2)) (fun _ h => h.1)); replace HB := Aside0.mk (hb); replace HI264 := Aside0.mk (hi); (try clear hb); (try clear hb2); (try clear hk); (try clear hi)))
 go_ret2
 exact ⟨_, eq_a, R_a HO267.out, by repeat (first | (with_reducible first | exact HB.out | apply below_alloc | apply pw_below_drewN | apply below_drew1 | refine below_set ?_ (IsS99.ge HI264.out)) | exact HB.out)⟩

/-! ### spec_DrawSuspectBy: function 37 -/
def spec_DrawSuspectBy.f (k : Nat) (l0 : List Int) : Option ((List (S51)) × Int) := (spec_DrawFindClaim.f k l0).bind fun bt274 => (some (bt274.1, bt274.2))
theorem spec_DrawSuspectBy.mono : ∀ a0 k, LeO (spec_DrawSuspectBy.f k a0) (spec_DrawSuspectBy.f (k + 1) a0) := by
 intro a0 k
 unfold spec_DrawSuspectBy.f
 repeat' first
   | (with_reducible exact spec_DrawFindClaim.mono _ _)
   | (with_reducible exact LeO.refl _)
   | (with_reducible exact LeO.none _)
   | (with_reducible refine LeO.ite ?_ ?_)
   | (with_reducible refine LeO.bind ?_ (fun _ => ?_))
   | exact spec_DrawFindClaim.mono _ _
   | exact LeO.none _
   | refine LeO.ite ?_ ?_
   | refine LeO.bind ?_ (fun _ => ?_)
set_option maxHeartbeats 8000000 in
set_option maxRecDepth 100000 in
theorem spec_DrawSuspectBy.calls (k : Nat) (A0 : Option Addr) (c0 : Nat) (l0 : List Int) (r1 : List (S51)) (r2 : Int) (w : World) (hr0 : Kd.C (Kd.int .u8) w A0 l0.length l0) (hc0 : l0.length ≤ c0) (h : spec_DrawSuspectBy.f k l0 = some (r1, r2)) :
  Calls Try.prog 37 #[.slice A0 l0.length c0] w fun e w' => ∃ v0_ : Value, e = .returned (.tuple #[v0_, .int .i64 r2]) ∧ Kd.R k51 51 w' w.heap.size (fun _ => True) v0_ r1 ∧ Below w.heap.size w w' := by
 have HR0 := Aside0.mk hr0
 have HC0 := Aside0.mk hc0
 clear hr0 hc0
 have HB := Aside0.mk (Below.refl w.heap.size w)
 have H : ((spec_DrawFindClaim.f k l0).bind fun bt274 => (some (bt274.1, bt274.2))) = some (r1, r2) := h
 clear h
 replace H := Option.bind_eq_some_iff.mp H
 obtain ⟨⟨t274, t275⟩, A20, H⟩ := H
 replace H : (some (t274, t275)) = some (r1, r2) := H
 have A2 := Aside0.mk A20
 clear A20
 simp only [Option.some.injEq, Prod.mk.injEq] at H
 obtain ⟨rfl, rfl⟩ := H
 go_enter Try.func37, Try.ntmps37
 go_wp2_with (first | ((with_reducible refine gate_callee (f := 21) rfl ?_); refine goesL_ (some 5) rfl rfl Try.func21 (by kernel_rfl) rfl #[.slice A0 l0.length c0] rfl args_a ?_; (with_reducible refine (spec_DrawFindClaim.calls k _ _ l0 t274 t275 _ ?side1 ?side2 A2.out).mono ?_); (case side1 => repeat (first | exact HR0.out | (with_reducible refine Kd.C_alloc ?_ _) | (with_reducible refine Kd.C_drewN ?_ _) | (with_reducible refine Kd.C_drew ?_))); (case side2 => exact HC0.out); rintro e w3 ⟨v276, rfl, ho0, hb⟩; refine ⟨_, rfl, ?_⟩; have HO277 := Aside0.mk (Kd.R_lower ho0 (below_size below_a)); replace HB := Aside0.mk (below_step below_a hb); (try clear hb); (try clear hb2); (try clear hk); (try clear hi); (try clear ho0)))
 go_ret2
 exact ⟨_, eq_a, R_a HO277.out, below_a⟩

end Go.Proofs.Ytpinapnhohjipaa.MFnDecides
