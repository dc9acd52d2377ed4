-- Laid by a program of this session (the kit's print, turned where it falls short; the texts of functions that it does not take are proved by hand).
import Derived.Test.YtbnibakamdhpdaaMFnWindowsx0
import Derived.Test.YtbnibakamdhpdaaMFnWindowsx1
import Derived.Test.YtbnibakamdhpdaaMFnWindowsx2
import Derived.Test.YtbnibakamdhpdaaMFnWindowsx3
import Derived.Test.YtbnibakamdhpdaaMFnWindowsx5
namespace Go.Proofs.Ytbnibakamdhpdaa.MFnWindows
open Go.RowKit Go.Proofs.YtbnibakamdhpdaaW.PrintWords Go.Proofs.YtbnibakamdhpdaaW.PrintLast Go.Proofs.YtbnibakamdhpdaaW.PrintMore
attribute [local go_sem] max2_int min2_int max_two min_two max_three min_three max_four min_four   -- for this text's walks alone
set_option linter.unusedVariables false
set_option linter.unusedSimpArgs false

attribute [local go_sem] isSome_setCell run_field26_0 run_field30_0 run_field35_0 run_field35_1
/-! ### spec_DrawSameWindows: function 12 -/
def spec_DrawSameWindows.f (k : Nat) (l0 : List Int) : Option (Int × List Int × Int × List Int) := (spec_l1Source.f l0).bind fun bt279 => ((spec_l6Draw.f k bt279.1 bt279.2).bind fun bt282 => ((spec_l1Chance.f bt279.1 bt282.2.2 2).bind fun bt288 => (if bt288.1 = true then ((spec_l1Ints.f bt282.2.1).bind fun t290 => (some (bt282.1, bt282.2.1, bt282.1, t290))) else ((spec_l1Source.f l0).bind fun bt293 => ((spec_l6Bent.f k bt293.1 bt293.2).bind fun bt296 => (some (bt282.1, bt282.2.1, bt296.1, bt296.2.1)))))))
theorem spec_DrawSameWindows.mono : ∀ a0 k, LeO (spec_DrawSameWindows.f k a0) (spec_DrawSameWindows.f (k + 1) a0) := by
 intro a0 k
 unfold spec_DrawSameWindows.f
 repeat' first
   | (with_reducible exact spec_l6Bent.mono _ _ _)
   | (with_reducible exact spec_l6Draw.mono _ _ _)
   | (with_reducible exact LeO.refl _)
   | (with_reducible exact LeO.none _)
   | (with_reducible refine LeO.ite ?_ ?_)
   | (with_reducible refine LeO.bind ?_ (fun _ => ?_))
   | exact spec_l6Bent.mono _ _ _
   | exact spec_l6Draw.mono _ _ _
   | exact LeO.none _
   | refine LeO.ite ?_ ?_
   | refine LeO.bind ?_ (fun _ => ?_)
def spec_DrawSameWindows.T4 : Bool × List (List Nat × List Nat) := (true, [([], []), ([], []), ([1], [1]), ([], []), ([3], [3]), ([4], [4]), ([2, 5], [2, 5]), ([0, 5, 0], [0]), ([6, 7, 0, 1, 2, 3, 4, 5, 6, 7], [6])])
def spec_DrawSameWindows.B4 : List Nat := [0, 0, 2, 0, 8, 24, 62, 57, 255]
theorem spec_DrawSameWindows.tab4 : rtab .any (opsOf Try.f12 4) = spec_DrawSameWindows.T4 := by kernel_rfl
theorem spec_DrawSameWindows.bits4 : waitsOk spec_DrawSameWindows.T4.2 spec_DrawSameWindows.B4 = true := by kernel_rfl
set_option maxHeartbeats 8000000 in
set_option maxRecDepth 100000 in
theorem spec_DrawSameWindows.calls (k : Nat) (A0 : Option Addr) (c0 : Nat) (l0 : List Int) (r1 : Int) (r2 : List Int) (r3 : Int) (r4 : List Int) (w : World) (hr0 : Kd.C (Kd.int .u8) w A0 l0.length l0) (hc0 : l0.length ≤ c0) (h : spec_DrawSameWindows.f k l0 = some (r1, r2, r3, r4)) :
  Calls Try.prog 12 #[.slice A0 l0.length c0] w fun e w' => ∃ v1_ v3_ : Value, e = .returned (.tuple #[.agg #[.int .i64 r1, v1_], .agg #[.int .i64 r3, v3_]]) ∧ Kd.R (Kd.int .i64) 2 w' w.heap.size (fun k_ => some k_ ≠ (v3_ : Value).ownBlock) v1_ r2 ∧ Kd.R (Kd.int .i64) 2 w' w.heap.size (fun k_ => some k_ ≠ (v1_ : Value).ownBlock) v3_ r4 ∧ Below w.heap.size w w' := by
 have hu26 := Try.underlying26
 have HR0 := Aside0.mk hr0
 have HC0 := Aside0.mk hc0
 clear hr0 hc0
 have HB := Aside0.mk (Below.refl w.heap.size w)
 have H : ((spec_l1Source.f l0).bind fun bt279 => ((spec_l6Draw.f k bt279.1 bt279.2).bind fun bt282 => ((spec_l1Chance.f bt279.1 bt282.2.2 2).bind fun bt288 => (if bt288.1 = true then ((spec_l1Ints.f bt282.2.1).bind fun t290 => (some (bt282.1, bt282.2.1, bt282.1, t290))) else ((spec_l1Source.f l0).bind fun bt293 => ((spec_l6Bent.f k bt293.1 bt293.2).bind fun bt296 => (some (bt282.1, bt282.2.1, bt296.1, bt296.2.1)))))))) = some (r1, r2, r3, r4) := h
 clear h
 replace H := Option.bind_eq_some_iff.mp H
 obtain ⟨⟨t279, t280⟩, A20, H⟩ := H
 replace H : ((spec_l6Draw.f k t279 t280).bind fun bt282 => ((spec_l1Chance.f t279 bt282.2.2 2).bind fun bt288 => (if bt288.1 = true then ((spec_l1Ints.f bt282.2.1).bind fun t290 => (some (bt282.1, bt282.2.1, bt282.1, t290))) else ((spec_l1Source.f l0).bind fun bt293 => ((spec_l6Bent.f k bt293.1 bt293.2).bind fun bt296 => (some (bt282.1, bt282.2.1, bt296.1, bt296.2.1))))))) = some (r1, r2, r3, r4) := H
 have A2 := Aside0.mk A20
 clear A20
 replace H := Option.bind_eq_some_iff.mp H
 obtain ⟨⟨t282, t283, t286⟩, A30, H⟩ := H
 replace H : ((spec_l1Chance.f t279 t286 2).bind fun bt288 => (if bt288.1 = true then ((spec_l1Ints.f t283).bind fun t290 => (some (t282, t283, t282, t290))) else ((spec_l1Source.f l0).bind fun bt293 => ((spec_l6Bent.f k bt293.1 bt293.2).bind fun bt296 => (some (t282, t283, bt296.1, bt296.2.1)))))) = some (r1, r2, r3, r4) := H
 have A3 := Aside0.mk A30
 clear A30
 replace H := Option.bind_eq_some_iff.mp H
 obtain ⟨⟨t288, t289⟩, A40, H⟩ := H
 replace H : (if t288 = true then ((spec_l1Ints.f t283).bind fun t290 => (some (t282, t283, t282, t290))) else ((spec_l1Source.f l0).bind fun bt293 => ((spec_l6Bent.f k bt293.1 bt293.2).bind fun bt296 => (some (t282, t283, bt296.1, bt296.2.1))))) = some (r1, r2, r3, r4) := H
 have A4 := Aside0.mk A40
 clear A40
 by_cases c5 : t288 = true
 ·
  subst c5; have H1 : ((spec_l1Ints.f t283).bind fun t290 => (some (t282, t283, t282, t290))) = some (r1, r2, r3, r4) := by rw [if_pos rfl] at H; exact H
  clear H; have H := H1; clear H1; replace H := Option.bind_eq_some_iff.mp H; obtain ⟨t290, A60, H⟩ := H; replace H : (some (t282, t283, t282, t290)) = some (r1, r2, r3, r4) := H; have A6 := Aside0.mk A60; clear A60; simp only [Option.some.injEq, Prod.mk.injEq] at H; obtain ⟨rfl, rfl, rfl, rfl⟩ := H
  go_enter Try.func12, Try.ntmps12
  try go_wp2_with (first | ((with_reducible refine gate_dst (N := 2) rfl ?_); refine box_event ?hg (N := 2) ?hd (cs := #[.int .i64 0, .slice none 0 0]) (t := 26) ?hr ?_; (case hd => rfl); (case hg => rfl); (case hr => first | (go_simp; done) | (go_simp; rfl)); intro gb277 hg w7 hbox hb; have n0_ := Aside0.mk (below_step below_a hb); have BK277 := Aside0.mk (hbox); have GW277 := Aside0.mk (bsz_ (w := w) hg); have GE277 := Aside0.mk (bsz_ (w := w) hg); replace HB := n0_; clear n0_; clear hb hbox hg) | ((with_reducible refine gate_dst (N := 3) rfl ?_); refine box_event ?hg (N := 3) ?hd (cs := #[.int .i64 0, .slice none 0 0]) (t := 26) ?hr ?_; (case hd => rfl); (case hg => rfl); (case hr => first | (go_simp; done) | (go_simp; rfl)); intro gb278 hg w8 hbox hb; have n0_ := Aside0.mk (blk_below (g := gb277) blk_c hb); have n1_ := Aside0.mk (below_step below_a hb); have BK278 := Aside0.mk (hbox); have GW278 := Aside0.mk (bsz_ (w := w) hg); have GE278 := Aside0.mk (bsz_ (w := w) hg); have NB277_278 := Aside0.mk (bne_ (g := gb277) hg); have NB278_277 := Aside0.mk (bne_ (g := gb277) hg).symm; replace BK277 := n0_; replace HB := n1_; clear n0_ n1_; clear hb hbox hg) | ((with_reducible refine gate_callee (f := 36) rfl ?_); refine goesL_ (some 7) rfl rfl Try.func36 (by kernel_rfl) rfl #[.slice A0 l0.length c0] rfl args_a ?_; (with_reducible refine (spec_l1Source.calls _ _ l0 t279 t280 w _ ?side1 ?side2 ?side3 A2.out).mono ?_); (case side1 => exact below_a); (case side2 => exact HR0.out); (case side3 => exact HC0.out); rintro e w9 ⟨g281, rfl, hi, hb, hb2⟩; refine ⟨_, rfl, ?_⟩; have n0_ := Aside0.mk (blk_below (g := gb277) blk_c hb2); have n1_ := Aside0.mk (blk_below (g := gb278) blk_c hb2); replace HB := Aside0.mk (hb); have HI281 := Aside0.mk (hi); have NB281_277 := Aside0.mk (IsS70.ne_blk hi (blk_below (g := gb277) blk_c hb2) (by decide)); have NB277_281 := Aside0.mk (Ne.symm (IsS70.ne_blk hi (blk_below (g := gb277) blk_c hb2) (by decide))); have NB281_278 := Aside0.mk (IsS70.ne_blk hi (blk_below (g := gb278) blk_c hb2) (by decide)); have NB278_281 := Aside0.mk (Ne.symm (IsS70.ne_blk hi (blk_below (g := gb278) blk_c hb2) (by decide))); replace BK277 := n0_; replace BK278 := n1_; clear n0_ n1_; (try clear hb); (try clear hb2); (try clear hk); (try clear hi)) | ((with_reducible refine gate_callee (f := 47) rfl ?_); refine goesL_ (some 9) rfl rfl Try.func47 (by kernel_rfl) rfl #[.pointer (some ⟨g281, 0, none⟩)] rfl args_a ?_; (with_reducible refine (spec_l6Draw.calls k g281 t279 t280 t282 t283 t286 w _ ?side1 ?side2 A3.out).mono ?_); (case side1 => exact IsS70.a); (case side2 => repeat (first | (with_reducible first | exact HB.out | apply below_alloc | apply pw_below_drewN | apply below_drew1 | refine below_set ?_ (IsS70.ge HI281.out) | refine below_set ?_ GE277.out | refine below_set ?_ GE278.out) | exact HB.out)); rintro e w10 ⟨v284, rfl, ho0, hi, hb, hk⟩; refine ⟨_, rfl, ?_⟩; have n0_ := Aside0.mk (KeepBut.blk hk (g' := gb277) blk_c NB277_281.out (by simp)); replace BK278 := Aside0.mk (KeepBut.blk hk (g' := gb278) blk_c NB278_281.out (by simp)); have HO285 := Aside0.mk (Kd.R_lower ho0 (below_size (by repeat (first | (with_reducible first | exact HB.out | apply below_alloc | apply pw_below_drewN | apply below_drew1 | refine below_set ?_ (IsS70.ge HI281.out) | refine below_set ?_ GE277.out | refine below_set ?_ GE278.out) | exact HB.out)))); replace HB := Aside0.mk (hb); replace HI281 := Aside0.mk (hi); replace BK277 := n0_; clear n0_; (try clear hb); (try clear hb2); (try clear hk); (try clear hi); (try clear ho0)) | ((with_reducible refine gate_dst (N := 5) rfl ?_); refine box_event ?hg (N := 5) ?hd (cs := #[.int .i64 0, .slice none 0 0]) (t := 26) ?hr ?_; (case hd => rfl); (case hg => rfl); (case hr => first | (go_simp; done) | (go_simp; rfl)); intro gb287 hg w11 hbox hb; replace HO285 := Aside0.mk (Kd.R_below (R_a HO285.out) hb); have n1_ := Aside0.mk (blk_below (g := gb277) blk_c hb); have n2_ := Aside0.mk (blk_below (g := gb278) blk_c hb); have n3_ := Aside0.mk (IsS70.below (IsS70.a) hb); have n4_ := Aside0.mk (below_step (by repeat (first | (with_reducible first | exact HB.out | apply below_alloc | apply pw_below_drewN | apply below_drew1 | refine below_set ?_ (IsS70.ge HI281.out) | refine below_set ?_ GE277.out | refine below_set ?_ GE278.out) | exact HB.out)) hb); have BK287 := Aside0.mk (hbox); have GW287 := Aside0.mk ((by rw [hg]; exact (below_size (by repeat (first | (with_reducible first | exact HB.out | apply below_alloc | apply pw_below_drewN | apply below_drew1 | refine below_set ?_ (IsS70.ge HI281.out) | refine below_set ?_ GE277.out | refine below_set ?_ GE278.out) | exact HB.out))) : w.heap.size ≤ gb287)); have GE287 := Aside0.mk ((by rw [hg]; exact (below_size (by repeat (first | (with_reducible first | exact HB.out | apply below_alloc | apply pw_below_drewN | apply below_drew1 | refine below_set ?_ (IsS70.ge HI281.out) | refine below_set ?_ GE277.out | refine below_set ?_ GE278.out) | exact HB.out))) : w.heap.size ≤ gb287)); have NB277_287 := Aside0.mk (bne_ (g := gb277) hg); have NB287_277 := Aside0.mk (bne_ (g := gb277) hg).symm; have NB278_287 := Aside0.mk (bne_ (g := gb278) hg); have NB287_278 := Aside0.mk (bne_ (g := gb278) hg).symm; have NB281_287 := Aside0.mk ((by rw [hg]; exact Nat.ne_of_lt (IsS70.lt (show IsS70 w _ g281 t279 t286 from IsS70.a)) : g281 ≠ gb287)); have NB287_281 := Aside0.mk ((by rw [hg]; exact Nat.ne_of_gt (IsS70.lt (show IsS70 w _ g281 t279 t286 from IsS70.a)) : gb287 ≠ g281)); replace BK277 := n1_; replace BK278 := n2_; replace HI281 := n3_; replace HB := n4_; clear n1_ n2_ n3_ n4_; clear hb hbox hg; have hnb12 := NB287_277.out; have hnc12 := NB277_287.out; have hnb13 := NB287_278.out; have hnc13 := NB278_287.out; have hnb14 := NB287_281.out; have hnc14 := NB281_287.out; obtain ⟨hcz15_0, hcz15_1, hfz15_0, hfz15_1⟩ := bc2_ BK287.out; obtain ⟨Ao16, co16, eo16⟩ := Kd.R_slice HO285.out; subst eo16) | ((with_reducible refine gate_callee (f := 46) rfl ?_); refine goesL_ (some 11) rfl rfl Try.func46 (by kernel_rfl) rfl #[.pointer (some ⟨g281, 0, none⟩), .int .i64 2] rfl args_a ?_; (with_reducible refine (spec_l1Chance.calls g281 t279 t286 2 true t289 w _ ?side1 ?side2 A4.out).mono ?_); (case side1 => exact IsS70.a); (case side2 => repeat (first | (with_reducible first | exact HB.out | apply below_alloc | apply pw_below_drewN | apply below_drew1 | refine below_set ?_ (IsS70.ge HI281.out) | refine below_set ?_ GE277.out | refine below_set ?_ GE278.out | refine below_set ?_ GE287.out) | exact HB.out)); rintro e w17 ⟨rfl, hi, hb, hk⟩; refine ⟨_, rfl, ?_⟩; have n0_ := Aside0.mk (KeepBut.blk hk (g' := gb277) blk_c NB277_281.out (by simp)); have n1_ := Aside0.mk (KeepBut.blk hk (g' := gb278) blk_c NB278_281.out (by simp)); replace HO285 := Aside0.mk (Kd.R_mono (Kd.R_keep (IsS70.apart (show IsS70 w _ g281 t279 t286 from IsS70.a) (by (with_reducible repeat (first | apply Kd.R_alloc | apply Kd.R_drewN | apply Kd.R_drew)); exact (Kd.R_mono (Kd.R_far (p := ⟨gb287, 1, none⟩) (Kd.R_far (p := ⟨gb287, 0, none⟩) (Kd.R_types HO285.out BK287.out (by decide)) (fun _ hk => hk.2) (.int .i64 t282)) (fun _ hk => hk.2) (.slice Ao16 t283.length co16)) (fun _ h_ => h_.1))) (by decide)) hk (fun _ h => h.2)) (fun _ h => h.1)); replace BK287 := Aside0.mk (KeepBut.blk hk (g' := gb287) (o := .cells #[.int .i64 t282, .slice Ao16 t283.length co16] 26 (0, 0)) blk_a NB287_281.out (by simp)); replace HB := Aside0.mk (hb); replace HI281 := Aside0.mk (hi); replace BK277 := n0_; replace BK278 := n1_; clear n0_ n1_; (try clear hb); (try clear hb2); (try clear hk); (try clear hi)))
  replace HO285 := Aside0.mk (Kd.R_drew HO285.out); replace BK277 := Aside0.mk (blk_drew BK277.out); replace BK278 := Aside0.mk (blk_drew BK278.out); replace BK287 := Aside0.mk (blk_drew BK287.out); replace HI281 := Aside0.mk (IsS70.drew HI281.out); replace HB := Aside0.mk (below_drew1 HB.out); refine start_ (n := 9) (S := fun w' => w'.cell? ⟨gb287, 0, none⟩ = some (.int .i64 t282) ∧ w'.cell? ⟨gb287, 1, none⟩ = some (.slice Ao16 t283.length co16)) (ds := []) #[Z',Z',Z',Z',Z',Z',Z',Z',Z'] (by kernel_rfl) rfl rfl ⟨(blk_cell BK287.out 0).trans rfl, (blk_cell BK287.out 1).trans rfl⟩ (fun hHeld => ?_); refine with_tabW spec_DrawSameWindows.tab4 spec_DrawSameWindows.bits4 (fun HT_ HW_ => ?_); generalize w17.drew = w18 at HO285 BK277 BK278 BK287 HI281 HB hHeld ⊢; refine pure_ (i := 1) (N := some 13) (v := ?_) (a' := ?_) #[Z',Y',Z',Z',Z',Z',Z',Z',Z'] rfl rfl (any_of HT_.out (by kernel_rfl)) (fun _ _ _ h => h) (Or.inl ⟨by rfl, ?_⟩) ?_ ?_; rotate_left
  ·
   intro w'
   go_simp
   with_reducible rfl
  rotate_left
  ·
   simp only [Act.put, List.setIfInBounds_toArray, List.set_cons_zero, List.set_cons_succ, i64_w, i32_w]; rfl
  refine pure_ (i := 3) (N := some 15) (v := ?_) (a' := ?_) #[Z',Y',Z',Y',Z',Z',Z',Z',Z'] rfl rfl (any_of HT_.out (by kernel_rfl)) (fun _ _ _ h => h) (Or.inl ⟨by rfl, ?_⟩) ?_ ?_; rotate_left
  ·
   intro w'
   go_simp
   with_reducible rfl
  rotate_left
  ·
   simp only [Act.put, List.setIfInBounds_toArray, List.set_cons_zero, List.set_cons_succ, i64_w, i32_w]; rfl
  refine take_ (i := 0) (N := some 12) (v := ?_) (a' := ?_) #[Y',Y',Z',Y',Z',Z',Z',Z',Z'] rfl rfl (take_ofW HT_.out HW_.out (by kernel_rfl)) (fun _ _ _ h => h) (Or.inl ⟨by rfl, ?_⟩) hHeld ?_ ?_; rotate_left
  ·
   rintro w' ⟨s0, s1⟩
   go_simp
   with_reducible rfl
  rotate_left
  ·
   simp only [Act.put, List.setIfInBounds_toArray, List.set_cons_zero, List.set_cons_succ, i64_w, i32_w]; rfl
  refine take_ (i := 2) (N := some 14) (v := ?_) (a' := ?_) #[Y',Y',Y',Y',Z',Z',Z',Z',Z'] rfl rfl (take_ofW HT_.out HW_.out (by kernel_rfl)) (fun _ _ _ h => h) (Or.inl ⟨by rfl, ?_⟩) hHeld ?_ ?_; rotate_left
  ·
   rintro w' ⟨s0, s1⟩
   go_simp
   with_reducible rfl
  rotate_left
  ·
   simp only [Act.put, List.setIfInBounds_toArray, List.set_cons_zero, List.set_cons_succ, i64_w, i32_w]; rfl
  refine take_ (i := 4) (N := some 16) (v := ?_) (a' := ?_) #[Y',Y',Y',Y',Y',Z',Z',Z',Z'] rfl rfl (take_ofW HT_.out HW_.out (by kernel_rfl)) (fun _ _ _ h => h) (Or.inl ⟨by rfl, ?_⟩) hHeld ?_ ?_; rotate_left
  ·
   rintro w' ⟨s0, s1⟩
   go_simp
   with_reducible rfl
  rotate_left
  ·
   simp only [Act.put, List.setIfInBounds_toArray, List.set_cons_zero, List.set_cons_succ, i64_w, i32_w]; rfl
  refine one_ (i := 5) (N := some 17) #[Y',Y',Y',Y',Y',Y',Z',Z',Z'] rfl rfl (one_of HT_.out (by kernel_rfl)) (by decide) (fun K hK => ?_); refine goes_ Try.func48 (by kernel_rfl) rfl #[.slice Ao16 t283.length co16] (by rfl) rfl rfl args_a ?_
  with_reducible refine (spec_l1Ints.calls _ _ t283 t290 _ ?side1 ?side2 A6.out).mono ?_
  (case side1 => repeat (first | exact (Kd.R_reads' HO285.out).2.2 | (with_reducible refine Kd.C_alloc ?_ _) | (with_reducible refine Kd.C_drewN ?_ _) | (with_reducible refine Kd.C_drew ?_))); (case side2 => exact (Kd.R_reads' HO285.out).2.1); rintro e w19 ⟨v291, rfl, ho0, hb⟩; refine ⟨_, rfl, ?_⟩; have n0_ := Aside0.mk (Kd.R_elder' (R_a HO285.out) (Kd.R_base ho0) hb); have HO292 := Aside0.mk (Kd.R_lower (Kd.R_new' ho0 (Kd.R_lt (R_a HO285.out))) (below_size (by repeat (first | (with_reducible first | exact HB.out | apply below_alloc | apply pw_below_drewN | apply below_drew1 | refine below_set ?_ (IsS70.ge HI281.out) | refine below_set ?_ GE277.out | refine below_set ?_ GE278.out | refine below_set ?_ GE287.out) | exact HB.out)))); replace BK277 := Aside0.mk (blk_below (g := gb277) blk_c hb); replace BK278 := Aside0.mk (blk_below (g := gb278) blk_c hb); have n4_ := Aside0.mk (IsS70.below (IsS70.a) hb); replace BK287 := Aside0.mk (blk_below (g := gb287) blk_c hb); replace HB := Aside0.mk (below_step (by repeat (first | (with_reducible first | exact HB.out | apply below_alloc | apply pw_below_drewN | apply below_drew1 | refine below_set ?_ (IsS70.ge HI281.out) | refine below_set ?_ GE277.out | refine below_set ?_ GE278.out | refine below_set ?_ GE287.out) | exact HB.out)) hb); replace HO285 := n0_; replace HI281 := n4_; clear n0_ n4_; (try clear hb); (try clear hb2); (try clear hk); (try clear hi); (try clear ho0); obtain ⟨Ao20, co20, eo20⟩ := Kd.R_slice HO292.out; (first | subst eo20 | (injection eo20 with f1_ f2_ f3_; have f4_ := f1_.symm; have f5_ := f3_.symm; clear f1_ f2_ f3_; subst f4_; subst f5_)); refine hK.out _ _ ⟨(blk_cell BK287.out 0).trans rfl, (blk_cell BK287.out 1).trans rfl⟩ (fun hHeld => ?_); clear hK K; refine norm_ (a' := ?_) ?_ ?_; rotate_left
  ·
   show Act.put _ (some 17) _ = _; simp only [Act.put, List.setIfInBounds_toArray, List.set_cons_zero, List.set_cons_succ, i64_w, i32_w]; rfl
  refine pure_ (i := 6) (N := some 18) (v := ?_) (a' := ?_) #[Y',Y',Y',Y',Y',Y',Y',Z',Z'] rfl rfl (any_of HT_.out (by kernel_rfl)) (fun _ _ _ h => h) (Or.inl ⟨by rfl, ?_⟩) ?_ ?_; rotate_left
  ·
   intro w'
   go_simp
   with_reducible rfl
  rotate_left
  ·
   simp only [Act.put, List.setIfInBounds_toArray, List.set_cons_zero, List.set_cons_succ, i64_w, i32_w]; rfl
  refine one_ (i := 7) (N := none) #[Y',Y',Y',Y',Y',Y',Y',Y',Z'] rfl rfl (one_of HT_.out (by kernel_rfl)) (by decide) (fun K hK => ?_); have hs21 : w19.cell? ⟨gb277, 0, none⟩ = some (.int .i64 0) := (blk_cell BK277.out 0).trans rfl; have hfs21 := blk_frozen BK277.out 0; have hns21_1 := NB278_277.out; have hns21_2 := NB287_277.out; have hms21_1 := NB277_278.out; have hms21_2 := NB277_287.out; have hs22 : w19.cell? ⟨gb277, 1, none⟩ = some (.slice none 0 0) := (blk_cell BK277.out 1).trans rfl; have hfs22 := blk_frozen BK277.out 1; have hns22_1 := NB278_277.out; have hns22_2 := NB287_277.out; have hms22_1 := NB277_278.out; have hms22_2 := NB277_287.out; refine skip_ (w1 := ?_) (by rfl) rfl ?_ ?_; rotate_left
  ·
   go_simp
   rfl
  refine hK.out _ _ ⟨((cell_far (p := ⟨gb277, _, none⟩) NB287_277.out _).trans (((cell_far (p := ⟨gb277, _, none⟩) NB287_277.out _).trans (hHeld.1)))), ((cell_far (p := ⟨gb277, _, none⟩) NB287_277.out _).trans (((cell_far (p := ⟨gb277, _, none⟩) NB287_277.out _).trans (hHeld.2))))⟩ (fun hHeld => ?_); clear hK K; refine one_ (i := 8) (N := none) #[Y',Y',Y',Y',Y',Y',Y',Y',Y'] rfl rfl (one_of HT_.out (by kernel_rfl)) (by decide) (fun K hK => ?_); have hs23 : w19.cell? ⟨gb278, 0, none⟩ = some (.int .i64 0) := (blk_cell BK278.out 0).trans rfl; have hfs23 := blk_frozen BK278.out 0; have hns23_0 := NB277_278.out; have hns23_2 := NB287_278.out; have hms23_0 := NB278_277.out; have hms23_2 := NB278_287.out; have hs24 : w19.cell? ⟨gb278, 1, none⟩ = some (.slice none 0 0) := (blk_cell BK278.out 1).trans rfl; have hfs24 := blk_frozen BK278.out 1; have hns24_0 := NB277_278.out; have hns24_2 := NB287_278.out; have hms24_0 := NB278_277.out; have hms24_2 := NB278_287.out; refine skip_ (w1 := ?_) (by rfl) rfl ?_ ?_; rotate_left
  ·
   go_simp
   rfl
  refine hK.out _ _ ⟨((cell_far (p := ⟨gb278, _, none⟩) NB287_278.out _).trans (((cell_far (p := ⟨gb278, _, none⟩) NB287_278.out _).trans (hHeld.1)))), ((cell_far (p := ⟨gb278, _, none⟩) NB287_278.out _).trans (((cell_far (p := ⟨gb278, _, none⟩) NB287_278.out _).trans (hHeld.2))))⟩ (fun hHeld => ?_); clear hK K; refine done_ (done_of HT_.out (by kernel_rfl)) ?_
  try go_wp2
  refine bodyPost_ret (results_cc rfl _ _ gb277 gb278 26 26 #[.int .i64 t282, .slice Ao16 t283.length co16] #[.int .i64 t282, .slice Ao20 t290.length co20] (0, 0) (0, 0) _ _ rfl (by (with_reducible repeat (first | refine blk_drewN ?_ _ | refine blk_drew ?_ | refine blk_alloc ?_ _)); refine blk_far ?_ NB277_278.out _; (with_reducible repeat (first | refine blk_drewN ?_ _ | refine blk_drew ?_ | refine blk_alloc ?_ _)); refine blk_far ?_ NB277_278.out _; (with_reducible repeat (first | refine blk_drewN ?_ _ | refine blk_drew ?_ | refine blk_alloc ?_ _)); refine blk_put (cs := #[.int .i64 t282, .slice none 0 0]) ?_ 1 _ rfl; (with_reducible repeat (first | refine blk_drewN ?_ _ | refine blk_drew ?_ | refine blk_alloc ?_ _)); refine blk_put (cs := #[.int .i64 0, .slice none 0 0]) ?_ 0 _ rfl; (with_reducible repeat (first | refine blk_drewN ?_ _ | refine blk_drew ?_ | refine blk_alloc ?_ _)); exact BK277.out) Try.underlying26 rfl (by kernel_rfl) rfl (by (with_reducible repeat (first | refine blk_drewN ?_ _ | refine blk_drew ?_ | refine blk_alloc ?_ _)); refine blk_put (cs := #[.int .i64 t282, .slice none 0 0]) ?_ 1 _ rfl; (with_reducible repeat (first | refine blk_drewN ?_ _ | refine blk_drew ?_ | refine blk_alloc ?_ _)); refine blk_put (cs := #[.int .i64 0, .slice none 0 0]) ?_ 0 _ rfl; (with_reducible repeat (first | refine blk_drewN ?_ _ | refine blk_drew ?_ | refine blk_alloc ?_ _)); refine blk_far ?_ NB278_277.out _; (with_reducible repeat (first | refine blk_drewN ?_ _ | refine blk_drew ?_ | refine blk_alloc ?_ _)); refine blk_far ?_ NB278_277.out _; (with_reducible repeat (first | refine blk_drewN ?_ _ | refine blk_drew ?_ | refine blk_alloc ?_ _)); exact BK278.out) Try.underlying26 rfl (by kernel_rfl)) rfl ?_; exact ⟨_, _, eq_a, by (with_reducible repeat (first | apply Kd.R_alloc | apply Kd.R_drewN | apply Kd.R_drew)); exact Kd.R_mono (Kd.R_far (p := ⟨gb278, 1, none⟩) (Kd.R_far (p := ⟨gb278, 0, none⟩) (Kd.R_far (p := ⟨gb277, 1, none⟩) (Kd.R_far (p := ⟨gb277, 0, none⟩) (Kd.R_types (Kd.R_types HO285.out BK277.out (by decide)) BK278.out (by decide)) (fun _ hk => hk.1.2) (.int .i64 t282)) (fun _ hk => hk.1.2) (.slice Ao16 t283.length co16)) (fun _ hk => hk.2) (.int .i64 t282)) (fun _ hk => hk.2) (.slice Ao20 t290.length co20)) (fun _ hk => hk.1.1.2), by (with_reducible repeat (first | apply Kd.R_alloc | apply Kd.R_drewN | apply Kd.R_drew)); exact Kd.R_mono (Kd.R_far (p := ⟨gb278, 1, none⟩) (Kd.R_far (p := ⟨gb278, 0, none⟩) (Kd.R_far (p := ⟨gb277, 1, none⟩) (Kd.R_far (p := ⟨gb277, 0, none⟩) (Kd.R_types (Kd.R_types HO292.out BK277.out (by decide)) BK278.out (by decide)) (fun _ hk => hk.1.2) (.int .i64 t282)) (fun _ hk => hk.1.2) (.slice Ao16 t283.length co16)) (fun _ hk => hk.2) (.int .i64 t282)) (fun _ hk => hk.2) (.slice Ao20 t290.length co20)) (fun _ hk => hk.1.1.2), by repeat (first | (with_reducible first | exact HB.out | apply below_alloc | apply pw_below_drewN | apply below_drew1 | refine below_set ?_ (IsS70.ge HI281.out) | refine below_set ?_ GE277.out | refine below_set ?_ GE278.out | refine below_set ?_ GE287.out) | exact HB.out)⟩
 ·
  replace c5 := Bool.eq_false_iff.mpr c5; subst c5; have H1 : ((spec_l1Source.f l0).bind fun bt293 => ((spec_l6Bent.f k bt293.1 bt293.2).bind fun bt296 => (some (t282, t283, bt296.1, bt296.2.1)))) = some (r1, r2, r3, r4) := by rw [if_neg (show ¬ (false = true) by decide)] at H; exact H
  clear H; have H := H1; clear H1; replace H := Option.bind_eq_some_iff.mp H; obtain ⟨⟨t293, t294⟩, A250, H⟩ := H; replace H : ((spec_l6Bent.f k t293 t294).bind fun bt296 => (some (t282, t283, bt296.1, bt296.2.1))) = some (r1, r2, r3, r4) := H; have A25 := Aside0.mk A250; clear A250; replace H := Option.bind_eq_some_iff.mp H; obtain ⟨⟨t296, t297, t300⟩, A260, H⟩ := H; replace H : (some (t282, t283, t296, t297)) = some (r1, r2, r3, r4) := H; have A26 := Aside0.mk A260; clear A260; simp only [Option.some.injEq, Prod.mk.injEq] at H; obtain ⟨rfl, rfl, rfl, rfl⟩ := H
  go_enter Try.func12, Try.ntmps12
  try go_wp2_with (first | ((with_reducible refine gate_dst (N := 2) rfl ?_); refine box_event ?hg (N := 2) ?hd (cs := #[.int .i64 0, .slice none 0 0]) (t := 26) ?hr ?_; (case hd => rfl); (case hg => rfl); (case hr => first | (go_simp; done) | (go_simp; rfl)); intro gb277 hg w27 hbox hb; have n0_ := Aside0.mk (below_step below_a hb); have BK277 := Aside0.mk (hbox); have GW277 := Aside0.mk (bsz_ (w := w) hg); have GE277 := Aside0.mk (bsz_ (w := w) hg); replace HB := n0_; clear n0_; clear hb hbox hg) | ((with_reducible refine gate_dst (N := 3) rfl ?_); refine box_event ?hg (N := 3) ?hd (cs := #[.int .i64 0, .slice none 0 0]) (t := 26) ?hr ?_; (case hd => rfl); (case hg => rfl); (case hr => first | (go_simp; done) | (go_simp; rfl)); intro gb278 hg w28 hbox hb; have n0_ := Aside0.mk (blk_below (g := gb277) blk_c hb); have n1_ := Aside0.mk (below_step below_a hb); have BK278 := Aside0.mk (hbox); have GW278 := Aside0.mk (bsz_ (w := w) hg); have GE278 := Aside0.mk (bsz_ (w := w) hg); have NB277_278 := Aside0.mk (bne_ (g := gb277) hg); have NB278_277 := Aside0.mk (bne_ (g := gb277) hg).symm; replace BK277 := n0_; replace HB := n1_; clear n0_ n1_; clear hb hbox hg) | ((with_reducible refine gate_callee (f := 36) rfl ?_); refine goesL_ (some 7) rfl rfl Try.func36 (by kernel_rfl) rfl #[.slice A0 l0.length c0] rfl args_a ?_; (with_reducible refine (spec_l1Source.calls _ _ l0 t279 t280 w _ ?side1 ?side2 ?side3 A2.out).mono ?_); (case side1 => exact below_a); (case side2 => exact HR0.out); (case side3 => exact HC0.out); rintro e w29 ⟨g281, rfl, hi, hb, hb2⟩; refine ⟨_, rfl, ?_⟩; have n0_ := Aside0.mk (blk_below (g := gb277) blk_c hb2); have n1_ := Aside0.mk (blk_below (g := gb278) blk_c hb2); replace HB := Aside0.mk (hb); have HI281 := Aside0.mk (hi); have NB281_277 := Aside0.mk (IsS70.ne_blk hi (blk_below (g := gb277) blk_c hb2) (by decide)); have NB277_281 := Aside0.mk (Ne.symm (IsS70.ne_blk hi (blk_below (g := gb277) blk_c hb2) (by decide))); have NB281_278 := Aside0.mk (IsS70.ne_blk hi (blk_below (g := gb278) blk_c hb2) (by decide)); have NB278_281 := Aside0.mk (Ne.symm (IsS70.ne_blk hi (blk_below (g := gb278) blk_c hb2) (by decide))); replace BK277 := n0_; replace BK278 := n1_; clear n0_ n1_; (try clear hb); (try clear hb2); (try clear hk); (try clear hi)) | ((with_reducible refine gate_callee (f := 47) rfl ?_); refine goesL_ (some 9) rfl rfl Try.func47 (by kernel_rfl) rfl #[.pointer (some ⟨g281, 0, none⟩)] rfl args_a ?_; (with_reducible refine (spec_l6Draw.calls k g281 t279 t280 t282 t283 t286 w _ ?side1 ?side2 A3.out).mono ?_); (case side1 => exact IsS70.a); (case side2 => repeat (first | (with_reducible first | exact HB.out | apply below_alloc | apply pw_below_drewN | apply below_drew1 | refine below_set ?_ (IsS70.ge HI281.out) | refine below_set ?_ GE277.out | refine below_set ?_ GE278.out) | exact HB.out)); rintro e w30 ⟨v284, rfl, ho0, hi, hb, hk⟩; refine ⟨_, rfl, ?_⟩; have n0_ := Aside0.mk (KeepBut.blk hk (g' := gb277) blk_c NB277_281.out (by simp)); replace BK278 := Aside0.mk (KeepBut.blk hk (g' := gb278) blk_c NB278_281.out (by simp)); have HO285 := Aside0.mk (Kd.R_lower ho0 (below_size (by repeat (first | (with_reducible first | exact HB.out | apply below_alloc | apply pw_below_drewN | apply below_drew1 | refine below_set ?_ (IsS70.ge HI281.out) | refine below_set ?_ GE277.out | refine below_set ?_ GE278.out) | exact HB.out)))); replace HB := Aside0.mk (hb); replace HI281 := Aside0.mk (hi); replace BK277 := n0_; clear n0_; (try clear hb); (try clear hb2); (try clear hk); (try clear hi); (try clear ho0)) | ((with_reducible refine gate_dst (N := 5) rfl ?_); refine box_event ?hg (N := 5) ?hd (cs := #[.int .i64 0, .slice none 0 0]) (t := 26) ?hr ?_; (case hd => rfl); (case hg => rfl); (case hr => first | (go_simp; done) | (go_simp; rfl)); intro gb287 hg w31 hbox hb; replace HO285 := Aside0.mk (Kd.R_below (R_a HO285.out) hb); have n1_ := Aside0.mk (blk_below (g := gb277) blk_c hb); have n2_ := Aside0.mk (blk_below (g := gb278) blk_c hb); have n3_ := Aside0.mk (IsS70.below (IsS70.a) hb); have n4_ := Aside0.mk (below_step (by repeat (first | (with_reducible first | exact HB.out | apply below_alloc | apply pw_below_drewN | apply below_drew1 | refine below_set ?_ (IsS70.ge HI281.out) | refine below_set ?_ GE277.out | refine below_set ?_ GE278.out) | exact HB.out)) hb); have BK287 := Aside0.mk (hbox); have GW287 := Aside0.mk ((by rw [hg]; exact (below_size (by repeat (first | (with_reducible first | exact HB.out | apply below_alloc | apply pw_below_drewN | apply below_drew1 | refine below_set ?_ (IsS70.ge HI281.out) | refine below_set ?_ GE277.out | refine below_set ?_ GE278.out) | exact HB.out))) : w.heap.size ≤ gb287)); have GE287 := Aside0.mk ((by rw [hg]; exact (below_size (by repeat (first | (with_reducible first | exact HB.out | apply below_alloc | apply pw_below_drewN | apply below_drew1 | refine below_set ?_ (IsS70.ge HI281.out) | refine below_set ?_ GE277.out | refine below_set ?_ GE278.out) | exact HB.out))) : w.heap.size ≤ gb287)); have NB277_287 := Aside0.mk (bne_ (g := gb277) hg); have NB287_277 := Aside0.mk (bne_ (g := gb277) hg).symm; have NB278_287 := Aside0.mk (bne_ (g := gb278) hg); have NB287_278 := Aside0.mk (bne_ (g := gb278) hg).symm; have NB281_287 := Aside0.mk ((by rw [hg]; exact Nat.ne_of_lt (IsS70.lt (show IsS70 w _ g281 t279 t286 from IsS70.a)) : g281 ≠ gb287)); have NB287_281 := Aside0.mk ((by rw [hg]; exact Nat.ne_of_gt (IsS70.lt (show IsS70 w _ g281 t279 t286 from IsS70.a)) : gb287 ≠ g281)); replace BK277 := n1_; replace BK278 := n2_; replace HI281 := n3_; replace HB := n4_; clear n1_ n2_ n3_ n4_; clear hb hbox hg; have hnb32 := NB287_277.out; have hnc32 := NB277_287.out; have hnb33 := NB287_278.out; have hnc33 := NB278_287.out; have hnb34 := NB287_281.out; have hnc34 := NB281_287.out; obtain ⟨hcz35_0, hcz35_1, hfz35_0, hfz35_1⟩ := bc2_ BK287.out; obtain ⟨Ao36, co36, eo36⟩ := Kd.R_slice HO285.out; subst eo36) | ((with_reducible refine gate_callee (f := 46) rfl ?_); refine goesL_ (some 11) rfl rfl Try.func46 (by kernel_rfl) rfl #[.pointer (some ⟨g281, 0, none⟩), .int .i64 2] rfl args_a ?_; (with_reducible refine (spec_l1Chance.calls g281 t279 t286 2 false t289 w _ ?side1 ?side2 A4.out).mono ?_); (case side1 => exact IsS70.a); (case side2 => repeat (first | (with_reducible first | exact HB.out | apply below_alloc | apply pw_below_drewN | apply below_drew1 | refine below_set ?_ (IsS70.ge HI281.out) | refine below_set ?_ GE277.out | refine below_set ?_ GE278.out | refine below_set ?_ GE287.out) | exact HB.out)); rintro e w37 ⟨rfl, hi, hb, hk⟩; refine ⟨_, rfl, ?_⟩; have n0_ := Aside0.mk (KeepBut.blk hk (g' := gb277) blk_c NB277_281.out (by simp)); have n1_ := Aside0.mk (KeepBut.blk hk (g' := gb278) blk_c NB278_281.out (by simp)); replace HO285 := Aside0.mk (Kd.R_mono (Kd.R_keep (IsS70.apart (show IsS70 w _ g281 t279 t286 from IsS70.a) (by (with_reducible repeat (first | apply Kd.R_alloc | apply Kd.R_drewN | apply Kd.R_drew)); exact (Kd.R_mono (Kd.R_far (p := ⟨gb287, 1, none⟩) (Kd.R_far (p := ⟨gb287, 0, none⟩) (Kd.R_types HO285.out BK287.out (by decide)) (fun _ hk => hk.2) (.int .i64 t282)) (fun _ hk => hk.2) (.slice Ao36 t283.length co36)) (fun _ h_ => h_.1))) (by decide)) hk (fun _ h => h.2)) (fun _ h => h.1)); replace BK287 := Aside0.mk (KeepBut.blk hk (g' := gb287) (o := .cells #[.int .i64 t282, .slice Ao36 t283.length co36] 26 (0, 0)) blk_a NB287_281.out (by simp)); replace HB := Aside0.mk (hb); replace HI281 := Aside0.mk (hi); replace BK277 := n0_; replace BK278 := n1_; clear n0_ n1_; (try clear hb); (try clear hb2); (try clear hk); (try clear hi)))
  replace HO285 := Aside0.mk (Kd.R_drew HO285.out); replace BK277 := Aside0.mk (blk_drew BK277.out); replace BK278 := Aside0.mk (blk_drew BK278.out); replace BK287 := Aside0.mk (blk_drew BK287.out); replace HI281 := Aside0.mk (IsS70.drew HI281.out); replace HB := Aside0.mk (below_drew1 HB.out); refine start_ (n := 6) (S := fun w' => w'.cell? ⟨gb287, 0, none⟩ = some (.int .i64 t282) ∧ w'.cell? ⟨gb287, 1, none⟩ = some (.slice Ao36 t283.length co36)) (ds := []) #[Z',Z',Z',Z',Z',Z'] (by kernel_rfl) rfl rfl ⟨(blk_cell BK287.out 0).trans rfl, (blk_cell BK287.out 1).trans rfl⟩ (fun hHeld => ?_); generalize w37.drew = w38 at HO285 BK277 BK278 BK287 HI281 HB hHeld ⊢; refine pure_ (i := 1) (N := some 20) (v := ?_) (a' := ?_) #[Z',Y',Z',Z',Z',Z'] rfl rfl (by kernel_rfl) (fun _ _ _ h => h) (Or.inl ⟨by rfl, ?_⟩) ?_ ?_; rotate_left
  ·
   intro w'
   go_simp
   with_reducible rfl
  rotate_left
  ·
   simp only [Act.put, List.setIfInBounds_toArray, List.set_cons_zero, List.set_cons_succ, i64_w, i32_w]; rfl
  refine take_ (i := 0) (N := some 19) (v := ?_) (a' := ?_) #[Y',Y',Z',Z',Z',Z'] rfl rfl (by kernel_rfl) (fun _ _ _ h => h) (Or.inl ⟨by rfl, ?_⟩) hHeld ?_ ?_; rotate_left
  ·
   rintro w' ⟨s0, s1⟩
   go_simp
   with_reducible rfl
  rotate_left
  ·
   simp only [Act.put, List.setIfInBounds_toArray, List.set_cons_zero, List.set_cons_succ, i64_w, i32_w]; rfl
  refine one_ (i := 2) (N := some 21) #[Y',Y',Y',Z',Z',Z'] rfl rfl (by kernel_rfl) (by decide) (fun K hK => ?_); refine goes_ Try.func36 (by kernel_rfl) rfl #[.slice A0 l0.length c0] (by rfl) rfl rfl args_a ?_
  with_reducible refine (spec_l1Source.calls _ _ l0 t293 t294 w _ ?side1 ?side2 ?side3 A25.out).mono ?_
  (case side1 => repeat (first | (with_reducible first | exact HB.out | apply below_alloc | apply pw_below_drewN | apply below_drew1 | refine below_set ?_ (IsS70.ge HI281.out) | refine below_set ?_ GE277.out | refine below_set ?_ GE278.out | refine below_set ?_ GE287.out) | exact HB.out)); (case side2 => exact HR0.out); (case side3 => exact HC0.out); rintro e w39 ⟨g295, rfl, hi, hb, hb2⟩; refine ⟨_, rfl, ?_⟩; (try clear HI281); replace HO285 := Aside0.mk (Kd.R_below (R_a HO285.out) hb2); have n1_ := Aside0.mk (blk_below (g := gb277) blk_c hb2); have n2_ := Aside0.mk (blk_below (g := gb278) blk_c hb2); have n3_ := Aside0.mk (blk_below (g := gb287) blk_c hb2); replace HB := Aside0.mk (hb); have HI295 := Aside0.mk (hi); have NB295_277 := Aside0.mk (IsS70.ne_blk hi (blk_below (g := gb277) blk_c hb2) (by decide)); have NB277_295 := Aside0.mk (Ne.symm (IsS70.ne_blk hi (blk_below (g := gb277) blk_c hb2) (by decide))); have NB295_278 := Aside0.mk (IsS70.ne_blk hi (blk_below (g := gb278) blk_c hb2) (by decide)); have NB278_295 := Aside0.mk (Ne.symm (IsS70.ne_blk hi (blk_below (g := gb278) blk_c hb2) (by decide))); have NB295_287 := Aside0.mk (IsS70.ne_blk hi (blk_below (g := gb287) blk_c hb2) (by decide)); have NB287_295 := Aside0.mk (Ne.symm (IsS70.ne_blk hi (blk_below (g := gb287) blk_c hb2) (by decide))); replace BK277 := n1_; replace BK278 := n2_; replace BK287 := n3_; clear n1_ n2_ n3_; (try clear hb); (try clear hb2); (try clear hk); (try clear hi); refine hK.out _ _ ⟨(blk_cell BK287.out 0).trans rfl, (blk_cell BK287.out 1).trans rfl⟩ (fun hHeld => ?_); clear hK K; refine norm_ (a' := ?_) ?_ ?_; rotate_left
  ·
   show Act.put _ (some 21) _ = _; simp only [Act.put, List.setIfInBounds_toArray, List.set_cons_zero, List.set_cons_succ, i64_w, i32_w]; rfl
  refine one_ (i := 3) (N := some 22) #[Y',Y',Y',Y',Z',Z'] rfl rfl (by kernel_rfl) (by decide) (fun K hK => ?_); refine goes_ Try.func37 (by kernel_rfl) rfl #[.pointer (some ⟨g295, 0, none⟩)] (by rfl) rfl rfl args_a ?_
  with_reducible refine (spec_l6Bent.calls k g295 t293 t294 t296 t297 t300 w _ ?side1 ?side2 A26.out).mono ?_
  (case side1 => exact IsS70.a); (case side2 => repeat (first | (with_reducible first | exact HB.out | apply below_alloc | apply pw_below_drewN | apply below_drew1 | refine below_set ?_ (IsS70.ge HI295.out) | refine below_set ?_ GE277.out | refine below_set ?_ GE278.out | refine below_set ?_ GE287.out) | exact HB.out)); rintro e w40 ⟨v298, rfl, ho0, hi, hb, hk⟩; refine ⟨_, rfl, ?_⟩; have n0_ := Aside0.mk (KeepBut.blk hk (g' := gb277) blk_c NB277_295.out (by simp)); have n1_ := Aside0.mk (KeepBut.blk hk (g' := gb278) blk_c NB278_295.out (by simp)); have n2_ := Aside0.mk (Kd.R_mono (Kd.R_told (Kd.R_oldK (IsS70.apart (show IsS70 w _ g295 t293 t294 from IsS70.a) (R_a HO285.out) (by decide)) hk) (Kd.R_base ho0)) (fun _ h_ => h_.1)); replace BK287 := Aside0.mk (KeepBut.blk hk (g' := gb287) blk_c NB287_295.out (by simp)); have HO299 := Aside0.mk (Kd.R_lower (Kd.R_new' ho0 (Kd.R_lt (R_a HO285.out))) (below_size (by repeat (first | (with_reducible first | exact HB.out | apply below_alloc | apply pw_below_drewN | apply below_drew1 | refine below_set ?_ (IsS70.ge HI295.out) | refine below_set ?_ GE277.out | refine below_set ?_ GE278.out | refine below_set ?_ GE287.out) | exact HB.out)))); replace HB := Aside0.mk (hb); replace HI295 := Aside0.mk (hi); replace BK277 := n0_; replace BK278 := n1_; replace HO285 := n2_; clear n0_ n1_ n2_; (try clear hb); (try clear hb2); (try clear hk); (try clear hi); (try clear ho0); obtain ⟨Ao44, co44, eo44⟩ := Kd.R_slice HO299.out; (first | subst eo44 | (injection eo44 with f1_ f2_ f3_; have f4_ := f1_.symm; have f5_ := f3_.symm; clear f1_ f2_ f3_; subst f4_; subst f5_)); refine hK.out _ _ ⟨(blk_cell BK287.out 0).trans rfl, (blk_cell BK287.out 1).trans rfl⟩ (fun hHeld => ?_); clear hK K; refine norm_ (a' := ?_) ?_ ?_; rotate_left
  ·
   show Act.put _ (some 22) _ = _; simp only [Act.put, List.setIfInBounds_toArray, List.set_cons_zero, List.set_cons_succ, i64_w, i32_w]; rfl
  refine one_ (i := 4) (N := none) #[Y',Y',Y',Y',Y',Z'] rfl rfl (by kernel_rfl) (by decide) (fun K hK => ?_); have hs41 : w40.cell? ⟨gb277, 0, none⟩ = some (.int .i64 0) := (blk_cell BK277.out 0).trans rfl; have hfs41 := blk_frozen BK277.out 0; have hns41_1 := NB278_277.out; have hns41_2 := NB287_277.out; have hms41_1 := NB277_278.out; have hms41_2 := NB277_287.out; have hs42 : w40.cell? ⟨gb277, 1, none⟩ = some (.slice none 0 0) := (blk_cell BK277.out 1).trans rfl; have hfs42 := blk_frozen BK277.out 1; have hns42_1 := NB278_277.out; have hns42_2 := NB287_277.out; have hms42_1 := NB277_278.out; have hms42_2 := NB277_287.out; refine skip_ (w1 := ?_) (by rfl) rfl ?_ ?_; rotate_left
  ·
   go_simp
   rfl
  refine hK.out _ _ ⟨((cell_far (p := ⟨gb277, _, none⟩) NB287_277.out _).trans (((cell_far (p := ⟨gb277, _, none⟩) NB287_277.out _).trans (hHeld.1)))), ((cell_far (p := ⟨gb277, _, none⟩) NB287_277.out _).trans (((cell_far (p := ⟨gb277, _, none⟩) NB287_277.out _).trans (hHeld.2))))⟩ (fun hHeld => ?_); clear hK K; refine one_ (i := 5) (N := none) #[Y',Y',Y',Y',Y',Y'] rfl rfl (by kernel_rfl) (by decide) (fun K hK => ?_); have hs43 : w40.cell? ⟨gb278, 0, none⟩ = some (.int .i64 0) := (blk_cell BK278.out 0).trans rfl; have hfs43 := blk_frozen BK278.out 0; have hns43_0 := NB277_278.out; have hns43_2 := NB287_278.out; have hms43_0 := NB278_277.out; have hms43_2 := NB278_287.out; have hs45 : w40.cell? ⟨gb278, 1, none⟩ = some (.slice none 0 0) := (blk_cell BK278.out 1).trans rfl; have hfs45 := blk_frozen BK278.out 1; have hns45_0 := NB277_278.out; have hns45_2 := NB287_278.out; have hms45_0 := NB278_277.out; have hms45_2 := NB278_287.out; refine skip_ (w1 := ?_) (by rfl) rfl ?_ ?_; rotate_left
  ·
   go_simp
   rfl
  refine hK.out _ _ ⟨((cell_far (p := ⟨gb278, _, none⟩) NB287_278.out _).trans (((cell_far (p := ⟨gb278, _, none⟩) NB287_278.out _).trans (hHeld.1)))), ((cell_far (p := ⟨gb278, _, none⟩) NB287_278.out _).trans (((cell_far (p := ⟨gb278, _, none⟩) NB287_278.out _).trans (hHeld.2))))⟩ (fun hHeld => ?_); clear hK K; refine done_ (by kernel_rfl) ?_
  try go_wp2
  refine bodyPost_ret (results_cc rfl _ _ gb277 gb278 26 26 #[.int .i64 t282, .slice Ao36 t283.length co36] #[.int .i64 t296, .slice Ao44 t297.length co44] (0, 0) (0, 0) _ _ rfl (by (with_reducible repeat (first | refine blk_drewN ?_ _ | refine blk_drew ?_ | refine blk_alloc ?_ _)); refine blk_far ?_ NB277_278.out _; (with_reducible repeat (first | refine blk_drewN ?_ _ | refine blk_drew ?_ | refine blk_alloc ?_ _)); refine blk_far ?_ NB277_278.out _; (with_reducible repeat (first | refine blk_drewN ?_ _ | refine blk_drew ?_ | refine blk_alloc ?_ _)); refine blk_put (cs := #[.int .i64 t282, .slice none 0 0]) ?_ 1 _ rfl; (with_reducible repeat (first | refine blk_drewN ?_ _ | refine blk_drew ?_ | refine blk_alloc ?_ _)); refine blk_put (cs := #[.int .i64 0, .slice none 0 0]) ?_ 0 _ rfl; (with_reducible repeat (first | refine blk_drewN ?_ _ | refine blk_drew ?_ | refine blk_alloc ?_ _)); exact BK277.out) Try.underlying26 rfl (by kernel_rfl) rfl (by (with_reducible repeat (first | refine blk_drewN ?_ _ | refine blk_drew ?_ | refine blk_alloc ?_ _)); refine blk_put (cs := #[.int .i64 t296, .slice none 0 0]) ?_ 1 _ rfl; (with_reducible repeat (first | refine blk_drewN ?_ _ | refine blk_drew ?_ | refine blk_alloc ?_ _)); refine blk_put (cs := #[.int .i64 0, .slice none 0 0]) ?_ 0 _ rfl; (with_reducible repeat (first | refine blk_drewN ?_ _ | refine blk_drew ?_ | refine blk_alloc ?_ _)); refine blk_far ?_ NB278_277.out _; (with_reducible repeat (first | refine blk_drewN ?_ _ | refine blk_drew ?_ | refine blk_alloc ?_ _)); refine blk_far ?_ NB278_277.out _; (with_reducible repeat (first | refine blk_drewN ?_ _ | refine blk_drew ?_ | refine blk_alloc ?_ _)); exact BK278.out) Try.underlying26 rfl (by kernel_rfl)) rfl ?_; exact ⟨_, _, eq_a, by (with_reducible repeat (first | apply Kd.R_alloc | apply Kd.R_drewN | apply Kd.R_drew)); exact Kd.R_mono (Kd.R_far (p := ⟨gb278, 1, none⟩) (Kd.R_far (p := ⟨gb278, 0, none⟩) (Kd.R_far (p := ⟨gb277, 1, none⟩) (Kd.R_far (p := ⟨gb277, 0, none⟩) (Kd.R_types (Kd.R_types HO285.out BK277.out (by decide)) BK278.out (by decide)) (fun _ hk => hk.1.2) (.int .i64 t282)) (fun _ hk => hk.1.2) (.slice Ao36 t283.length co36)) (fun _ hk => hk.2) (.int .i64 t296)) (fun _ hk => hk.2) (.slice Ao44 t297.length co44)) (fun _ hk => hk.1.1.2), by (with_reducible repeat (first | apply Kd.R_alloc | apply Kd.R_drewN | apply Kd.R_drew)); exact Kd.R_mono (Kd.R_far (p := ⟨gb278, 1, none⟩) (Kd.R_far (p := ⟨gb278, 0, none⟩) (Kd.R_far (p := ⟨gb277, 1, none⟩) (Kd.R_far (p := ⟨gb277, 0, none⟩) (Kd.R_types (Kd.R_types HO299.out BK277.out (by decide)) BK278.out (by decide)) (fun _ hk => hk.1.2) (.int .i64 t282)) (fun _ hk => hk.1.2) (.slice Ao36 t283.length co36)) (fun _ hk => hk.2) (.int .i64 t296)) (fun _ hk => hk.2) (.slice Ao44 t297.length co44)) (fun _ hk => hk.1.1.2), by repeat (first | (with_reducible first | exact HB.out | apply below_alloc | apply pw_below_drewN | apply below_drew1 | refine below_set ?_ (IsS70.ge HI295.out) | refine below_set ?_ GE277.out | refine below_set ?_ GE278.out | refine below_set ?_ GE287.out) | exact HB.out)⟩

/-! ### spec_WindowFault: function 17 -/
mutual
def spec_WindowFault.l0 : Nat → Int → Int → List Int → Option (Int)
 | 0, _, _, _ => none
 | k + 1, x3, x302000, x302001 => if x3 < (x302001.length : Int) then (if 0 ≤ x3 then ((spec_l1In.f (rd x302001 x3) 0 x302000).bind fun t304 => (if t304 = true then (if (rd x302001 x3) ≤ (wrap64 (x302000 - 16)) then (some 3) else (spec_WindowFault.l0 k (wrap64 (x3 + 1)) x302000 x302001)) else (some 3))) else (none)) else (spec_WindowFault.l1 k 1 x302000 x302001)
def spec_WindowFault.l1 : Nat → Int → Int → List Int → Option (Int)
 | 0, _, _, _ => none
 | k + 1, x4, x302000, x302001 => if x4 < (x302001.length : Int) then (if 0 ≤ x4 then (if 0 ≤ (wrap64 (x4 - 1)) then (if (wrap64 (x4 - 1)) < (x302001.length : Int) then (if (rd x302001 x4) ≤ (rd x302001 (wrap64 (x4 - 1))) then (some 1) else (spec_WindowFault.l1 k (wrap64 (x4 + 1)) x302000 x302001)) else (none)) else (none)) else (none)) else (if x302000 ≥ 0 then (if (x302001.length : Int) = 0 then (some 8) else (if 0 ≤ (wrap64 ((x302001.length : Int) - 1)) then (if (wrap64 ((x302001.length : Int) - 1)) < (x302001.length : Int) then (if (rd x302001 (wrap64 ((x302001.length : Int) - 1))) = x302000 then (some 0) else (some 8)) else (none)) else (none))) else (some 0))
end
def spec_WindowFault.f (k : Nat) (a0_0 : Int) (l0_1 : List Int) : Option (Int) := (spec_l1In.f a0_0 (-1) 1000000000).bind fun t302 => (if t302 = true then (spec_WindowFault.l0 k 0 a0_0 l0_1) else (some 3))
theorem spec_WindowFault.mono_l : ∀ k, (∀ y0 y1 y2, LeO (spec_WindowFault.l0 k y0 y1 y2) (spec_WindowFault.l0 (k + 1) y0 y1 y2)) ∧ (∀ y0 y1 y2, LeO (spec_WindowFault.l1 k y0 y1 y2) (spec_WindowFault.l1 (k + 1) y0 y1 y2))
 | 0 => ⟨fun _ _ _ r h => by simp [spec_WindowFault.l0] at h, fun _ _ _ r h => by simp [spec_WindowFault.l1] at h⟩
 | k + 1 => by
  obtain ⟨ih0, ih1⟩ := spec_WindowFault.mono_l k; refine ⟨?_, ?_⟩
  ·
   intro y0 y1 y2
   unfold spec_WindowFault.l0
   repeat' first
   | (with_reducible exact ih0 _ _ _)
   | (with_reducible exact ih1 _ _ _)
   | (with_reducible exact LeO.refl _)
   | (with_reducible exact LeO.none _)
   | (with_reducible refine LeO.ite ?_ ?_)
   | (with_reducible refine LeO.bind ?_ (fun _ => ?_))
   | exact ih0 _ _ _
   | exact ih1 _ _ _
   | exact LeO.none _
   | refine LeO.ite ?_ ?_
   | refine LeO.bind ?_ (fun _ => ?_)
  ·
   intro y0 y1 y2
   unfold spec_WindowFault.l1
   repeat' first
   | (with_reducible exact ih0 _ _ _)
   | (with_reducible exact ih1 _ _ _)
   | (with_reducible exact LeO.refl _)
   | (with_reducible exact LeO.none _)
   | (with_reducible refine LeO.ite ?_ ?_)
   | (with_reducible refine LeO.bind ?_ (fun _ => ?_))
   | exact ih0 _ _ _
   | exact ih1 _ _ _
   | exact LeO.none _
   | refine LeO.ite ?_ ?_
   | refine LeO.bind ?_ (fun _ => ?_)
theorem spec_WindowFault.mono : ∀ a0 a1 k, LeO (spec_WindowFault.f k a0 a1) (spec_WindowFault.f (k + 1) a0 a1) := by
 intro a0 a1 k
 obtain ⟨ih0, ih1⟩ := spec_WindowFault.mono_l k
 unfold spec_WindowFault.f
 repeat' first
   | (with_reducible exact ih0 _ _ _)
   | (with_reducible exact ih1 _ _ _)
   | (with_reducible exact LeO.refl _)
   | (with_reducible exact LeO.none _)
   | (with_reducible refine LeO.ite ?_ ?_)
   | (with_reducible refine LeO.bind ?_ (fun _ => ?_))
   | exact ih0 _ _ _
   | exact ih1 _ _ _
   | exact LeO.none _
   | refine LeO.ite ?_ ?_
   | refine LeO.bind ?_ (fun _ => ?_)
set_option maxHeartbeats 8000000 in
set_option maxRecDepth 100000 in
theorem spec_WindowFault.calls (k : Nat) (a0_0 : Int) (A0_1 : Option Addr) (c0_1 : Nat) (l0_1 : List Int) (r : Int) (w : World) (hr0_1 : Kd.C (Kd.int .i64) w A0_1 l0_1.length l0_1) (hc0_1 : l0_1.length ≤ c0_1) (h : spec_WindowFault.f k a0_0 l0_1 = some r) :
  Calls Try.prog 17 #[.agg #[.int .i64 a0_0, .slice A0_1 l0_1.length c0_1]] w fun e w' => e = .returned (.int .i64 r) ∧ Below w.heap.size w w' := by
 have hu26 := Try.underlying26
 have HR0_1 := Aside0.mk hr0_1
 have HC0_1 := Aside0.mk hc0_1
 clear hr0_1 hc0_1
 have HB := Aside0.mk (Below.refl w.heap.size w)
 have H : ((spec_l1In.f a0_0 (-1) 1000000000).bind fun t302 => (if t302 = true then (spec_WindowFault.l0 k 0 a0_0 l0_1) else (some 3))) = some r := h
 clear h
 replace H := Option.bind_eq_some_iff.mp H
 obtain ⟨t302, A20, H⟩ := H
 replace H : (if t302 = true then (spec_WindowFault.l0 k 0 a0_0 l0_1) else (some 3)) = some r := H
 have A2 := Aside0.mk A20
 clear A20
 by_cases c3 : t302 = true
 ·
  subst c3; have H1 : (spec_WindowFault.l0 k 0 a0_0 l0_1) = some r := by rw [if_pos rfl] at H; exact H
  clear H; have H := H1; clear H1; have H' := Aside0.mk H; clear H
  go_enter Try.func17, Try.ntmps17
  go_wp2_with (first | ((with_reducible refine gate_dst (N := 1) rfl ?_); (try (refine gate_guard (by rfl) ?_; dsimp only)); refine box_event ?hg (N := 1) ?hd (cs := #[.int .i64 a0_0, .slice A0_1 l0_1.length c0_1]) (t := 26) ?hr ?_; (case hd => rfl); (case hg => rfl); (case hr => first | (go_simp; done) | (go_simp; rfl)); intro gb301 hg w4 hbox hb; have n0_ := Aside0.mk (below_step below_a hb); have BK301 := Aside0.mk (hbox); have GW301 := Aside0.mk (bsz_ (w := w) hg); have GE301 := Aside0.mk (bsz_ (w := w) hg); replace HB := n0_; clear n0_; clear hb hbox hg; obtain ⟨hcz5_0, hcz5_1, hfz5_0, hfz5_1⟩ := bc2_ BK301.out) | (go_at_call 50; (with_reducible refine (spec_l1In.calls a0_0 (-1) 1000000000 true _ A2.out).mono ?_); rintro e w' ⟨rfl, ⟨nd, rfl⟩⟩; (try first | exact ⟨rfl, _, World.drewN_drewN _ _ _⟩ | exact ⟨rfl, _, Eq.trans (World.drewN_drewN _ _ _) (congrArg (World.drewN _) (Nat.add_assoc _ _ _))⟩)))
  repeat (go_quiet (first | ((with_reducible refine gate_dst (N := 1) rfl ?_); (try (refine gate_guard (by rfl) ?_; dsimp only)); refine box_event ?hg (N := 1) ?hd (cs := #[.int .i64 a0_0, .slice A0_1 l0_1.length c0_1]) (t := 26) ?hr ?_; (case hd => rfl); (case hg => rfl); (case hr => first | (go_simp; done) | (go_simp; rfl)); intro gb301 hg w4 hbox hb; have n0_ := Aside0.mk (below_step below_a hb); have BK301 := Aside0.mk (hbox); have GW301 := Aside0.mk (bsz_ (w := w) hg); have GE301 := Aside0.mk (bsz_ (w := w) hg); replace HB := n0_; clear n0_; clear hb hbox hg; obtain ⟨hcz5_0, hcz5_1, hfz5_0, hfz5_1⟩ := bc2_ BK301.out) | (go_at_call 50; (with_reducible refine (spec_l1In.calls a0_0 (-1) 1000000000 true _ A2.out).mono ?_); rintro e w' ⟨rfl, ⟨nd, rfl⟩⟩; (try first | exact ⟨rfl, _, World.drewN_drewN _ _ _⟩ | exact ⟨rfl, _, Eq.trans (World.drewN_drewN _ _ _) (congrArg (World.drewN _) (Nat.add_assoc _ _ _))⟩))); try go_wp2_with (first | ((with_reducible refine gate_dst (N := 1) rfl ?_); (try (refine gate_guard (by rfl) ?_; dsimp only)); refine box_event ?hg (N := 1) ?hd (cs := #[.int .i64 a0_0, .slice A0_1 l0_1.length c0_1]) (t := 26) ?hr ?_; (case hd => rfl); (case hg => rfl); (case hr => first | (go_simp; done) | (go_simp; rfl)); intro gb301 hg w4 hbox hb; have n0_ := Aside0.mk (below_step below_a hb); have BK301 := Aside0.mk (hbox); have GW301 := Aside0.mk (bsz_ (w := w) hg); have GE301 := Aside0.mk (bsz_ (w := w) hg); replace HB := n0_; clear n0_; clear hb hbox hg; obtain ⟨hcz5_0, hcz5_1, hfz5_0, hfz5_1⟩ := bc2_ BK301.out) | (go_at_call 50; (with_reducible refine (spec_l1In.calls a0_0 (-1) 1000000000 true _ A2.out).mono ?_); rintro e w' ⟨rfl, ⟨nd, rfl⟩⟩; (try first | exact ⟨rfl, _, World.drewN_drewN _ _ _⟩ | exact ⟨rfl, _, Eq.trans (World.drewN_drewN _ _ _) (congrArg (World.drewN _) (Nat.add_assoc _ _ _))⟩))))
  go_loopg [3] k (fun kq v3 w' => ∃ (x3_1 : Int), v3 = .int .i64 x3_1 ∧ Aside0 (spec_WindowFault.l0 kq x3_1 a0_0 l0_1 = some r) ∧ Aside0 (kq ≤ k) ∧ Aside0 (w'.heap[gb301]? = some (.cells #[.int .i64 a0_0, (.slice A0_1 l0_1.length c0_1)] 26 (0, 0))) ∧ Aside0 (Below w.heap.size w w'))
  case atStart => exact ⟨(0), eq_b, H', ⟨Nat.le_refl _⟩, ⟨blk_a⟩, ⟨below_a⟩⟩
  case round =>
   clear H'
   try clear c1
   try clear p2
   try clear c3
   try clear hcz5_0 hcz5_1
   try clear hfz5_0 hfz5_1
   obtain ⟨x3_1, rfl, HA, HK1, BK301, HB⟩ := hrel
   cases gk with
   | zero => exact absurd HA.out (by simp [spec_WindowFault.l0])
   | succ k1 =>
    have H := HA.out; clear HA; simp only [spec_WindowFault.l0] at H
    by_cases c6 : x3_1 < (l0_1.length : Int)
    ·
     rw [if_pos c6] at H; have c6b0 : decide (x3_1 < (l0_1.length : Int)) = true := decide_eq_true c6; clear c6
     by_cases c7 : 0 ≤ x3_1
     ·
      rw [if_pos c7] at H; have c7b0 : decide (0 ≤ x3_1) = true := decide_eq_true c7; clear c7; replace H := Option.bind_eq_some_iff.mp H; obtain ⟨t304, A80, H⟩ := H; replace H : (if t304 = true then (if (rd l0_1 x3_1) ≤ (wrap64 (a0_0 - 16)) then (some 3) else (spec_WindowFault.l0 k1 (wrap64 (x3_1 + 1)) a0_0 l0_1)) else (some 3)) = some r := H; have A8 := Aside0.mk A80; clear A80
      by_cases c9 : t304 = true
      ·
       subst c9; have H1 : (if (rd l0_1 x3_1) ≤ (wrap64 (a0_0 - 16)) then (some 3) else (spec_WindowFault.l0 k1 (wrap64 (x3_1 + 1)) a0_0 l0_1)) = some r := by rw [if_pos rfl] at H; exact H
       clear H; have H := H1; clear H1
       by_cases c10 : (rd l0_1 x3_1) ≤ (wrap64 (a0_0 - 16))
       ·
        rw [if_pos c10] at H; have c10b0 : decide ((rd l0_1 x3_1) ≤ (wrap64 (a0_0 - 16))) = true := decide_eq_true c10; (try (have c10b1 : decide ((rd l0_1 x3_1) ≤ (IntKind.i64.wrap (a0_0 - 16))) = true := by simp only [i64_w]; exact decide_eq_true c10)); clear c10; obtain rfl := Option.some.inj H; obtain ⟨hcz11_0, hcz11_1, hfz11_0, hfz11_1⟩ := bc2_ BK301.out; have p303 : 0 ≤ (x3_1 : Int) := of_decide_eq_true (by first | (with_reducible assumption) | assumption); have q303 : x3_1 < (l0_1.length : Int) := of_decide_eq_true (by first | (with_reducible assumption) | assumption); obtain ⟨ad303, e303, hx303_0⟩ := Kd.at_int HR0_1.out x3_1 p303 q303
        cases e303
        replace hx303_0 := (HB.out.cell (World.block_lt_of_cell? w _ hx303_0)).trans hx303_0; replace p303 := eq_true p303; replace q303 := eq_true q303
        go_wp2_with (first | (go_at_call 50; (with_reducible refine (spec_l1In.calls (rd l0_1 x3_1) 0 a0_0 true _ A8.out).mono ?_); rintro e w' ⟨rfl, ⟨nd, rfl⟩⟩; (try first | exact ⟨rfl, _, World.drewN_drewN _ _ _⟩ | exact ⟨rfl, _, Eq.trans (World.drewN_drewN _ _ _) (congrArg (World.drewN _) (Nat.add_assoc _ _ _))⟩); have p305 : 0 ≤ (x3_1 : Int) := of_decide_eq_true (by first | (with_reducible assumption) | assumption); have q305 : x3_1 < (l0_1.length : Int) := of_decide_eq_true (by first | (with_reducible assumption) | assumption); obtain ⟨ad305, e305, hx305_0⟩ := Kd.at_int HR0_1.out x3_1 p305 q305; obtain rfl : ad303 = ad305 := (by injection e305); replace hx305_0 := (HB.out.cell (World.block_lt_of_cell? w _ hx305_0)).trans hx305_0; replace p305 := eq_true p305; replace q305 := eq_true q305))
        repeat (go_quiet (first | (go_at_call 50; (with_reducible refine (spec_l1In.calls (rd l0_1 x3_1) 0 a0_0 true _ A8.out).mono ?_); rintro e w' ⟨rfl, ⟨nd, rfl⟩⟩; (try first | exact ⟨rfl, _, World.drewN_drewN _ _ _⟩ | exact ⟨rfl, _, Eq.trans (World.drewN_drewN _ _ _) (congrArg (World.drewN _) (Nat.add_assoc _ _ _))⟩); have p305 : 0 ≤ (x3_1 : Int) := of_decide_eq_true (by first | (with_reducible assumption) | assumption); have q305 : x3_1 < (l0_1.length : Int) := of_decide_eq_true (by first | (with_reducible assumption) | assumption); obtain ⟨ad305, e305, hx305_0⟩ := Kd.at_int HR0_1.out x3_1 p305 q305; obtain rfl : ad303 = ad305 := (by injection e305); replace hx305_0 := (HB.out.cell (World.block_lt_of_cell? w _ hx305_0)).trans hx305_0; replace p305 := eq_true p305; replace q305 := eq_true q305)); try go_wp2_with (first | (go_at_call 50; (with_reducible refine (spec_l1In.calls (rd l0_1 x3_1) 0 a0_0 true _ A8.out).mono ?_); rintro e w' ⟨rfl, ⟨nd, rfl⟩⟩; (try first | exact ⟨rfl, _, World.drewN_drewN _ _ _⟩ | exact ⟨rfl, _, Eq.trans (World.drewN_drewN _ _ _) (congrArg (World.drewN _) (Nat.add_assoc _ _ _))⟩); have p305 : 0 ≤ (x3_1 : Int) := of_decide_eq_true (by first | (with_reducible assumption) | assumption); have q305 : x3_1 < (l0_1.length : Int) := of_decide_eq_true (by first | (with_reducible assumption) | assumption); obtain ⟨ad305, e305, hx305_0⟩ := Kd.at_int HR0_1.out x3_1 p305 q305; obtain rfl : ad303 = ad305 := (by injection e305); replace hx305_0 := (HB.out.cell (World.block_lt_of_cell? w _ hx305_0)).trans hx305_0; replace p305 := eq_true p305; replace q305 := eq_true q305)))
        go_ret
        exact ⟨eq_a, below_a⟩
       ·
        rw [if_neg c10] at H; have c10b0 : decide ((rd l0_1 x3_1) ≤ (wrap64 (a0_0 - 16))) = false := decide_eq_false c10; (try (have c10b1 : decide ((rd l0_1 x3_1) ≤ (IntKind.i64.wrap (a0_0 - 16))) = false := by simp only [i64_w]; exact decide_eq_false c10)); clear c10; have H' := Aside0.mk H; clear H; obtain ⟨hcz12_0, hcz12_1, hfz12_0, hfz12_1⟩ := bc2_ BK301.out; have p303 : 0 ≤ (x3_1 : Int) := of_decide_eq_true (by first | (with_reducible assumption) | assumption); have q303 : x3_1 < (l0_1.length : Int) := of_decide_eq_true (by first | (with_reducible assumption) | assumption); obtain ⟨ad303, e303, hx303_0⟩ := Kd.at_int HR0_1.out x3_1 p303 q303
        cases e303
        replace hx303_0 := (HB.out.cell (World.block_lt_of_cell? w _ hx303_0)).trans hx303_0; replace p303 := eq_true p303; replace q303 := eq_true q303
        go_wp2_with (first | (go_at_call 50; (with_reducible refine (spec_l1In.calls (rd l0_1 x3_1) 0 a0_0 true _ A8.out).mono ?_); rintro e w' ⟨rfl, ⟨nd, rfl⟩⟩; (try first | exact ⟨rfl, _, World.drewN_drewN _ _ _⟩ | exact ⟨rfl, _, Eq.trans (World.drewN_drewN _ _ _) (congrArg (World.drewN _) (Nat.add_assoc _ _ _))⟩); have p305 : 0 ≤ (x3_1 : Int) := of_decide_eq_true (by first | (with_reducible assumption) | assumption); have q305 : x3_1 < (l0_1.length : Int) := of_decide_eq_true (by first | (with_reducible assumption) | assumption); obtain ⟨ad305, e305, hx305_0⟩ := Kd.at_int HR0_1.out x3_1 p305 q305; obtain rfl : ad303 = ad305 := (by injection e305); replace hx305_0 := (HB.out.cell (World.block_lt_of_cell? w _ hx305_0)).trans hx305_0; replace p305 := eq_true p305; replace q305 := eq_true q305))
        repeat (go_quiet (first | (go_at_call 50; (with_reducible refine (spec_l1In.calls (rd l0_1 x3_1) 0 a0_0 true _ A8.out).mono ?_); rintro e w' ⟨rfl, ⟨nd, rfl⟩⟩; (try first | exact ⟨rfl, _, World.drewN_drewN _ _ _⟩ | exact ⟨rfl, _, Eq.trans (World.drewN_drewN _ _ _) (congrArg (World.drewN _) (Nat.add_assoc _ _ _))⟩); have p305 : 0 ≤ (x3_1 : Int) := of_decide_eq_true (by first | (with_reducible assumption) | assumption); have q305 : x3_1 < (l0_1.length : Int) := of_decide_eq_true (by first | (with_reducible assumption) | assumption); obtain ⟨ad305, e305, hx305_0⟩ := Kd.at_int HR0_1.out x3_1 p305 q305; obtain rfl : ad303 = ad305 := (by injection e305); replace hx305_0 := (HB.out.cell (World.block_lt_of_cell? w _ hx305_0)).trans hx305_0; replace p305 := eq_true p305; replace q305 := eq_true q305)); try go_wp2_with (first | (go_at_call 50; (with_reducible refine (spec_l1In.calls (rd l0_1 x3_1) 0 a0_0 true _ A8.out).mono ?_); rintro e w' ⟨rfl, ⟨nd, rfl⟩⟩; (try first | exact ⟨rfl, _, World.drewN_drewN _ _ _⟩ | exact ⟨rfl, _, Eq.trans (World.drewN_drewN _ _ _) (congrArg (World.drewN _) (Nat.add_assoc _ _ _))⟩); have p305 : 0 ≤ (x3_1 : Int) := of_decide_eq_true (by first | (with_reducible assumption) | assumption); have q305 : x3_1 < (l0_1.length : Int) := of_decide_eq_true (by first | (with_reducible assumption) | assumption); obtain ⟨ad305, e305, hx305_0⟩ := Kd.at_int HR0_1.out x3_1 p305 q305; obtain rfl : ad303 = ad305 := (by injection e305); replace hx305_0 := (HB.out.cell (World.block_lt_of_cell? w _ hx305_0)).trans hx305_0; replace p305 := eq_true p305; replace q305 := eq_true q305)))
        go_roundg k1
        case measure => have := HK1.out; omega
        case rel => exact ⟨(wrap64 (x3_1 + 1)), eq_b, H', ⟨by have := HK1.out; omega⟩, ⟨blk_a⟩, ⟨below_a⟩⟩
      ·
       replace c9 := Bool.eq_false_iff.mpr c9; subst c9; have H1 : (some 3) = some r := by rw [if_neg (show ¬ (false = true) by decide)] at H; exact H
       clear H; have H := H1; clear H1; obtain rfl := Option.some.inj H; obtain ⟨hcz13_0, hcz13_1, hfz13_0, hfz13_1⟩ := bc2_ BK301.out; have p303 : 0 ≤ (x3_1 : Int) := of_decide_eq_true (by first | (with_reducible assumption) | assumption); have q303 : x3_1 < (l0_1.length : Int) := of_decide_eq_true (by first | (with_reducible assumption) | assumption); obtain ⟨ad303, e303, hx303_0⟩ := Kd.at_int HR0_1.out x3_1 p303 q303
       cases e303
       replace hx303_0 := (HB.out.cell (World.block_lt_of_cell? w _ hx303_0)).trans hx303_0; replace p303 := eq_true p303; replace q303 := eq_true q303
       go_wp2_with (first | (go_at_call 50; (with_reducible refine (spec_l1In.calls (rd l0_1 x3_1) 0 a0_0 false _ A8.out).mono ?_); rintro e w' ⟨rfl, ⟨nd, rfl⟩⟩; (try first | exact ⟨rfl, _, World.drewN_drewN _ _ _⟩ | exact ⟨rfl, _, Eq.trans (World.drewN_drewN _ _ _) (congrArg (World.drewN _) (Nat.add_assoc _ _ _))⟩)))
       repeat (go_quiet (first | (go_at_call 50; (with_reducible refine (spec_l1In.calls (rd l0_1 x3_1) 0 a0_0 false _ A8.out).mono ?_); rintro e w' ⟨rfl, ⟨nd, rfl⟩⟩; (try first | exact ⟨rfl, _, World.drewN_drewN _ _ _⟩ | exact ⟨rfl, _, Eq.trans (World.drewN_drewN _ _ _) (congrArg (World.drewN _) (Nat.add_assoc _ _ _))⟩))); try go_wp2_with (first | (go_at_call 50; (with_reducible refine (spec_l1In.calls (rd l0_1 x3_1) 0 a0_0 false _ A8.out).mono ?_); rintro e w' ⟨rfl, ⟨nd, rfl⟩⟩; (try first | exact ⟨rfl, _, World.drewN_drewN _ _ _⟩ | exact ⟨rfl, _, Eq.trans (World.drewN_drewN _ _ _) (congrArg (World.drewN _) (Nat.add_assoc _ _ _))⟩))))
       go_ret
       exact ⟨eq_a, below_a⟩
     ·
      rw [if_neg c7] at H; exact absurd H (by simp)
    ·
     rw [if_neg c6] at H; have c6b0 : decide (x3_1 < (l0_1.length : Int)) = false := decide_eq_false c6; clear c6; have H' := Aside0.mk H; clear H; obtain ⟨hcz14_0, hcz14_1, hfz14_0, hfz14_1⟩ := bc2_ BK301.out
     go_wp2
     repeat (go_quiet (fail); try go_wp2)
     go_loopg [4] k1 (fun kq v4 w' => ∃ (x4_2 : Int), v4 = .int .i64 x4_2 ∧ Aside0 (spec_WindowFault.l1 kq x4_2 a0_0 l0_1 = some r) ∧ Aside0 (kq ≤ k1) ∧ Aside0 (w'.heap[gb301]? = some (.cells #[.int .i64 a0_0, (.slice A0_1 l0_1.length c0_1)] 26 (0, 0))) ∧ Aside0 (Below w.heap.size w w'))
     case atStart => exact ⟨(1), eq_b, H', ⟨Nat.le_refl _⟩, ⟨blk_a⟩, ⟨below_a⟩⟩
     case round =>
      clear H'
      try clear c1
      try clear p2 p2
      try clear c3
      try clear p3
      try clear q3
      try clear hx3
      try clear c6 c6b0
      try clear p6
      try clear c7 c7b0
      try clear c9
      try clear c10 c10b0 c10b1
      try clear hcz11_0 hcz11_1
      try clear hcz12_0 hcz12_1
      try clear hcz13_0 hcz13_1
      try clear hcz14_0 hcz14_1
      try clear hcz5_0 hcz5_1
      try clear hfz11_0 hfz11_1
      try clear hfz12_0 hfz12_1
      try clear hfz13_0 hfz13_1
      try clear hfz14_0 hfz14_1
      try clear hfz5_0 hfz5_1
      try clear hx303_0
      try clear hx305_0
      try clear p303
      try clear p305
      try clear q303
      try clear q305
      obtain ⟨x4_2, rfl, HA, HK2, BK301, HB⟩ := hrel
      cases gk with
      | zero => exact absurd HA.out (by simp [spec_WindowFault.l1])
      | succ k2 =>
       have H := HA.out; clear HA; simp only [spec_WindowFault.l1] at H
       by_cases c15 : x4_2 < (l0_1.length : Int)
       ·
        rw [if_pos c15] at H; have c15b0 : decide (x4_2 < (l0_1.length : Int)) = true := decide_eq_true c15; clear c15
        by_cases c16 : 0 ≤ x4_2
        ·
         rw [if_pos c16] at H; have c16b0 : decide (0 ≤ x4_2) = true := decide_eq_true c16; clear c16; obtain ⟨ji17, hji17⟩ : ∃ j_ : Int, (wrap64 (x4_2 - 1)) = j_ := ⟨_, rfl⟩; replace H : (if 0 ≤ (ji17) then (if (ji17) < (l0_1.length : Int) then (if (rd l0_1 x4_2) ≤ (rd l0_1 (ji17)) then (some 1) else (spec_WindowFault.l1 k2 (wrap64 (x4_2 + 1)) a0_0 l0_1)) else (none)) else (none)) = some r := by first | (rw [hji17] at H; exact H) | (simp only [hji17] at H ⊢; exact H)
         have hji17w : (IntKind.i64.wrap (x4_2 - 1)) = ji17 := (i64_w _).trans hji17
         by_cases c18 : 0 ≤ (ji17)
         ·
          rw [if_pos c18] at H; have c18b0 : decide (0 ≤ (ji17)) = true := decide_eq_true c18; clear c18
          by_cases c19 : (ji17) < (l0_1.length : Int)
          ·
           rw [if_pos c19] at H; have c19b0 : decide ((ji17) < (l0_1.length : Int)) = true := decide_eq_true c19; clear c19
           by_cases c20 : (rd l0_1 x4_2) ≤ (rd l0_1 (ji17))
           ·
            rw [if_pos c20] at H; have c20b0 : decide ((rd l0_1 x4_2) ≤ (rd l0_1 (ji17))) = true := decide_eq_true c20; clear c20; obtain rfl := Option.some.inj H; obtain ⟨hcz21_0, hcz21_1, hfz21_0, hfz21_1⟩ := bc2_ BK301.out; have p306 : 0 ≤ (x4_2 : Int) := of_decide_eq_true (by first | (with_reducible assumption) | assumption); have q306 : x4_2 < (l0_1.length : Int) := of_decide_eq_true (by first | (with_reducible assumption) | assumption); obtain ⟨ad306, e306, hx306_0⟩ := Kd.at_int HR0_1.out x4_2 p306 q306
            cases e306
            replace hx306_0 := (HB.out.cell (World.block_lt_of_cell? w _ hx306_0)).trans hx306_0; replace p306 := eq_true p306; replace q306 := eq_true q306; have p307 : 0 ≤ ((ji17) : Int) := of_decide_eq_true (by first | (with_reducible assumption) | assumption); have q307 : (ji17) < (l0_1.length : Int) := of_decide_eq_true (by first | (with_reducible assumption) | assumption); obtain ⟨ad307, e307, hx307_0⟩ := Kd.at_int HR0_1.out (ji17) p307 q307; obtain rfl : ad306 = ad307 := (by injection e307); replace hx307_0 := (HB.out.cell (World.block_lt_of_cell? w _ hx307_0)).trans hx307_0; replace p307 := eq_true p307; replace q307 := eq_true q307
            go_wp2
            repeat (go_quiet (fail); try go_wp2)
            go_ret
            exact ⟨by first | rfl | (simp [errW_none, errW_some] <;> rfl) | (simp only [← hji17]; first | rfl | (simp [errW_none, errW_some] <;> rfl)) | (simp [*, errW_none, errW_some] <;> rfl), below_a⟩
           ·
            rw [if_neg c20] at H; have c20b0 : decide ((rd l0_1 x4_2) ≤ (rd l0_1 (ji17))) = false := decide_eq_false c20; clear c20; have H' := Aside0.mk H; clear H; obtain ⟨hcz22_0, hcz22_1, hfz22_0, hfz22_1⟩ := bc2_ BK301.out; have p306 : 0 ≤ (x4_2 : Int) := of_decide_eq_true (by first | (with_reducible assumption) | assumption); have q306 : x4_2 < (l0_1.length : Int) := of_decide_eq_true (by first | (with_reducible assumption) | assumption); obtain ⟨ad306, e306, hx306_0⟩ := Kd.at_int HR0_1.out x4_2 p306 q306
            cases e306
            replace hx306_0 := (HB.out.cell (World.block_lt_of_cell? w _ hx306_0)).trans hx306_0; replace p306 := eq_true p306; replace q306 := eq_true q306; have p307 : 0 ≤ ((ji17) : Int) := of_decide_eq_true (by first | (with_reducible assumption) | assumption); have q307 : (ji17) < (l0_1.length : Int) := of_decide_eq_true (by first | (with_reducible assumption) | assumption); obtain ⟨ad307, e307, hx307_0⟩ := Kd.at_int HR0_1.out (ji17) p307 q307; obtain rfl : ad306 = ad307 := (by injection e307); replace hx307_0 := (HB.out.cell (World.block_lt_of_cell? w _ hx307_0)).trans hx307_0; replace p307 := eq_true p307; replace q307 := eq_true q307
            go_wp2
            repeat (go_quiet (fail); try go_wp2)
            go_roundg k2
            case measure => have := HK1.out; have := HK2.out; omega
            case rel => exact ⟨(wrap64 (x4_2 + 1)), eq_b, H', ⟨by have := HK1.out; have := HK2.out; omega⟩, ⟨blk_a⟩, ⟨below_a⟩⟩
          ·
           rw [if_neg c19] at H; exact absurd H (by simp)
         ·
          rw [if_neg c18] at H; exact absurd H (by simp)
        ·
         rw [if_neg c16] at H; exact absurd H (by simp)
       ·
        rw [if_neg c15] at H; have c15b0 : decide (x4_2 < (l0_1.length : Int)) = false := decide_eq_false c15; clear c15
        by_cases c23 : a0_0 ≥ 0
        ·
         rw [if_pos c23] at H; have c23b0 : decide (0 ≤ a0_0) = true := decide_eq_true c23; clear c23
         by_cases c24 : (l0_1.length : Int) = 0
         ·
          rw [if_pos c24] at H; have c24b0 : ((l0_1.length : Int) == 0) = true := beq_iff_eq.mpr c24; have c24b1 : ((l0_1.length : Int) != 0) = false := bne_eq_false_iff_eq.mpr c24; clear c24; obtain rfl := Option.some.inj H; obtain ⟨hcz25_0, hcz25_1, hfz25_0, hfz25_1⟩ := bc2_ BK301.out
          go_wp2
          repeat (go_quiet (fail); try go_wp2)
          go_ret
          exact ⟨eq_a, below_a⟩
         ·
          rw [if_neg c24] at H; have c24b0 : ((l0_1.length : Int) == 0) = false := beq_eq_false_iff_ne.mpr c24; have c24b1 : ((l0_1.length : Int) != 0) = true := bne_iff_ne.mpr c24; have c24b2 : ¬ (l0_1 = []) := fun h_ => c24 (by rw [h_]; rfl); obtain ⟨ji26, hji26⟩ : ∃ j_ : Int, (wrap64 ((l0_1.length : Int) - 1)) = j_ := ⟨_, rfl⟩; replace H : (if 0 ≤ (ji26) then (if (ji26) < (l0_1.length : Int) then (if (rd l0_1 (ji26)) = a0_0 then (some 0) else (some 8)) else (none)) else (none)) = some r := by first | (rw [hji26] at H; exact H) | (simp only [hji26] at H ⊢; exact H)
          have hji26w : (IntKind.i64.wrap ((l0_1.length : Int) - 1)) = ji26 := (i64_w _).trans hji26
          by_cases c27 : 0 ≤ (ji26)
          ·
           rw [if_pos c27] at H; have c27b0 : decide (0 ≤ (ji26)) = true := decide_eq_true c27; clear c27
           by_cases c28 : (ji26) < (l0_1.length : Int)
           ·
            rw [if_pos c28] at H; have c28b0 : decide ((ji26) < (l0_1.length : Int)) = true := decide_eq_true c28; clear c28
            by_cases c29 : (rd l0_1 (ji26)) = a0_0
            ·
             rw [if_pos c29] at H; have c29b0 : ((rd l0_1 (ji26)) == a0_0) = true := beq_iff_eq.mpr c29; have c29b1 : ((rd l0_1 (ji26)) != a0_0) = false := bne_eq_false_iff_eq.mpr c29; clear c29; obtain rfl := Option.some.inj H; obtain ⟨hcz30_0, hcz30_1, hfz30_0, hfz30_1⟩ := bc2_ BK301.out; have p308 : 0 ≤ ((ji26) : Int) := of_decide_eq_true (by first | (with_reducible assumption) | assumption); have q308 : (ji26) < (l0_1.length : Int) := of_decide_eq_true (by first | (with_reducible assumption) | assumption); obtain ⟨ad308, e308, hx308_0⟩ := Kd.at_int HR0_1.out (ji26) p308 q308
             cases e308
             replace hx308_0 := (HB.out.cell (World.block_lt_of_cell? w _ hx308_0)).trans hx308_0; replace p308 := eq_true p308; replace q308 := eq_true q308
             go_wp2
             repeat (go_quiet (fail); try go_wp2)
             go_ret
             exact ⟨by first | rfl | (simp [errW_none, errW_some] <;> rfl) | (simp only [← hji26]; first | rfl | (simp [errW_none, errW_some] <;> rfl)) | (simp [*, errW_none, errW_some] <;> rfl), below_a⟩
            ·
             rw [if_neg c29] at H; have c29b0 : ((rd l0_1 (ji26)) == a0_0) = false := beq_eq_false_iff_ne.mpr c29; have c29b1 : ((rd l0_1 (ji26)) != a0_0) = true := bne_iff_ne.mpr c29; obtain rfl := Option.some.inj H; obtain ⟨hcz31_0, hcz31_1, hfz31_0, hfz31_1⟩ := bc2_ BK301.out; have p308 : 0 ≤ ((ji26) : Int) := of_decide_eq_true (by first | (with_reducible assumption) | assumption); have q308 : (ji26) < (l0_1.length : Int) := of_decide_eq_true (by first | (with_reducible assumption) | assumption); obtain ⟨ad308, e308, hx308_0⟩ := Kd.at_int HR0_1.out (ji26) p308 q308
             cases e308
             replace hx308_0 := (HB.out.cell (World.block_lt_of_cell? w _ hx308_0)).trans hx308_0; replace p308 := eq_true p308; replace q308 := eq_true q308
             go_wp2
             repeat (go_quiet (fail); try go_wp2)
             go_ret
             exact ⟨by first | rfl | (simp [errW_none, errW_some] <;> rfl) | (simp only [← hji26]; first | rfl | (simp [errW_none, errW_some] <;> rfl)) | (simp [*, errW_none, errW_some] <;> rfl), below_a⟩
           ·
            rw [if_neg c28] at H; exact absurd H (by simp)
          ·
           rw [if_neg c27] at H; exact absurd H (by simp)
        ·
         rw [if_neg c23] at H; have c23b0 : decide (0 ≤ a0_0) = false := decide_eq_false c23; clear c23; obtain rfl := Option.some.inj H; obtain ⟨hcz32_0, hcz32_1, hfz32_0, hfz32_1⟩ := bc2_ BK301.out
         go_wp2
         repeat (go_quiet (fail); try go_wp2)
         go_ret
         exact ⟨eq_a, below_a⟩
 ·
  replace c3 := Bool.eq_false_iff.mpr c3; subst c3; have H1 : (some 3) = some r := by rw [if_neg (show ¬ (false = true) by decide)] at H; exact H
  clear H; have H := H1; clear H1; obtain rfl := Option.some.inj H
  go_enter Try.func17, Try.ntmps17
  go_wp2_with (first | ((with_reducible refine gate_dst (N := 1) rfl ?_); (try (refine gate_guard (by rfl) ?_; dsimp only)); refine box_event ?hg (N := 1) ?hd (cs := #[.int .i64 a0_0, .slice A0_1 l0_1.length c0_1]) (t := 26) ?hr ?_; (case hd => rfl); (case hg => rfl); (case hr => first | (go_simp; done) | (go_simp; rfl)); intro gb301 hg w33 hbox hb; have n0_ := Aside0.mk (below_step below_a hb); have BK301 := Aside0.mk (hbox); have GW301 := Aside0.mk (bsz_ (w := w) hg); have GE301 := Aside0.mk (bsz_ (w := w) hg); replace HB := n0_; clear n0_; clear hb hbox hg; obtain ⟨hcz34_0, hcz34_1, hfz34_0, hfz34_1⟩ := bc2_ BK301.out) | (go_at_call 50; (with_reducible refine (spec_l1In.calls a0_0 (-1) 1000000000 false _ A2.out).mono ?_); rintro e w' ⟨rfl, ⟨nd, rfl⟩⟩; (try first | exact ⟨rfl, _, World.drewN_drewN _ _ _⟩ | exact ⟨rfl, _, Eq.trans (World.drewN_drewN _ _ _) (congrArg (World.drewN _) (Nat.add_assoc _ _ _))⟩)))
  repeat (go_quiet (first | ((with_reducible refine gate_dst (N := 1) rfl ?_); (try (refine gate_guard (by rfl) ?_; dsimp only)); refine box_event ?hg (N := 1) ?hd (cs := #[.int .i64 a0_0, .slice A0_1 l0_1.length c0_1]) (t := 26) ?hr ?_; (case hd => rfl); (case hg => rfl); (case hr => first | (go_simp; done) | (go_simp; rfl)); intro gb301 hg w33 hbox hb; have n0_ := Aside0.mk (below_step below_a hb); have BK301 := Aside0.mk (hbox); have GW301 := Aside0.mk (bsz_ (w := w) hg); have GE301 := Aside0.mk (bsz_ (w := w) hg); replace HB := n0_; clear n0_; clear hb hbox hg; obtain ⟨hcz34_0, hcz34_1, hfz34_0, hfz34_1⟩ := bc2_ BK301.out) | (go_at_call 50; (with_reducible refine (spec_l1In.calls a0_0 (-1) 1000000000 false _ A2.out).mono ?_); rintro e w' ⟨rfl, ⟨nd, rfl⟩⟩; (try first | exact ⟨rfl, _, World.drewN_drewN _ _ _⟩ | exact ⟨rfl, _, Eq.trans (World.drewN_drewN _ _ _) (congrArg (World.drewN _) (Nat.add_assoc _ _ _))⟩))); try go_wp2_with (first | ((with_reducible refine gate_dst (N := 1) rfl ?_); (try (refine gate_guard (by rfl) ?_; dsimp only)); refine box_event ?hg (N := 1) ?hd (cs := #[.int .i64 a0_0, .slice A0_1 l0_1.length c0_1]) (t := 26) ?hr ?_; (case hd => rfl); (case hg => rfl); (case hr => first | (go_simp; done) | (go_simp; rfl)); intro gb301 hg w33 hbox hb; have n0_ := Aside0.mk (below_step below_a hb); have BK301 := Aside0.mk (hbox); have GW301 := Aside0.mk (bsz_ (w := w) hg); have GE301 := Aside0.mk (bsz_ (w := w) hg); replace HB := n0_; clear n0_; clear hb hbox hg; obtain ⟨hcz34_0, hcz34_1, hfz34_0, hfz34_1⟩ := bc2_ BK301.out) | (go_at_call 50; (with_reducible refine (spec_l1In.calls a0_0 (-1) 1000000000 false _ A2.out).mono ?_); rintro e w' ⟨rfl, ⟨nd, rfl⟩⟩; (try first | exact ⟨rfl, _, World.drewN_drewN _ _ _⟩ | exact ⟨rfl, _, Eq.trans (World.drewN_drewN _ _ _) (congrArg (World.drewN _) (Nat.add_assoc _ _ _))⟩))))
  go_ret
  exact ⟨eq_a, below_a⟩

/-! ### spec_TakeCounter: function 13 -/
def spec_TakeCounter.f (k : Nat) (a0_0 : Int) (l0_1 : List Int) (a1 : Int) : Option (Int × Int × List Int) := (spec_WindowFault.f k a0_0 l0_1).bind fun t311 => (if t311 = 0 then ((spec_l6Take.f k a0_0 l0_1 a1).bind fun bt312 => (some (bt312.2.2, bt312.1, bt312.2.1))) else (some (t311, 0, ([] : List Int))))
theorem spec_TakeCounter.mono : ∀ a0 a1 a2 k, LeO (spec_TakeCounter.f k a0 a1 a2) (spec_TakeCounter.f (k + 1) a0 a1 a2) := by
 intro a0 a1 a2 k
 unfold spec_TakeCounter.f
 repeat' first
   | (with_reducible exact spec_WindowFault.mono _ _ _)
   | (with_reducible exact spec_l6Take.mono _ _ _ _)
   | (with_reducible exact LeO.refl _)
   | (with_reducible exact LeO.none _)
   | (with_reducible refine LeO.ite ?_ ?_)
   | (with_reducible refine LeO.bind ?_ (fun _ => ?_))
   | exact spec_WindowFault.mono _ _ _
   | exact spec_l6Take.mono _ _ _ _
   | exact LeO.none _
   | refine LeO.ite ?_ ?_
   | refine LeO.bind ?_ (fun _ => ?_)
set_option maxHeartbeats 8000000 in
set_option maxRecDepth 100000 in
theorem spec_TakeCounter.calls (k : Nat) (a0_0 : Int) (A0_1 : Option Addr) (c0_1 : Nat) (l0_1 : List Int) (a1 : Int) (r1 : Int) (r2 : Int) (r3 : List Int) (w : World) (hr0_1 : Kd.C (Kd.int .i64) w A0_1 l0_1.length l0_1) (hc0_1 : l0_1.length ≤ c0_1) (h : spec_TakeCounter.f k a0_0 l0_1 a1 = some (r1, r2, r3)) :
  Calls Try.prog 13 #[.agg #[.int .i64 a0_0, .slice A0_1 l0_1.length c0_1], .int .i64 a1] w fun e w' => ∃ v2_ : Value, e = .returned (.agg #[.int .i64 r1, .int .i64 r2, v2_]) ∧ Kd.R (Kd.int .i64) 2 w' w.heap.size (fun _ => True) v2_ r3 ∧ Below w.heap.size w w' := by
 have hu26 := Try.underlying26
 have hu30 := Try.underlying30
 have HR0_1 := Aside0.mk hr0_1
 have HC0_1 := Aside0.mk hc0_1
 clear hr0_1 hc0_1
 have HB := Aside0.mk (Below.refl w.heap.size w)
 have H : ((spec_WindowFault.f k a0_0 l0_1).bind fun t311 => (if t311 = 0 then ((spec_l6Take.f k a0_0 l0_1 a1).bind fun bt312 => (some (bt312.2.2, bt312.1, bt312.2.1))) else (some (t311, 0, ([] : List Int))))) = some (r1, r2, r3) := h
 clear h
 replace H := Option.bind_eq_some_iff.mp H
 obtain ⟨t311, A30, H⟩ := H
 replace H : (if t311 = 0 then ((spec_l6Take.f k a0_0 l0_1 a1).bind fun bt312 => (some (bt312.2.2, bt312.1, bt312.2.1))) else (some (t311, 0, ([] : List Int)))) = some (r1, r2, r3) := H
 have A3 := Aside0.mk A30
 clear A30
 by_cases c4 : t311 = 0
 ·
  rw [if_pos c4] at H; have c4b0 : (t311 == 0) = true := beq_iff_eq.mpr c4; have c4b1 : (t311 != 0) = false := bne_eq_false_iff_eq.mpr c4; clear c4; replace H := Option.bind_eq_some_iff.mp H; obtain ⟨⟨t312, t313, t316⟩, A50, H⟩ := H; replace H : (some (t316, t312, t313)) = some (r1, r2, r3) := H; have A5 := Aside0.mk A50; clear A50; simp only [Option.some.injEq, Prod.mk.injEq] at H; obtain ⟨rfl, rfl, rfl⟩ := H
  go_enter Try.func13, Try.ntmps13
  go_wp2_with (first | ((with_reducible refine gate_dst (N := 2) rfl ?_); refine box_event ?hg (N := 2) ?hd (cs := #[.int .i64 a0_0, .slice A0_1 l0_1.length c0_1]) (t := 26) ?hr ?_; (case hd => rfl); (case hg => rfl); (case hr => first | (go_simp; done) | (go_simp; rfl)); intro gb309 hg w6 hbox hb; have n0_ := Aside0.mk (below_step below_a hb); have BK309 := Aside0.mk (hbox); have GW309 := Aside0.mk (bsz_ (w := w) hg); have GE309 := Aside0.mk (bsz_ (w := w) hg); replace HB := n0_; clear n0_; clear hb hbox hg) | ((with_reducible refine gate_dst (N := 4) rfl ?_); refine box_event ?hg (N := 4) ?hd (cs := #[.int .i64 0, .int .i64 0, .slice none 0 0]) (t := 30) ?hr ?_; (case hd => rfl); (case hg => rfl); (case hr => first | (go_simp; done) | (go_simp; rfl)); intro gb310 hg w7 hbox hb; have n0_ := Aside0.mk (blk_below (g := gb309) blk_c hb); have n1_ := Aside0.mk (below_step below_a hb); have BK310 := Aside0.mk (hbox); have GW310 := Aside0.mk (bsz_ (w := w) hg); have GE310 := Aside0.mk (bsz_ (w := w) hg); have NB309_310 := Aside0.mk (bne_ (g := gb309) hg); have NB310_309 := Aside0.mk (bne_ (g := gb309) hg).symm; replace BK309 := n0_; replace HB := n1_; clear n0_ n1_; clear hb hbox hg; have hnb8 := NB309_310.out; have hnc8 := NB310_309.out; obtain ⟨hcz9_0, hcz9_1, hfz9_0, hfz9_1⟩ := bc2_ BK309.out) | ((with_reducible refine gate_callee (f := 17) rfl ?_); refine goesL_ (some 9) rfl rfl Try.func17 (by kernel_rfl) rfl #[.agg #[.int .i64 a0_0, .slice A0_1 l0_1.length c0_1]] rfl args_a ?_; (with_reducible refine (spec_WindowFault.calls k a0_0 _ _ l0_1 t311 _ ?side1 ?side2 A3.out).mono ?_); (case side1 => repeat (first | exact (Kd.C_below HR0_1.out HB.out) | (with_reducible refine Kd.C_alloc ?_ _) | (with_reducible refine Kd.C_drewN ?_ _) | (with_reducible refine Kd.C_drew ?_))); (case side2 => exact HC0_1.out); rintro e w10 ⟨rfl, hb⟩; refine ⟨_, rfl, ?_⟩; replace BK309 := Aside0.mk (blk_below (g := gb309) blk_c hb); replace BK310 := Aside0.mk (blk_below (g := gb310) blk_c hb); replace HB := Aside0.mk (below_step below_a hb); (try clear hb); (try clear hb2); (try clear hk); (try clear hi)) | (go_at_call 49; (with_reducible refine (spec_l6Take.calls k _ a0_0 A0_1 c0_1 l0_1 a1 t312 t313 t316 _ ?side1 ?side2 ?side3 ?side4 A5.out).mono ?_); (case side1 => repeat (first | exact (Kd.C_below HR0_1.out HB.out) | (with_reducible refine Kd.C_alloc ?_ _) | (with_reducible refine Kd.C_drewN ?_ _) | (with_reducible refine Kd.C_drew ?_))); (case side2 => exact HC0_1.out); (case side3 => exact (blk_cell blk_a 0).trans rfl); (case side4 => exact (blk_cell blk_a 1).trans rfl); rintro e w11 ⟨v314, rfl, ho0, hb⟩; have HO315 := Aside0.mk (Kd.R_lower ho0 (below_size below_a)); replace BK309 := Aside0.mk (blk_below (g := gb309) blk_c hb); replace BK310 := Aside0.mk (blk_below (g := gb310) blk_c hb); replace HB := Aside0.mk (below_step below_a hb); (try clear hb); (try clear hb2); (try clear hk); (try clear hi); (try clear ho0)) | ((with_reducible refine gate_dst (N := 6) rfl ?_); refine box_event ?hg (N := 6) ?hd (cs := #[.int .i64 0, .slice none 0 0]) (t := 26) ?hr ?_; (case hd => rfl); (case hg => rfl); (case hr => first | (go_simp; done) | (go_simp; rfl)); intro gb317 hg w12 hbox hb; replace HO315 := Aside0.mk (Kd.R_below (R_a HO315.out) hb); have n1_ := Aside0.mk (blk_below (g := gb309) blk_c hb); have n2_ := Aside0.mk (blk_below (g := gb310) blk_c hb); have n3_ := Aside0.mk (below_step below_a hb); have BK317 := Aside0.mk (hbox); have GW317 := Aside0.mk (bsz_ (w := w) hg); have GE317 := Aside0.mk (bsz_ (w := w) hg); have NB309_317 := Aside0.mk (bne_ (g := gb309) hg); have NB317_309 := Aside0.mk (bne_ (g := gb309) hg).symm; have NB310_317 := Aside0.mk (bne_ (g := gb310) hg); have NB317_310 := Aside0.mk (bne_ (g := gb310) hg).symm; replace BK309 := n1_; replace BK310 := n2_; replace HB := n3_; clear n1_ n2_ n3_; clear hb hbox hg; have hnb13 := NB317_309.out; have hnc13 := NB309_317.out; have hnb14 := NB317_310.out; have hnc14 := NB310_317.out; obtain ⟨hcz15_0, hcz15_1, hfz15_0, hfz15_1⟩ := bc2_ BK317.out; obtain ⟨Ao16, co16, eo16⟩ := Kd.R_slice HO315.out; subst eo16; obtain ⟨hcz17_0, hcz17_1, hcz17_2, hfz17_0, hfz17_1, hfz17_2⟩ := bc3_ BK310.out))
  refine bodyPost_ret (results_cell_row rfl _ _ gb310 30 #[.int .i64 t316, .int .i64 t312, .slice Ao16 t313.length co16] (0, 0) _ rfl (by (with_reducible repeat (first | refine blk_drewN ?_ _ | refine blk_drew ?_ | refine blk_alloc ?_ _)); refine blk_put (cs := #[.int .i64 t316, .int .i64 t312, .slice none 0 0]) ?_ 2 _ rfl; (with_reducible repeat (first | refine blk_drewN ?_ _ | refine blk_drew ?_ | refine blk_alloc ?_ _)); refine blk_put (cs := #[.int .i64 t316, .int .i64 0, .slice none 0 0]) ?_ 1 _ rfl; (with_reducible repeat (first | refine blk_drewN ?_ _ | refine blk_drew ?_ | refine blk_alloc ?_ _)); refine blk_put (cs := #[.int .i64 0, .int .i64 0, .slice none 0 0]) ?_ 0 _ rfl; (with_reducible repeat (first | refine blk_drewN ?_ _ | refine blk_drew ?_ | refine blk_alloc ?_ _)); refine blk_far ?_ NB310_317.out _; (with_reducible repeat (first | refine blk_drewN ?_ _ | refine blk_drew ?_ | refine blk_alloc ?_ _)); refine blk_far ?_ NB310_317.out _; (with_reducible repeat (first | refine blk_drewN ?_ _ | refine blk_drew ?_ | refine blk_alloc ?_ _)); exact BK310.out) Try.underlying30 rfl (by kernel_rfl)) rfl ?_; exact ⟨_, eq_a, by (with_reducible repeat (first | apply Kd.R_alloc | apply Kd.R_drewN | apply Kd.R_drew)); exact Kd.R_mono (Kd.R_far (p := ⟨gb310, 2, none⟩) (Kd.R_far (p := ⟨gb310, 1, none⟩) (Kd.R_far (p := ⟨gb310, 0, none⟩) (Kd.R_far (p := ⟨gb317, 1, none⟩) (Kd.R_far (p := ⟨gb317, 0, none⟩) (Kd.R_types (Kd.R_types HO315.out BK317.out (by decide)) BK310.out (by decide)) (fun _ hk => hk.1.2) (.int .i64 t312)) (fun _ hk => hk.1.2) (.slice Ao16 t313.length co16)) (fun _ hk => hk.2) (.int .i64 t316)) (fun _ hk => hk.2) (.int .i64 t312)) (fun _ hk => hk.2) (.slice Ao16 t313.length co16)) (fun _ hk => trivial), below_a⟩
 ·
  rw [if_neg c4] at H; have c4b0 : (t311 == 0) = false := beq_eq_false_iff_ne.mpr c4; have c4b1 : (t311 != 0) = true := bne_iff_ne.mpr c4; simp only [Option.some.injEq, Prod.mk.injEq] at H; obtain ⟨rfl, rfl, rfl⟩ := H
  go_enter Try.func13, Try.ntmps13
  go_wp2_with (first | ((with_reducible refine gate_dst (N := 2) rfl ?_); refine box_event ?hg (N := 2) ?hd (cs := #[.int .i64 a0_0, .slice A0_1 l0_1.length c0_1]) (t := 26) ?hr ?_; (case hd => rfl); (case hg => rfl); (case hr => first | (go_simp; done) | (go_simp; rfl)); intro gb309 hg w18 hbox hb; have n0_ := Aside0.mk (below_step below_a hb); have BK309 := Aside0.mk (hbox); have GW309 := Aside0.mk (bsz_ (w := w) hg); have GE309 := Aside0.mk (bsz_ (w := w) hg); replace HB := n0_; clear n0_; clear hb hbox hg) | ((with_reducible refine gate_dst (N := 4) rfl ?_); refine box_event ?hg (N := 4) ?hd (cs := #[.int .i64 0, .int .i64 0, .slice none 0 0]) (t := 30) ?hr ?_; (case hd => rfl); (case hg => rfl); (case hr => first | (go_simp; done) | (go_simp; rfl)); intro gb310 hg w19 hbox hb; have n0_ := Aside0.mk (blk_below (g := gb309) blk_c hb); have n1_ := Aside0.mk (below_step below_a hb); have BK310 := Aside0.mk (hbox); have GW310 := Aside0.mk (bsz_ (w := w) hg); have GE310 := Aside0.mk (bsz_ (w := w) hg); have NB309_310 := Aside0.mk (bne_ (g := gb309) hg); have NB310_309 := Aside0.mk (bne_ (g := gb309) hg).symm; replace BK309 := n0_; replace HB := n1_; clear n0_ n1_; clear hb hbox hg; have hnb20 := NB309_310.out; have hnc20 := NB310_309.out; obtain ⟨hcz21_0, hcz21_1, hfz21_0, hfz21_1⟩ := bc2_ BK309.out) | ((with_reducible refine gate_callee (f := 17) rfl ?_); refine goesL_ (some 9) rfl rfl Try.func17 (by kernel_rfl) rfl #[.agg #[.int .i64 a0_0, .slice A0_1 l0_1.length c0_1]] rfl args_a ?_; (with_reducible refine (spec_WindowFault.calls k a0_0 _ _ l0_1 t311 _ ?side1 ?side2 A3.out).mono ?_); (case side1 => repeat (first | exact (Kd.C_below HR0_1.out HB.out) | (with_reducible refine Kd.C_alloc ?_ _) | (with_reducible refine Kd.C_drewN ?_ _) | (with_reducible refine Kd.C_drew ?_))); (case side2 => exact HC0_1.out); rintro e w22 ⟨rfl, hb⟩; refine ⟨_, rfl, ?_⟩; replace BK309 := Aside0.mk (blk_below (g := gb309) blk_c hb); replace BK310 := Aside0.mk (blk_below (g := gb310) blk_c hb); replace HB := Aside0.mk (below_step below_a hb); (try clear hb); (try clear hb2); (try clear hk); (try clear hi); obtain ⟨hcz23_0, hcz23_1, hcz23_2, hfz23_0, hfz23_1, hfz23_2⟩ := bc3_ BK310.out))
  refine bodyPost_ret (results_cell_row rfl _ _ gb310 30 #[.int .i64 t311, .int .i64 0, .slice none 0 0] (0, 0) _ rfl blk_a Try.underlying30 rfl (by kernel_rfl)) rfl ?_; exact ⟨_, eq_a, by first | exact Kd.R_nil _ _ _ _ _ | exact Kd.N_nil _ _ _ _ _ | exact Kd.V_nil _ _ _ _ _ | exact Kd.Q_nil _ _ _ _ _ | exact Kd.S_nil _ _ _ _ _, below_a⟩

/-! ### spec_TakeAll: function 14 -/
def spec_TakeAll.l0 : Nat → List Int → Int → Int → List Int → Int → List Int → Option (Int × List Int)
 | 0, _, _, _, _, _, _ => none
 | k + 1, x1, x8, x322000, x322001, x323000, x323001 => if x8 < (x1.length : Int) then (if 0 ≤ x8 then ((spec_l6Take.f k x323000 x323001 (rd x1 x8)).bind fun bt324 => (if bt324.2.2 = 0 then (if x322001.length < 17592186044416 then (spec_TakeAll.l0 k x1 (wrap64 (x8 + 1)) x322000 (x322001 ++ [x8]) bt324.1 bt324.2.1) else (none)) else (spec_TakeAll.l0 k x1 (wrap64 (x8 + 1)) x322000 x322001 x323000 x323001))) else (none)) else (some (x322000, x322001))
def spec_TakeAll.f (k : Nat) (a0_0 : Int) (l0_1 : List Int) (l1 : List Int) : Option (Int × List Int) := (spec_WindowFault.f k a0_0 l0_1).bind fun t320 => (if t320 = 0 then (if (l1.length : Int) > 200 then (some (2, ([] : List Int))) else (spec_TakeAll.l0 k l1 0 0 ([] : List Int) a0_0 l0_1)) else (some (t320, ([] : List Int))))
theorem spec_TakeAll.mono_l : ∀ k, (∀ y0 y1 y2 y3 y4 y5, LeO (spec_TakeAll.l0 k y0 y1 y2 y3 y4 y5) (spec_TakeAll.l0 (k + 1) y0 y1 y2 y3 y4 y5))
 | 0 => fun _ _ _ _ _ _ r h => by simp [spec_TakeAll.l0] at h
 | k + 1 => by
  have ih0 := spec_TakeAll.mono_l k
  ·
   intro y0 y1 y2 y3 y4 y5
   unfold spec_TakeAll.l0
   repeat' first
   | (with_reducible exact ih0 _ _ _ _ _ _)
   | (with_reducible exact spec_WindowFault.mono _ _ _)
   | (with_reducible exact spec_l6Take.mono _ _ _ _)
   | (with_reducible exact LeO.refl _)
   | (with_reducible exact LeO.none _)
   | (with_reducible refine LeO.ite ?_ ?_)
   | (with_reducible refine LeO.bind ?_ (fun _ => ?_))
   | exact ih0 _ _ _ _ _ _
   | exact spec_WindowFault.mono _ _ _
   | exact spec_l6Take.mono _ _ _ _
   | exact LeO.none _
   | refine LeO.ite ?_ ?_
   | refine LeO.bind ?_ (fun _ => ?_)
theorem spec_TakeAll.mono : ∀ a0 a1 a2 k, LeO (spec_TakeAll.f k a0 a1 a2) (spec_TakeAll.f (k + 1) a0 a1 a2) := by
 intro a0 a1 a2 k
 have ih0 := spec_TakeAll.mono_l k
 unfold spec_TakeAll.f
 repeat' first
   | (with_reducible exact ih0 _ _ _ _ _ _)
   | (with_reducible exact spec_WindowFault.mono _ _ _)
   | (with_reducible exact spec_l6Take.mono _ _ _ _)
   | (with_reducible exact LeO.refl _)
   | (with_reducible exact LeO.none _)
   | (with_reducible refine LeO.ite ?_ ?_)
   | (with_reducible refine LeO.bind ?_ (fun _ => ?_))
   | exact ih0 _ _ _ _ _ _
   | exact spec_WindowFault.mono _ _ _
   | exact spec_l6Take.mono _ _ _ _
   | exact LeO.none _
   | refine LeO.ite ?_ ?_
   | refine LeO.bind ?_ (fun _ => ?_)
set_option maxHeartbeats 8000000 in
set_option maxRecDepth 100000 in
theorem spec_TakeAll.calls (k : Nat) (a0_0 : Int) (P0_1_ : Nat → Prop) (A0_1 : Option Addr) (c0_1 : Nat) (l0_1 : List Int) (A1 : Option Addr) (c1 : Nat) (l1 : List Int) (r1 : Int) (r2 : List Int) (w : World) (hs0_1 : Kd.V (Kd.int .i64) 2 w w.heap.size (fun k_ => P0_1_ k_) (.slice A0_1 l0_1.length c0_1) l0_1) (hr1 : Kd.C (Kd.int .i64) w A1 l1.length l1) (hc1 : l1.length ≤ c1) (h : spec_TakeAll.f k a0_0 l0_1 l1 = some (r1, r2)) :
  Calls Try.prog 14 #[.agg #[.int .i64 a0_0, .slice A0_1 l0_1.length c0_1], .slice A1 l1.length c1] w fun e w' => ∃ v1_ : Value, e = .returned (.agg #[.int .i64 r1, v1_]) ∧ Kd.R (Kd.int .i64) 2 w' w.heap.size (fun k_ => (w.heap.size ≤ k_)) v1_ r2 ∧ Below w.heap.size w w' := by
 have hu26 := Try.underlying26
 have hu35 := Try.underlying35
 have HO0_1 := Aside0.mk (show Kd.V (Kd.int .i64) 2 w w.heap.size (fun k_ => (P0_1_ k_ ∨ w.heap.size ≤ k_)) (.slice A0_1 l0_1.length c0_1) l0_1 from Kd.V_mono hs0_1 (fun k_ hk => .inl hk))
 have HR1 := Aside0.mk hr1
 have HC1 := Aside0.mk hc1
 clear hr1 hc1
 have HB := Aside0.mk (Below.refl w.heap.size w)
 have H : ((spec_WindowFault.f k a0_0 l0_1).bind fun t320 => (if t320 = 0 then (if (l1.length : Int) > 200 then (some (2, ([] : List Int))) else (spec_TakeAll.l0 k l1 0 0 ([] : List Int) a0_0 l0_1)) else (some (t320, ([] : List Int))))) = some (r1, r2) := h
 clear h
 replace H := Option.bind_eq_some_iff.mp H
 obtain ⟨t320, A30, H⟩ := H
 replace H : (if t320 = 0 then (if (l1.length : Int) > 200 then (some (2, ([] : List Int))) else (spec_TakeAll.l0 k l1 0 0 ([] : List Int) a0_0 l0_1)) else (some (t320, ([] : List Int)))) = some (r1, r2) := H
 have A3 := Aside0.mk A30
 clear A30
 by_cases c4 : t320 = 0
 ·
  rw [if_pos c4] at H; have c4b0 : (t320 == 0) = true := beq_iff_eq.mpr c4; have c4b1 : (t320 != 0) = false := bne_eq_false_iff_eq.mpr c4; clear c4
  by_cases c5 : (l1.length : Int) > 200
  ·
   rw [if_pos c5] at H; have c5b0 : decide (200 < (l1.length : Int)) = true := decide_eq_true c5; have c5b1 : decide (200 < l1.length) = true := decide_eq_true (by omega); clear c5; simp only [Option.some.injEq, Prod.mk.injEq] at H; obtain ⟨rfl, rfl⟩ := H
   go_enter Try.func14, Try.ntmps14
   go_wp2_with (first | ((with_reducible refine gate_dst (N := 2) rfl ?_); refine box_event ?hg (N := 2) ?hd (cs := #[.int .i64 a0_0, .slice A0_1 l0_1.length c0_1]) (t := 26) ?hr ?_; (case hd => rfl); (case hg => rfl); (case hr => first | (go_simp; done) | (go_simp; rfl)); intro gb318 hg w6 hbox hb; replace HO0_1 := Aside0.mk (Kd.V_below (Kd.V_elderB (by (with_reducible repeat (first | apply Kd.V_alloc | apply Kd.V_drewN | apply Kd.V_drew)); exact HO0_1.out) gb318 (Nat.le_of_eq hg.symm)) hb); have n1_ := Aside0.mk (below_step below_a hb); have BK318 := Aside0.mk (hbox); have GW318 := Aside0.mk (bsz_ (w := w) hg); have GE318 := Aside0.mk (bsz_ (w := w) hg); replace HB := n1_; clear n1_; clear hb hbox hg) | ((with_reducible refine gate_dst (N := 4) rfl ?_); refine box_event ?hg (N := 4) ?hd (cs := #[.int .i64 0, .slice none 0 0]) (t := 35) ?hr ?_; (case hd => rfl); (case hg => rfl); (case hr => first | (go_simp; done) | (go_simp; rfl)); intro gb319 hg w7 hbox hb; replace HO0_1 := Aside0.mk (Kd.V_below (Kd.V_elderB (by (with_reducible repeat (first | apply Kd.V_alloc | apply Kd.V_drewN | apply Kd.V_drew)); exact HO0_1.out) gb319 (Nat.le_of_eq hg.symm)) hb); have n1_ := Aside0.mk (blk_below (g := gb318) blk_c hb); have n2_ := Aside0.mk (below_step below_a hb); have BK319 := Aside0.mk (hbox); have GW319 := Aside0.mk (bsz_ (w := w) hg); have GE319 := Aside0.mk (bsz_ (w := w) hg); have NB318_319 := Aside0.mk (bne_ (g := gb318) hg); have NB319_318 := Aside0.mk (bne_ (g := gb318) hg).symm; replace BK318 := n1_; replace HB := n2_; clear n1_ n2_; clear hb hbox hg; have hnb8 := NB318_319.out; have hnc8 := NB319_318.out; obtain ⟨hcz9_0, hcz9_1, hfz9_0, hfz9_1⟩ := bc2_ BK318.out) | ((with_reducible refine gate_callee (f := 17) rfl ?_); refine goesL_ (some 12) rfl rfl Try.func17 (by kernel_rfl) rfl #[.agg #[.int .i64 a0_0, .slice A0_1 l0_1.length c0_1]] rfl args_a ?_; (with_reducible refine (spec_WindowFault.calls k a0_0 _ _ l0_1 t320 _ ?side1 ?side2 A3.out).mono ?_); (case side1 => repeat (first | exact (Kd.V_reads' HO0_1.out).2.2 | (with_reducible refine Kd.C_alloc ?_ _) | (with_reducible refine Kd.C_drewN ?_ _) | (with_reducible refine Kd.C_drew ?_))); (case side2 => exact (Kd.V_reads' HO0_1.out).2.1); rintro e w10 ⟨rfl, hb⟩; refine ⟨_, rfl, ?_⟩; replace HO0_1 := Aside0.mk (Kd.V_below (by (with_reducible repeat (first | apply Kd.V_alloc | apply Kd.V_drewN | apply Kd.V_drew)); exact HO0_1.out) hb); replace BK318 := Aside0.mk (blk_below (g := gb318) blk_c hb); replace BK319 := Aside0.mk (blk_below (g := gb319) blk_c hb); replace HB := Aside0.mk (below_step below_a hb); (try clear hb); (try clear hb2); (try clear hk); (try clear hi); obtain ⟨hcz11_0, hcz11_1, hfz11_0, hfz11_1⟩ := bc2_ BK319.out))
   refine bodyPost_ret (results_cell_row rfl _ _ gb319 35 #[.int .i64 2, .slice none 0 0] (0, 0) _ rfl blk_a Try.underlying35 rfl (by kernel_rfl)) rfl ?_; exact ⟨_, eq_a, by first | exact Kd.R_nil _ _ _ _ _ | exact Kd.N_nil _ _ _ _ _ | exact Kd.V_nil _ _ _ _ _ | exact Kd.Q_nil _ _ _ _ _ | exact Kd.S_nil _ _ _ _ _, below_a⟩
  ·
   rw [if_neg c5] at H; have c5b0 : decide (200 < (l1.length : Int)) = false := decide_eq_false c5; have c5b1 : decide (200 < l1.length) = false := decide_eq_false (by omega); clear c5; have H' := Aside0.mk H; clear H
   go_enter Try.func14, Try.ntmps14
   go_wp2_with (first | ((with_reducible refine gate_dst (N := 2) rfl ?_); refine box_event ?hg (N := 2) ?hd (cs := #[.int .i64 a0_0, .slice A0_1 l0_1.length c0_1]) (t := 26) ?hr ?_; (case hd => rfl); (case hg => rfl); (case hr => first | (go_simp; done) | (go_simp; rfl)); intro gb318 hg w12 hbox hb; replace HO0_1 := Aside0.mk (Kd.V_below (Kd.V_elderB (by (with_reducible repeat (first | apply Kd.V_alloc | apply Kd.V_drewN | apply Kd.V_drew)); exact HO0_1.out) gb318 (Nat.le_of_eq hg.symm)) hb); have n1_ := Aside0.mk (below_step below_a hb); have BK318 := Aside0.mk (hbox); have GW318 := Aside0.mk (bsz_ (w := w) hg); have GE318 := Aside0.mk (bsz_ (w := w) hg); replace HB := n1_; clear n1_; clear hb hbox hg) | ((with_reducible refine gate_dst (N := 4) rfl ?_); refine box_event ?hg (N := 4) ?hd (cs := #[.int .i64 0, .slice none 0 0]) (t := 35) ?hr ?_; (case hd => rfl); (case hg => rfl); (case hr => first | (go_simp; done) | (go_simp; rfl)); intro gb319 hg w13 hbox hb; replace HO0_1 := Aside0.mk (Kd.V_below (Kd.V_elderB (by (with_reducible repeat (first | apply Kd.V_alloc | apply Kd.V_drewN | apply Kd.V_drew)); exact HO0_1.out) gb319 (Nat.le_of_eq hg.symm)) hb); have n1_ := Aside0.mk (blk_below (g := gb318) blk_c hb); have n2_ := Aside0.mk (below_step below_a hb); have BK319 := Aside0.mk (hbox); have GW319 := Aside0.mk (bsz_ (w := w) hg); have GE319 := Aside0.mk (bsz_ (w := w) hg); have NB318_319 := Aside0.mk (bne_ (g := gb318) hg); have NB319_318 := Aside0.mk (bne_ (g := gb318) hg).symm; replace BK318 := n1_; replace HB := n2_; clear n1_ n2_; clear hb hbox hg; have hnb14 := NB318_319.out; have hnc14 := NB319_318.out; obtain ⟨hcz15_0, hcz15_1, hfz15_0, hfz15_1⟩ := bc2_ BK318.out) | ((with_reducible refine gate_callee (f := 17) rfl ?_); refine goesL_ (some 12) rfl rfl Try.func17 (by kernel_rfl) rfl #[.agg #[.int .i64 a0_0, .slice A0_1 l0_1.length c0_1]] rfl args_a ?_; (with_reducible refine (spec_WindowFault.calls k a0_0 _ _ l0_1 t320 _ ?side1 ?side2 A3.out).mono ?_); (case side1 => repeat (first | exact (Kd.V_reads' HO0_1.out).2.2 | (with_reducible refine Kd.C_alloc ?_ _) | (with_reducible refine Kd.C_drewN ?_ _) | (with_reducible refine Kd.C_drew ?_))); (case side2 => exact (Kd.V_reads' HO0_1.out).2.1); rintro e w16 ⟨rfl, hb⟩; refine ⟨_, rfl, ?_⟩; replace HO0_1 := Aside0.mk (Kd.V_below (by (with_reducible repeat (first | apply Kd.V_alloc | apply Kd.V_drewN | apply Kd.V_drew)); exact HO0_1.out) hb); replace BK318 := Aside0.mk (blk_below (g := gb318) blk_c hb); replace BK319 := Aside0.mk (blk_below (g := gb319) blk_c hb); replace HB := Aside0.mk (below_step below_a hb); (try clear hb); (try clear hb2); (try clear hk); (try clear hi)) | ((with_reducible refine gate_dst (N := 6) rfl ?_); refine box_event ?hg (N := 6) ?hd (cs := #[.int .i64 0, .slice none 0 0]) (t := 35) ?hr ?_; (case hd => rfl); (case hg => rfl); (case hr => first | (go_simp; done) | (go_simp; rfl)); intro gb321 hg w17 hbox hb; replace HO0_1 := Aside0.mk (Kd.V_below (Kd.V_elderB (by (with_reducible repeat (first | apply Kd.V_alloc | apply Kd.V_drewN | apply Kd.V_drew)); exact HO0_1.out) gb321 (Nat.le_of_eq hg.symm)) hb); have n1_ := Aside0.mk (blk_below (g := gb318) blk_c hb); have n2_ := Aside0.mk (blk_below (g := gb319) blk_c hb); have n3_ := Aside0.mk (below_step below_a hb); have BK321 := Aside0.mk (hbox); have GW321 := Aside0.mk (bsz_ (w := w) hg); have GE321 := Aside0.mk (bsz_ (w := w) hg); have NB318_321 := Aside0.mk (bne_ (g := gb318) hg); have NB321_318 := Aside0.mk (bne_ (g := gb318) hg).symm; have NB319_321 := Aside0.mk (bne_ (g := gb319) hg); have NB321_319 := Aside0.mk (bne_ (g := gb319) hg).symm; replace BK318 := n1_; replace BK319 := n2_; replace HB := n3_; clear n1_ n2_ n3_; clear hb hbox hg; have hnb18 := NB321_318.out; have hnc18 := NB318_321.out; have hnb19 := NB321_319.out; have hnc19 := NB319_321.out; obtain ⟨hcz20_0, hcz20_1, hfz20_0, hfz20_1⟩ := bc2_ BK321.out; obtain ⟨hcz21_0, hcz21_1, hfz21_0, hfz21_1⟩ := bc2_ BK318.out) | ((with_reducible refine gate_dst (N := 7) rfl ?_); refine box_event ?hg (N := 7) ?hd (cs := #[.int .i64 0, .slice none 0 0]) (t := 26) ?hr ?_; (case hd => rfl); (case hg => rfl); (case hr => first | (go_simp; done) | (go_simp; rfl)); intro gb322 hg w22 hbox hb; replace HO0_1 := Aside0.mk (Kd.V_below (Kd.V_elderB (by (with_reducible repeat (first | apply Kd.V_alloc | apply Kd.V_drewN | apply Kd.V_drew)); exact (Kd.V_mono (Kd.V_far (p := ⟨gb321, 1, none⟩) (Kd.V_far (p := ⟨gb321, 0, none⟩) (Kd.V_mono HO0_1.out (fun k_ hk => (⟨hk, hk.2⟩ : _ ∧ k_ ≠ gb321))) (fun _ hk => hk.2) (.int .i64 0)) (fun _ hk => hk.2) (.slice none 0 0)) (fun _ h_ => h_.1))) gb322 (Nat.le_of_eq hg.symm)) hb); have n1_ := Aside0.mk (blk_below (g := gb318) blk_c hb); have n2_ := Aside0.mk (blk_below (g := gb319) blk_c hb); have n3_ := Aside0.mk (blk_below (g := gb321) (o := .cells #[.int .i64 0, .slice none 0 0] 35 (0, 0)) blk_a hb); have n4_ := Aside0.mk (below_step below_a hb); have BK322 := Aside0.mk (hbox); have GW322 := Aside0.mk (bsz_ (w := w) hg); have GE322 := Aside0.mk (bsz_ (w := w) hg); have NB318_322 := Aside0.mk (bne_ (g := gb318) hg); have NB322_318 := Aside0.mk (bne_ (g := gb318) hg).symm; have NB319_322 := Aside0.mk (bne_ (g := gb319) hg); have NB322_319 := Aside0.mk (bne_ (g := gb319) hg).symm; have NB321_322 := Aside0.mk (bne_ (g := gb321) hg); have NB322_321 := Aside0.mk (bne_ (g := gb321) hg).symm; replace BK318 := n1_; replace BK319 := n2_; replace BK321 := n3_; replace HB := n4_; clear n1_ n2_ n3_ n4_; clear hb hbox hg; have hnb23 := NB322_318.out; have hnc23 := NB318_322.out; have hnb24 := NB322_319.out; have hnc24 := NB319_322.out; have hnb25 := NB322_321.out; have hnc25 := NB321_322.out; obtain ⟨hcz26_0, hcz26_1, hfz26_0, hfz26_1⟩ := bc2_ BK322.out))
   go_loopg [8] k (fun kq v8 w' => ∃ (x8_1 : Int) (x322001_1 : List Int) (x323000_1 : Int) (x323001_1 : List Int) (u322001 : Value) (u323001 : Value), v8 = .int .i64 x8_1 ∧ Aside0 (spec_TakeAll.l0 kq l1 x8_1 0 x322001_1 x323000_1 x323001_1 = some (r1, r2)) ∧ Aside0 (kq ≤ k) ∧ Aside0 (Kd.V (Kd.int .i64) 2 w' w.heap.size (fun k_ => (P0_1_ k_ ∨ w.heap.size ≤ k_) ∧ some k_ ≠ (u322001 : Value).ownBlock ∧ k_ ≠ gb318 ∧ k_ ≠ gb319 ∧ k_ ≠ gb321 ∧ k_ ≠ gb322) (.slice A0_1 l0_1.length c0_1) l0_1) ∧ Aside0 (Kd.R (Kd.int .i64) 2 w' w.heap.size (fun k_ => (w.heap.size ≤ k_)) u322001 x322001_1) ∧ Aside0 (Kd.V (Kd.int .i64) 2 w' w.heap.size (fun k_ => (P0_1_ k_ ∨ w.heap.size ≤ k_) ∧ some k_ ≠ (u322001 : Value).ownBlock ∧ k_ ≠ gb318 ∧ k_ ≠ gb319 ∧ k_ ≠ gb321 ∧ k_ ≠ gb322) u323001 x323001_1) ∧ Aside0 (w'.heap[gb318]? = some (.cells #[.int .i64 a0_0, (.slice A0_1 l0_1.length c0_1)] 26 (0, 0))) ∧ Aside0 (w'.heap[gb319]? = some (.cells #[.int .i64 0, (.slice none 0 0)] 35 (0, 0))) ∧ Aside0 (w'.heap[gb321]? = some (.cells #[.int .i64 0, u322001] 35 (0, 0))) ∧ Aside0 (w'.heap[gb322]? = some (.cells #[.int .i64 x323000_1, u323001] 26 (0, 0))) ∧ Aside0 (Below w.heap.size w w'))
   case atStart => exact ⟨(0), (([] : List Int)), (a0_0), (l0_1), (.slice none 0 0), (.slice A0_1 l0_1.length c0_1), eq_b, H', ⟨Nat.le_refl _⟩, ⟨by (with_reducible repeat (first | apply Kd.V_alloc | apply Kd.V_drewN | apply Kd.V_drew)); exact Kd.V_mono (Kd.V_far (p := ⟨gb322, 1, none⟩) (Kd.V_far (p := ⟨gb322, 0, none⟩) (Kd.V_mono HO0_1.out (fun k_ hk => (⟨hk, hk.2⟩ : _ ∧ k_ ≠ gb322))) (fun _ hk => hk.2) (.int .i64 a0_0)) (fun _ hk => hk.2) (.slice A0_1 l0_1.length c0_1)) (fun _ hk => ⟨hk.1.1.1.1.1, ⟨(by simp [Value.ownBlock]), ⟨hk.1.1.1.1.2, ⟨hk.1.1.1.2, ⟨hk.1.1.2, hk.1.2⟩⟩⟩⟩⟩)⟩, ⟨by first | exact Kd.R_nil _ _ _ _ _ | exact Kd.N_nil _ _ _ _ _ | exact Kd.V_nil _ _ _ _ _ | exact Kd.Q_nil _ _ _ _ _ | exact Kd.S_nil _ _ _ _ _⟩, ⟨by (with_reducible repeat (first | apply Kd.V_alloc | apply Kd.V_drewN | apply Kd.V_drew)); exact Kd.V_mono (Kd.V_far (p := ⟨gb322, 1, none⟩) (Kd.V_far (p := ⟨gb322, 0, none⟩) (Kd.V_mono HO0_1.out (fun k_ hk => (⟨hk, hk.2⟩ : _ ∧ k_ ≠ gb322))) (fun _ hk => hk.2) (.int .i64 a0_0)) (fun _ hk => hk.2) (.slice A0_1 l0_1.length c0_1)) (fun _ hk => ⟨hk.1.1.1.1.1, ⟨(by simp [Value.ownBlock]), ⟨hk.1.1.1.1.2, ⟨hk.1.1.1.2, ⟨hk.1.1.2, hk.1.2⟩⟩⟩⟩⟩)⟩, ⟨blk_a⟩, ⟨blk_a⟩, ⟨blk_a⟩, ⟨blk_a⟩, ⟨below_a⟩⟩
   case round =>
    clear H'
    try clear c1
    try clear c2
    try clear p2
    try clear c4 c4b0 c4b1
    try clear c5 c5b0 c5b1
    try clear c8
    try clear c14
    try clear c17
    try clear c18
    try clear c19
    try clear c23
    try clear c24
    try clear c25
    try clear hcz11_0 hcz11_1
    try clear hcz15_0 hcz15_1
    try clear hcz20_0 hcz20_1
    try clear hcz21_0 hcz21_1
    try clear hcz26_0 hcz26_1
    try clear hcz9_0 hcz9_1
    try clear hfz11_0 hfz11_1
    try clear hfz15_0 hfz15_1
    try clear hfz20_0 hfz20_1
    try clear hfz21_0 hfz21_1
    try clear hfz26_0 hfz26_1
    try clear hfz9_0 hfz9_1
    obtain ⟨x8_1, x322001_1, x323000_1, x323001_1, u322001, u323001, rfl, HA, HK1, HO_319001, HO_322001, HO_323001, BK318, BK319, BK321, BK322, HB⟩ := hrel
    cases gk with
    | zero => exact absurd HA.out (by simp [spec_TakeAll.l0])
    | succ k1 =>
     have H := HA.out; clear HA; simp only [spec_TakeAll.l0] at H
     by_cases c27 : x8_1 < (l1.length : Int)
     ·
      rw [if_pos c27] at H; have c27b0 : decide (x8_1 < (l1.length : Int)) = true := decide_eq_true c27; clear c27
      by_cases c28 : 0 ≤ x8_1
      ·
       rw [if_pos c28] at H; have c28b0 : decide (0 ≤ x8_1) = true := decide_eq_true c28; clear c28; replace H := Option.bind_eq_some_iff.mp H; obtain ⟨⟨t324, t325, t328⟩, A290, H⟩ := H; replace H : (if t328 = 0 then (if x322001_1.length < 17592186044416 then (spec_TakeAll.l0 k1 l1 (wrap64 (x8_1 + 1)) 0 (x322001_1 ++ [x8_1]) t324 t325) else (none)) else (spec_TakeAll.l0 k1 l1 (wrap64 (x8_1 + 1)) 0 x322001_1 x323000_1 x323001_1)) = some (r1, r2) := H; have A29 := Aside0.mk A290; clear A290
       by_cases c30 : t328 = 0
       ·
        rw [if_pos c30] at H; have c30b0 : (t328 == 0) = true := beq_iff_eq.mpr c30; have c30b1 : (t328 != 0) = false := bne_eq_false_iff_eq.mpr c30; clear c30
        by_cases c31 : x322001_1.length < 17592186044416
        ·
         rw [if_pos c31] at H; have LMc31 := Aside0.mk c31; clear c31; obtain ⟨y330, hy330⟩ : ∃ y_ : List Int, y_ = (x322001_1 ++ [x8_1]) := ⟨_, rfl⟩; replace H : (spec_TakeAll.l0 k1 l1 (wrap64 (x8_1 + 1)) 0 y330 t324 t325) = some (r1, r2) := by first | (rw [hy330]; with_reducible exact H) | (have H2_ := (Option.bind_some _ _).symm.trans H; rw [hy330]; with_reducible exact H2_) | (have H2_ := (Option.bind_some _ _).symm.trans H; with_reducible exact H2_) | with_reducible exact H | (rw [hy330]; exact H) | exact H
         have Ny330 := Aside0.mk hy330; clear hy330; have H' := Aside0.mk H; clear H; have p323 : 0 ≤ (x8_1 : Int) := of_decide_eq_true (by first | (with_reducible assumption) | assumption); have q323 : x8_1 < (l1.length : Int) := of_decide_eq_true (by first | (with_reducible assumption) | assumption); obtain ⟨ad323, e323, hx323_0⟩ := Kd.at_int HR1.out x8_1 p323 q323
         cases e323
         replace hx323_0 := (HB.out.cell (World.block_lt_of_cell? w _ hx323_0)).trans hx323_0; replace p323 := eq_true p323; replace q323 := eq_true q323; obtain ⟨Ao32, co32, eo32⟩ := Kd.V_slice HO_323001.out; subst eo32
         go_wp2_with (first | (go_at_call 49; (with_reducible refine (spec_l6Take.calls k1 _ x323000_1 Ao32 co32 x323001_1 (rd l1 x8_1) t324 t325 t328 _ ?side1 ?side2 ?side3 ?side4 A29.out).mono ?_); (case side1 => repeat (first | exact (Kd.V_reads' HO_323001.out).2.2 | (with_reducible refine Kd.C_alloc ?_ _) | (with_reducible refine Kd.C_drewN ?_ _) | (with_reducible refine Kd.C_drew ?_))); (case side2 => exact (Kd.V_reads' HO_323001.out).2.1); (case side3 => exact (blk_cell blk_a 0).trans rfl); (case side4 => exact (blk_cell blk_a 1).trans rfl); rintro e w33 ⟨v326, rfl, ho0, hb⟩; replace HO_319001 := Aside0.mk (Kd.V_elder' (by (with_reducible repeat (first | apply Kd.V_alloc | apply Kd.V_drewN | apply Kd.V_drew)); exact HO_319001.out) (Kd.R_base ho0) hb); have n1_ := Aside0.mk (Kd.R_elder' (R_a HO_322001.out) (Kd.R_base ho0) hb); replace HO_323001 := Aside0.mk (Kd.V_elder' (by (with_reducible repeat (first | apply Kd.V_alloc | apply Kd.V_drewN | apply Kd.V_drew)); exact HO_323001.out) (Kd.R_base ho0) hb); have HO327 := Aside0.mk (Kd.R_lower (Kd.R_new' (Kd.R_newM (M := fun k_ => (w.heap.size ≤ k_)) ho0 (below_size below_a) (fun k_ h_ => h_)) (Kd.R_lt (R_a HO_322001.out))) (below_size below_a)); replace BK318 := Aside0.mk (blk_below (g := gb318) blk_c hb); replace BK319 := Aside0.mk (blk_below (g := gb319) blk_c hb); replace BK321 := Aside0.mk (blk_below (g := gb321) blk_c hb); replace BK322 := Aside0.mk (blk_below (g := gb322) blk_c hb); replace HB := Aside0.mk (below_step below_a hb); replace HO_322001 := n1_; clear n1_; (try clear hb); (try clear hb2); (try clear hk); (try clear hi); (try clear ho0)) | ((with_reducible refine gate_dst (N := 9) rfl ?_); refine box_event ?hg (N := 9) ?hd (cs := #[.int .i64 0, .slice none 0 0]) (t := 26) ?hr ?_; (case hd => rfl); (case hg => rfl); (case hr => first | (go_simp; done) | (go_simp; rfl)); intro gb329 hg w34 hbox hb; replace HO_319001 := Aside0.mk (Kd.V_below (Kd.V_elderB (by (with_reducible repeat (first | apply Kd.V_alloc | apply Kd.V_drewN | apply Kd.V_drew)); exact HO_319001.out) gb329 (Nat.le_of_eq hg.symm)) hb); replace HO_322001 := Aside0.mk (Kd.R_below (R_a HO_322001.out) hb); replace HO_323001 := Aside0.mk (Kd.V_below (Kd.V_elderB (by (with_reducible repeat (first | apply Kd.V_alloc | apply Kd.V_drewN | apply Kd.V_drew)); exact HO_323001.out) gb329 (Nat.le_of_eq hg.symm)) hb); replace HO327 := Aside0.mk (Kd.R_below (R_a HO327.out) hb); have n4_ := Aside0.mk (blk_below (g := gb318) blk_c hb); have n5_ := Aside0.mk (blk_below (g := gb319) blk_c hb); have n6_ := Aside0.mk (blk_below (g := gb321) blk_c hb); have n7_ := Aside0.mk (blk_below (g := gb322) blk_c hb); have n8_ := Aside0.mk (below_step below_a hb); have BK329 := Aside0.mk (hbox); have GW329 := Aside0.mk (bsz_ (w := w) hg); have GE329 := Aside0.mk (bsz_ (w := w) hg); have NB318_329 := Aside0.mk (bne_ (g := gb318) hg); have NB329_318 := Aside0.mk (bne_ (g := gb318) hg).symm; have NB319_329 := Aside0.mk (bne_ (g := gb319) hg); have NB329_319 := Aside0.mk (bne_ (g := gb319) hg).symm; have NB321_329 := Aside0.mk (bne_ (g := gb321) hg); have NB329_321 := Aside0.mk (bne_ (g := gb321) hg).symm; have NB322_329 := Aside0.mk (bne_ (g := gb322) hg); have NB329_322 := Aside0.mk (bne_ (g := gb322) hg).symm; replace BK318 := n4_; replace BK319 := n5_; replace BK321 := n6_; replace BK322 := n7_; replace HB := n8_; clear n4_ n5_ n6_ n7_ n8_; clear hb hbox hg; have hnb35 := NB329_318.out; have hnc35 := NB318_329.out; have hnb36 := NB329_319.out; have hnc36 := NB319_329.out; have hnb37 := NB329_321.out; have hnc37 := NB321_329.out; have hnb38 := NB329_322.out; have hnc38 := NB322_329.out; obtain ⟨hcz39_0, hcz39_1, hfz39_0, hfz39_1⟩ := bc2_ BK329.out; obtain ⟨Ao40, co40, eo40⟩ := Kd.R_slice HO327.out; subst eo40; have hnb41 := NB322_318.out; have hnc41 := NB318_322.out; have hnb42 := NB322_319.out; have hnc42 := NB319_322.out; have hnb43 := NB322_321.out; have hnc43 := NB321_322.out; obtain ⟨hcz44_0, hcz44_1, hfz44_0, hfz44_1⟩ := bc2_ BK322.out; have hnb45 := NB321_318.out; have hnc45 := NB318_321.out; have hnb46 := NB321_319.out; have hnc46 := NB319_321.out; obtain ⟨hcz47_0, hcz47_1, hfz47_0, hfz47_1⟩ := bc2_ BK321.out) | ((with_reducible refine gate_builtin (b := .append) (xs := #[.tmp 41, .tmp 43]) rfl ?_); at_builtin; refine Kd.R_append (Kd.int .i64) (w0 := w) w.heap.size rfl (.tmp 41) (.tmp 43) 24 2 (.int .i64 0) 8 rfl Try.underlying24 info2 rfl (by decide) (by omega) u322001 x322001_1 x8_1 [.int .i64 x8_1] (fun k_ => (w.heap.size ≤ k_) ∧ some k_ ≠ (.slice Ao40 t325.length co40 : Value).ownBlock) (fun _ => False) rfl (by first | (go_simp; done) | (go_simp; rfl)) ?aP (fun _ hk => hk.elim) ?aF ?aO ?aB ?aS ?aL ?_; (case aP => exact rfl); (case aB => exact below_a); (case aF => exact (fun k_ hk => ⟨(Nat.le_trans (below_size below_a) hk), Kd.fresh' (Kd.R_lt (by (with_reducible repeat (first | apply Kd.R_alloc | apply Kd.R_drewN | apply Kd.R_drew)); exact (Kd.R_mono (Kd.R_mono (Kd.R_far (p := ⟨gb322, 1, none⟩) (Kd.R_far (p := ⟨gb322, 0, none⟩) (Kd.R_far (p := ⟨gb329, 1, none⟩) (Kd.R_far (p := ⟨gb329, 0, none⟩) (Kd.R_types (Kd.R_types HO327.out BK329.out (by decide)) BK322.out (by decide)) (fun _ hk => hk.1.2) (.int .i64 t324)) (fun _ hk => hk.1.2) (.slice Ao40 t325.length co40)) (fun _ hk => hk.2) (.int .i64 t324)) (fun _ hk => hk.2) (.slice Ao40 t325.length co40)) (fun _ h_ => h_.1)) (fun _ h_ => h_.1)))) k_ hk⟩)); (case aO => exact (by (with_reducible repeat (first | apply Kd.R_alloc | apply Kd.R_drewN | apply Kd.R_drew)); exact Kd.R_mono (Kd.R_far (p := ⟨gb322, 1, none⟩) (Kd.R_far (p := ⟨gb322, 0, none⟩) (Kd.R_far (p := ⟨gb329, 1, none⟩) (Kd.R_far (p := ⟨gb329, 0, none⟩) (Kd.R_types (Kd.R_types HO_322001.out BK329.out (by decide)) BK322.out (by decide)) (fun _ hk => hk.1.2) (.int .i64 t324)) (fun _ hk => hk.1.2) (.slice Ao40 t325.length co40)) (fun _ hk => hk.2) (.int .i64 t324)) (fun _ hk => hk.2) (.slice Ao40 t325.length co40)) (fun _ hk => ⟨hk.1.1.1, hk.1.1.2⟩))); (case aS => exact (below_size below_a)); (case aL => have := LMc31.out; omega); intro v331 w48 ho hb hg hat; rw [← Ny330.out] at ho; replace HO_319001 := Aside0.mk (Kd.V_afterv (ok := (fun k_ => (P0_1_ k_ ∨ w.heap.size ≤ k_) ∧ some k_ ≠ (.slice Ao40 t325.length co40 : Value).ownBlock ∧ k_ ≠ gb318 ∧ k_ ≠ gb319 ∧ k_ ≠ gb321 ∧ k_ ≠ gb322 ∧ k_ ≠ gb329)) (by (with_reducible repeat (first | apply Kd.V_alloc | apply Kd.V_drewN | apply Kd.V_drew)); exact Kd.V_mono (Kd.V_far (p := ⟨gb322, 1, none⟩) (Kd.V_far (p := ⟨gb322, 0, none⟩) (Kd.V_far (p := ⟨gb329, 1, none⟩) (Kd.V_far (p := ⟨gb329, 0, none⟩) (Kd.V_mono (Kd.V_mono HO_319001.out (fun k_ hk => (⟨hk, hk.2⟩ : _ ∧ k_ ≠ gb329))) (fun k_ hk => (⟨hk, hk.1.1.1.2.2.2.2.2⟩ : _ ∧ k_ ≠ gb322))) (fun _ hk => hk.1.2) (.int .i64 t324)) (fun _ hk => hk.1.2) (.slice Ao40 t325.length co40)) (fun _ hk => hk.2) (.int .i64 t324)) (fun _ hk => hk.2) (.slice Ao40 t325.length co40)) (fun _ hk => ⟨⟨hk.1.1.1.1.1, ⟨hk.1.1.1.2, ⟨hk.1.1.1.1.2.2.1, ⟨hk.1.1.1.1.2.2.2.1, ⟨hk.1.1.1.1.2.2.2.2.1, ⟨hk.1.1.1.1.2.2.2.2.2, hk.1.1.2⟩⟩⟩⟩⟩⟩, hk.1.1.1.1.2.1⟩)) hg hat); replace HO_323001 := Aside0.mk (Kd.V_afterv (ok := (fun k_ => (P0_1_ k_ ∨ w.heap.size ≤ k_) ∧ some k_ ≠ (.slice Ao40 t325.length co40 : Value).ownBlock ∧ k_ ≠ gb318 ∧ k_ ≠ gb319 ∧ k_ ≠ gb321 ∧ k_ ≠ gb322 ∧ k_ ≠ gb329)) (by (with_reducible repeat (first | apply Kd.V_alloc | apply Kd.V_drewN | apply Kd.V_drew)); exact Kd.V_mono (Kd.V_far (p := ⟨gb322, 1, none⟩) (Kd.V_far (p := ⟨gb322, 0, none⟩) (Kd.V_far (p := ⟨gb329, 1, none⟩) (Kd.V_far (p := ⟨gb329, 0, none⟩) (Kd.V_mono (Kd.V_mono HO_323001.out (fun k_ hk => (⟨hk, hk.2⟩ : _ ∧ k_ ≠ gb329))) (fun k_ hk => (⟨hk, hk.1.1.1.2.2.2.2.2⟩ : _ ∧ k_ ≠ gb322))) (fun _ hk => hk.1.2) (.int .i64 t324)) (fun _ hk => hk.1.2) (.slice Ao40 t325.length co40)) (fun _ hk => hk.2) (.int .i64 t324)) (fun _ hk => hk.2) (.slice Ao40 t325.length co40)) (fun _ hk => ⟨⟨hk.1.1.1.1.1, ⟨hk.1.1.1.2, ⟨hk.1.1.1.1.2.2.1, ⟨hk.1.1.1.1.2.2.2.1, ⟨hk.1.1.1.1.2.2.2.2.1, ⟨hk.1.1.1.1.2.2.2.2.2, hk.1.1.2⟩⟩⟩⟩⟩⟩, hk.1.1.1.1.2.1⟩)) hg hat); have n2_ := Aside0.mk (blk_grown (g := gb318) blk_c hg (Kd.R_ne HO_322001.out BK318.out (by decide))); have n3_ := Aside0.mk (blk_grown (g := gb319) blk_c hg (Kd.R_ne HO_322001.out BK319.out (by decide))); have n4_ := Aside0.mk (blk_grown (g := gb321) blk_c hg (Kd.R_ne HO_322001.out BK321.out (by decide))); have n5_ := Aside0.mk (blk_grown (g := gb322) (o := .cells #[.int .i64 t324, .slice Ao40 t325.length co40] 26 (0, 0)) (by (with_reducible repeat (first | refine blk_drewN ?_ _ | refine blk_drew ?_ | refine blk_alloc ?_ _)); refine blk_put (cs := #[.int .i64 t324, .slice Ao32 x323001_1.length co32]) ?_ 1 _ rfl; (with_reducible repeat (first | refine blk_drewN ?_ _ | refine blk_drew ?_ | refine blk_alloc ?_ _)); refine blk_put (cs := #[.int .i64 x323000_1, .slice Ao32 x323001_1.length co32]) ?_ 0 _ rfl; (with_reducible repeat (first | refine blk_drewN ?_ _ | refine blk_drew ?_ | refine blk_alloc ?_ _)); refine blk_far ?_ NB322_329.out _; (with_reducible repeat (first | refine blk_drewN ?_ _ | refine blk_drew ?_ | refine blk_alloc ?_ _)); refine blk_far ?_ NB322_329.out _; (with_reducible repeat (first | refine blk_drewN ?_ _ | refine blk_drew ?_ | refine blk_alloc ?_ _)); exact BK322.out) hg (Kd.R_ne HO_322001.out BK322.out (by decide))); replace HO327 := Aside0.mk (Kd.R_after (ok := (fun k_ => (w.heap.size ≤ k_))) (by (with_reducible repeat (first | apply Kd.R_alloc | apply Kd.R_drewN | apply Kd.R_drew)); exact Kd.R_mono (Kd.R_far (p := ⟨gb322, 1, none⟩) (Kd.R_far (p := ⟨gb322, 0, none⟩) (Kd.R_far (p := ⟨gb329, 1, none⟩) (Kd.R_far (p := ⟨gb329, 0, none⟩) (Kd.R_types (Kd.R_types HO327.out BK329.out (by decide)) BK322.out (by decide)) (fun _ hk => hk.1.2) (.int .i64 t324)) (fun _ hk => hk.1.2) (.slice Ao40 t325.length co40)) (fun _ hk => hk.2) (.int .i64 t324)) (fun _ hk => hk.2) (.slice Ao40 t325.length co40)) (fun _ hk => ⟨hk.1.1.1.1, hk.1.1.2⟩)) hg hat); replace BK329 := Aside0.mk (blk_grown (g := gb329) (o := .cells #[.int .i64 t324, .slice Ao40 t325.length co40] 26 (0, 0)) (by (with_reducible repeat (first | refine blk_drewN ?_ _ | refine blk_drew ?_ | refine blk_alloc ?_ _)); refine blk_far ?_ NB329_322.out _; (with_reducible repeat (first | refine blk_drewN ?_ _ | refine blk_drew ?_ | refine blk_alloc ?_ _)); refine blk_far ?_ NB329_322.out _; (with_reducible repeat (first | refine blk_drewN ?_ _ | refine blk_drew ?_ | refine blk_alloc ?_ _)); refine blk_put (cs := #[.int .i64 t324, .slice none 0 0]) ?_ 1 _ rfl; (with_reducible repeat (first | refine blk_drewN ?_ _ | refine blk_drew ?_ | refine blk_alloc ?_ _)); refine blk_put (cs := #[.int .i64 0, .slice none 0 0]) ?_ 0 _ rfl; (with_reducible repeat (first | refine blk_drewN ?_ _ | refine blk_drew ?_ | refine blk_alloc ?_ _)); exact BK329.out) hg (Kd.R_ne HO_322001.out BK329.out (by decide))); replace HB := Aside0.mk (hb); have HO332 := Aside0.mk (ho); replace BK318 := n2_; replace BK319 := n3_; replace BK321 := n4_; replace BK322 := n5_; clear HO_322001 n2_ n3_ n4_ n5_; clear ho hb hg hat; obtain ⟨Ao49, co49, eo49⟩ := Kd.R_slice HO332.out; subst eo49; obtain ⟨hcz50_0, hcz50_1, hfz50_0, hfz50_1⟩ := bc2_ BK321.out))
         go_roundg k1
         case measure => have := HK1.out; omega
         case rel => exact ⟨(wrap64 (x8_1 + 1)), (y330), (t324), (t325), (.slice Ao49 y330.length co49), (.slice Ao40 t325.length co40), eq_b, H', ⟨by have := HK1.out; omega⟩, ⟨by (with_reducible repeat (first | apply Kd.V_alloc | apply Kd.V_drewN | apply Kd.V_drew)); exact Kd.V_mono (Kd.V_far (p := ⟨gb321, 1, none⟩) (Kd.V_mono HO_319001.out (fun k_ hk => (⟨hk, hk.1.2.2.2.2.1⟩ : _ ∧ k_ ≠ gb321))) (fun _ hk => hk.2) (.slice Ao49 y330.length co49)) (fun _ hk => ⟨hk.1.1.1, ⟨hk.1.2, ⟨hk.1.1.2.2.1, ⟨hk.1.1.2.2.2.1, ⟨hk.1.1.2.2.2.2.1, hk.1.1.2.2.2.2.2.1⟩⟩⟩⟩⟩)⟩, ⟨by (with_reducible repeat (first | apply Kd.R_alloc | apply Kd.R_drewN | apply Kd.R_drew)); exact Kd.R_mono (Kd.R_far (p := ⟨gb321, 1, none⟩) (Kd.R_types HO332.out BK321.out (by decide)) (fun _ hk => hk.2) (.slice Ao49 y330.length co49)) (fun _ hk => hk.1.1)⟩, ⟨Kd.V_mono (Kd.R_V (by (with_reducible repeat (first | apply Kd.R_alloc | apply Kd.R_drewN | apply Kd.R_drew)); exact Kd.R_mono (Kd.R_far (p := ⟨gb321, 1, none⟩) (Kd.R_types (Kd.R_types (Kd.R_types (Kd.R_types (Kd.R_types HO327.out BK318.out (by decide)) BK319.out (by decide)) BK321.out (by decide)) BK322.out (by decide)) BK321.out (by decide)) (fun _ hk => hk.2) (.slice Ao49 y330.length co49)) (fun _ hk => And.intro hk.1.1.1.1.1.1 (And.intro hk.1.1.1.1.1.2 (And.intro hk.1.1.1.1.2 (And.intro hk.1.1.1.2 (And.intro hk.1.1.2 hk.1.2))))))) (fun k_ hk => by first | exact ⟨(.inr (hk.1)), hk.2⟩ | exact (.inr (hk)))⟩, ⟨blk_a⟩, ⟨blk_a⟩, ⟨blk_a⟩, ⟨blk_a⟩, ⟨below_a⟩⟩
        ·
         rw [if_neg c31] at H; exact absurd H (by simp)
       ·
        rw [if_neg c30] at H; have c30b0 : (t328 == 0) = false := beq_eq_false_iff_ne.mpr c30; have c30b1 : (t328 != 0) = true := bne_iff_ne.mpr c30; have H' := Aside0.mk H; clear H; have p323 : 0 ≤ (x8_1 : Int) := of_decide_eq_true (by first | (with_reducible assumption) | assumption); have q323 : x8_1 < (l1.length : Int) := of_decide_eq_true (by first | (with_reducible assumption) | assumption); obtain ⟨ad323, e323, hx323_0⟩ := Kd.at_int HR1.out x8_1 p323 q323
        cases e323
        replace hx323_0 := (HB.out.cell (World.block_lt_of_cell? w _ hx323_0)).trans hx323_0; replace p323 := eq_true p323; replace q323 := eq_true q323; obtain ⟨Ao51, co51, eo51⟩ := Kd.V_slice HO_323001.out; subst eo51
        go_wp2_with (first | (go_at_call 49; (with_reducible refine (spec_l6Take.calls k1 _ x323000_1 Ao51 co51 x323001_1 (rd l1 x8_1) t324 t325 t328 _ ?side1 ?side2 ?side3 ?side4 A29.out).mono ?_); (case side1 => repeat (first | exact (Kd.V_reads' HO_323001.out).2.2 | (with_reducible refine Kd.C_alloc ?_ _) | (with_reducible refine Kd.C_drewN ?_ _) | (with_reducible refine Kd.C_drew ?_))); (case side2 => exact (Kd.V_reads' HO_323001.out).2.1); (case side3 => exact (blk_cell blk_a 0).trans rfl); (case side4 => exact (blk_cell blk_a 1).trans rfl); rintro e w52 ⟨v326, rfl, ho0, hb⟩; replace HO_319001 := Aside0.mk (Kd.V_elder' (by (with_reducible repeat (first | apply Kd.V_alloc | apply Kd.V_drewN | apply Kd.V_drew)); exact HO_319001.out) (Kd.R_base ho0) hb); have n1_ := Aside0.mk (Kd.R_elder' (R_a HO_322001.out) (Kd.R_base ho0) hb); replace HO_323001 := Aside0.mk (Kd.V_elder' (by (with_reducible repeat (first | apply Kd.V_alloc | apply Kd.V_drewN | apply Kd.V_drew)); exact HO_323001.out) (Kd.R_base ho0) hb); have HO327 := Aside0.mk (Kd.R_lower (Kd.R_new' (Kd.R_newM (M := fun k_ => (w.heap.size ≤ k_)) ho0 (below_size below_a) (fun k_ h_ => h_)) (Kd.R_lt (R_a HO_322001.out))) (below_size below_a)); replace BK318 := Aside0.mk (blk_below (g := gb318) blk_c hb); replace BK319 := Aside0.mk (blk_below (g := gb319) blk_c hb); replace BK321 := Aside0.mk (blk_below (g := gb321) blk_c hb); replace BK322 := Aside0.mk (blk_below (g := gb322) blk_c hb); replace HB := Aside0.mk (below_step below_a hb); replace HO_322001 := n1_; clear n1_; (try clear hb); (try clear hb2); (try clear hk); (try clear hi); (try clear ho0)) | ((with_reducible refine gate_dst (N := 9) rfl ?_); refine box_event ?hg (N := 9) ?hd (cs := #[.int .i64 0, .slice none 0 0]) (t := 26) ?hr ?_; (case hd => rfl); (case hg => rfl); (case hr => first | (go_simp; done) | (go_simp; rfl)); intro gb329 hg w53 hbox hb; replace HO_319001 := Aside0.mk (Kd.V_below (Kd.V_elderB (by (with_reducible repeat (first | apply Kd.V_alloc | apply Kd.V_drewN | apply Kd.V_drew)); exact HO_319001.out) gb329 (Nat.le_of_eq hg.symm)) hb); replace HO_322001 := Aside0.mk (Kd.R_below (R_a HO_322001.out) hb); replace HO_323001 := Aside0.mk (Kd.V_below (Kd.V_elderB (by (with_reducible repeat (first | apply Kd.V_alloc | apply Kd.V_drewN | apply Kd.V_drew)); exact HO_323001.out) gb329 (Nat.le_of_eq hg.symm)) hb); replace HO327 := Aside0.mk (Kd.R_below (R_a HO327.out) hb); have n4_ := Aside0.mk (blk_below (g := gb318) blk_c hb); have n5_ := Aside0.mk (blk_below (g := gb319) blk_c hb); have n6_ := Aside0.mk (blk_below (g := gb321) blk_c hb); have n7_ := Aside0.mk (blk_below (g := gb322) blk_c hb); have n8_ := Aside0.mk (below_step below_a hb); have BK329 := Aside0.mk (hbox); have GW329 := Aside0.mk (bsz_ (w := w) hg); have GE329 := Aside0.mk (bsz_ (w := w) hg); have NB318_329 := Aside0.mk (bne_ (g := gb318) hg); have NB329_318 := Aside0.mk (bne_ (g := gb318) hg).symm; have NB319_329 := Aside0.mk (bne_ (g := gb319) hg); have NB329_319 := Aside0.mk (bne_ (g := gb319) hg).symm; have NB321_329 := Aside0.mk (bne_ (g := gb321) hg); have NB329_321 := Aside0.mk (bne_ (g := gb321) hg).symm; have NB322_329 := Aside0.mk (bne_ (g := gb322) hg); have NB329_322 := Aside0.mk (bne_ (g := gb322) hg).symm; replace BK318 := n4_; replace BK319 := n5_; replace BK321 := n6_; replace BK322 := n7_; replace HB := n8_; clear n4_ n5_ n6_ n7_ n8_; clear hb hbox hg; have hnb54 := NB329_318.out; have hnc54 := NB318_329.out; have hnb55 := NB329_319.out; have hnc55 := NB319_329.out; have hnb56 := NB329_321.out; have hnc56 := NB321_329.out; have hnb57 := NB329_322.out; have hnc57 := NB322_329.out; obtain ⟨hcz58_0, hcz58_1, hfz58_0, hfz58_1⟩ := bc2_ BK329.out; obtain ⟨Ao59, co59, eo59⟩ := Kd.R_slice HO327.out; subst eo59))
        go_roundg k1
        case measure => have := HK1.out; omega
        case rel => exact ⟨(wrap64 (x8_1 + 1)), (x322001_1), (x323000_1), (x323001_1), (u322001), (.slice Ao51 x323001_1.length co51), eq_b, H', ⟨by have := HK1.out; omega⟩, ⟨by (with_reducible repeat (first | apply Kd.V_alloc | apply Kd.V_drewN | apply Kd.V_drew)); exact Kd.V_mono (Kd.V_far (p := ⟨gb329, 1, none⟩) (Kd.V_far (p := ⟨gb329, 0, none⟩) (Kd.V_mono HO_319001.out (fun k_ hk => (⟨hk, hk.2⟩ : _ ∧ k_ ≠ gb329))) (fun _ hk => hk.2) (.int .i64 t324)) (fun _ hk => hk.2) (.slice Ao59 t325.length co59)) (fun _ hk => ⟨hk.1.1.1.1, ⟨hk.1.1.1.2.1, ⟨hk.1.1.1.2.2.1, ⟨hk.1.1.1.2.2.2.1, ⟨hk.1.1.1.2.2.2.2.1, hk.1.1.1.2.2.2.2.2⟩⟩⟩⟩⟩)⟩, ⟨by (with_reducible repeat (first | apply Kd.R_alloc | apply Kd.R_drewN | apply Kd.R_drew)); exact Kd.R_mono (Kd.R_far (p := ⟨gb329, 1, none⟩) (Kd.R_far (p := ⟨gb329, 0, none⟩) (Kd.R_types HO_322001.out BK329.out (by decide)) (fun _ hk => hk.2) (.int .i64 t324)) (fun _ hk => hk.2) (.slice Ao59 t325.length co59)) (fun _ hk => hk.1.1)⟩, ⟨by (with_reducible repeat (first | apply Kd.V_alloc | apply Kd.V_drewN | apply Kd.V_drew)); exact Kd.V_mono (Kd.V_far (p := ⟨gb329, 1, none⟩) (Kd.V_far (p := ⟨gb329, 0, none⟩) (Kd.V_mono HO_323001.out (fun k_ hk => (⟨hk, hk.2⟩ : _ ∧ k_ ≠ gb329))) (fun _ hk => hk.2) (.int .i64 t324)) (fun _ hk => hk.2) (.slice Ao59 t325.length co59)) (fun _ hk => ⟨hk.1.1.1.1, ⟨hk.1.1.1.2.1, ⟨hk.1.1.1.2.2.1, ⟨hk.1.1.1.2.2.2.1, ⟨hk.1.1.1.2.2.2.2.1, hk.1.1.1.2.2.2.2.2⟩⟩⟩⟩⟩)⟩, ⟨blk_a⟩, ⟨blk_a⟩, ⟨blk_a⟩, ⟨blk_a⟩, ⟨below_a⟩⟩
      ·
       rw [if_neg c28] at H; exact absurd H (by simp)
     ·
      rw [if_neg c27] at H; have c27b0 : decide (x8_1 < (l1.length : Int)) = false := decide_eq_false c27; clear c27; simp only [Option.some.injEq, Prod.mk.injEq] at H; obtain ⟨rfl, rfl⟩ := H; have hnb60 := NB321_318.out; have hnc60 := NB318_321.out; have hnb61 := NB321_319.out; have hnc61 := NB319_321.out; have hnb62 := NB321_322.out; have hnc62 := NB322_321.out; obtain ⟨hcz63_0, hcz63_1, hfz63_0, hfz63_1⟩ := bc2_ BK321.out; have hnb64 := NB319_318.out; have hnc64 := NB318_319.out; have hnb65 := NB319_322.out; have hnc65 := NB322_319.out; obtain ⟨hcz66_0, hcz66_1, hfz66_0, hfz66_1⟩ := bc2_ BK319.out; obtain ⟨Ao67, co67, eo67⟩ := Kd.R_slice HO_322001.out; subst eo67
      go_wp2
      refine bodyPost_ret (results_cell_row rfl _ _ gb319 35 #[.int .i64 0, .slice Ao67 x322001_1.length co67] (0, 0) _ rfl blk_a Try.underlying35 rfl (by kernel_rfl)) rfl ?_; exact ⟨_, eq_a, by (with_reducible repeat (first | apply Kd.R_alloc | apply Kd.R_drewN | apply Kd.R_drew)); exact Kd.R_mono (Kd.R_far (p := ⟨gb319, 1, none⟩) (Kd.R_far (p := ⟨gb319, 0, none⟩) (Kd.R_types HO_322001.out BK319.out (by decide)) (fun _ hk => hk.2) (.int .i64 0)) (fun _ hk => hk.2) (.slice Ao67 x322001_1.length co67)) (fun _ hk => hk.1), below_a⟩
 ·
  rw [if_neg c4] at H; have c4b0 : (t320 == 0) = false := beq_eq_false_iff_ne.mpr c4; have c4b1 : (t320 != 0) = true := bne_iff_ne.mpr c4; simp only [Option.some.injEq, Prod.mk.injEq] at H; obtain ⟨rfl, rfl⟩ := H
  go_enter Try.func14, Try.ntmps14
  go_wp2_with (first | ((with_reducible refine gate_dst (N := 2) rfl ?_); refine box_event ?hg (N := 2) ?hd (cs := #[.int .i64 a0_0, .slice A0_1 l0_1.length c0_1]) (t := 26) ?hr ?_; (case hd => rfl); (case hg => rfl); (case hr => first | (go_simp; done) | (go_simp; rfl)); intro gb318 hg w68 hbox hb; replace HO0_1 := Aside0.mk (Kd.V_below (Kd.V_elderB (by (with_reducible repeat (first | apply Kd.V_alloc | apply Kd.V_drewN | apply Kd.V_drew)); exact HO0_1.out) gb318 (Nat.le_of_eq hg.symm)) hb); have n1_ := Aside0.mk (below_step below_a hb); have BK318 := Aside0.mk (hbox); have GW318 := Aside0.mk (bsz_ (w := w) hg); have GE318 := Aside0.mk (bsz_ (w := w) hg); replace HB := n1_; clear n1_; clear hb hbox hg) | ((with_reducible refine gate_dst (N := 4) rfl ?_); refine box_event ?hg (N := 4) ?hd (cs := #[.int .i64 0, .slice none 0 0]) (t := 35) ?hr ?_; (case hd => rfl); (case hg => rfl); (case hr => first | (go_simp; done) | (go_simp; rfl)); intro gb319 hg w69 hbox hb; replace HO0_1 := Aside0.mk (Kd.V_below (Kd.V_elderB (by (with_reducible repeat (first | apply Kd.V_alloc | apply Kd.V_drewN | apply Kd.V_drew)); exact HO0_1.out) gb319 (Nat.le_of_eq hg.symm)) hb); have n1_ := Aside0.mk (blk_below (g := gb318) blk_c hb); have n2_ := Aside0.mk (below_step below_a hb); have BK319 := Aside0.mk (hbox); have GW319 := Aside0.mk (bsz_ (w := w) hg); have GE319 := Aside0.mk (bsz_ (w := w) hg); have NB318_319 := Aside0.mk (bne_ (g := gb318) hg); have NB319_318 := Aside0.mk (bne_ (g := gb318) hg).symm; replace BK318 := n1_; replace HB := n2_; clear n1_ n2_; clear hb hbox hg; have hnb70 := NB318_319.out; have hnc70 := NB319_318.out; obtain ⟨hcz71_0, hcz71_1, hfz71_0, hfz71_1⟩ := bc2_ BK318.out) | ((with_reducible refine gate_callee (f := 17) rfl ?_); refine goesL_ (some 12) rfl rfl Try.func17 (by kernel_rfl) rfl #[.agg #[.int .i64 a0_0, .slice A0_1 l0_1.length c0_1]] rfl args_a ?_; (with_reducible refine (spec_WindowFault.calls k a0_0 _ _ l0_1 t320 _ ?side1 ?side2 A3.out).mono ?_); (case side1 => repeat (first | exact (Kd.V_reads' HO0_1.out).2.2 | (with_reducible refine Kd.C_alloc ?_ _) | (with_reducible refine Kd.C_drewN ?_ _) | (with_reducible refine Kd.C_drew ?_))); (case side2 => exact (Kd.V_reads' HO0_1.out).2.1); rintro e w72 ⟨rfl, hb⟩; refine ⟨_, rfl, ?_⟩; replace HO0_1 := Aside0.mk (Kd.V_below (by (with_reducible repeat (first | apply Kd.V_alloc | apply Kd.V_drewN | apply Kd.V_drew)); exact HO0_1.out) hb); replace BK318 := Aside0.mk (blk_below (g := gb318) blk_c hb); replace BK319 := Aside0.mk (blk_below (g := gb319) blk_c hb); replace HB := Aside0.mk (below_step below_a hb); (try clear hb); (try clear hb2); (try clear hk); (try clear hi); obtain ⟨hcz73_0, hcz73_1, hfz73_0, hfz73_1⟩ := bc2_ BK319.out))
  refine bodyPost_ret (results_cell_row rfl _ _ gb319 35 #[.int .i64 t320, .slice none 0 0] (0, 0) _ rfl blk_a Try.underlying35 rfl (by kernel_rfl)) rfl ?_; exact ⟨_, eq_a, by first | exact Kd.R_nil _ _ _ _ _ | exact Kd.N_nil _ _ _ _ _ | exact Kd.V_nil _ _ _ _ _ | exact Kd.Q_nil _ _ _ _ _ | exact Kd.S_nil _ _ _ _ _, below_a⟩

/-! ### impl_IsNews: function 15 -/
def impl_IsNews.f (k : Nat) (a0_0 : Int) (l0_1 : List Int) (a1 : Int) : Option (Bool) := (impl_TakeCounter.f k a0_0 l0_1 a1).bind fun bt334 => (some (bt334.1 == 0))
theorem impl_IsNews.mono : ∀ a0 a1 a2 k, LeO (impl_IsNews.f k a0 a1 a2) (impl_IsNews.f (k + 1) a0 a1 a2) := by
 intro a0 a1 a2 k
 unfold impl_IsNews.f
 repeat' first
   | (with_reducible exact impl_TakeCounter.mono _ _ _ _)
   | (with_reducible exact LeO.refl _)
   | (with_reducible exact LeO.none _)
   | (with_reducible refine LeO.ite ?_ ?_)
   | (with_reducible refine LeO.bind ?_ (fun _ => ?_))
   | exact impl_TakeCounter.mono _ _ _ _
   | exact LeO.none _
   | refine LeO.ite ?_ ?_
   | refine LeO.bind ?_ (fun _ => ?_)
set_option maxHeartbeats 8000000 in
set_option maxRecDepth 100000 in
theorem impl_IsNews.calls (k : Nat) (a0_0 : Int) (A0_1 : Option Addr) (c0_1 : Nat) (l0_1 : List Int) (a1 : Int) (r : Bool) (w : World) (hr0_1 : Kd.C (Kd.int .i64) w A0_1 l0_1.length l0_1) (hc0_1 : l0_1.length ≤ c0_1) (h : impl_IsNews.f k a0_0 l0_1 a1 = some r) :
  Calls Try.prog 15 #[.agg #[.int .i64 a0_0, .slice A0_1 l0_1.length c0_1], .int .i64 a1] w fun e w' => e = .returned (.bool r) ∧ Below w.heap.size w w' := by
 have hu26 := Try.underlying26
 have HR0_1 := Aside0.mk hr0_1
 have HC0_1 := Aside0.mk hc0_1
 clear hr0_1 hc0_1
 have HB := Aside0.mk (Below.refl w.heap.size w)
 have H : ((impl_TakeCounter.f k a0_0 l0_1 a1).bind fun bt334 => (some (bt334.1 == 0))) = some r := h
 clear h
 replace H := Option.bind_eq_some_iff.mp H
 obtain ⟨⟨t334, t335, t336⟩, A30, H⟩ := H
 replace H : (some (t334 == 0)) = some r := H
 have A3 := Aside0.mk A30
 clear A30
 obtain rfl := Option.some.inj H
 go_enter Try.func15, Try.ntmps15
 go_wp2_with (first | ((with_reducible refine gate_dst (N := 2) rfl ?_); refine box_event ?hg (N := 2) ?hd (cs := #[.int .i64 a0_0, .slice A0_1 l0_1.length c0_1]) (t := 26) ?hr ?_; (case hd => rfl); (case hg => rfl); (case hr => first | (go_simp; done) | (go_simp; rfl)); intro gb333 hg w4 hbox hb; have n0_ := Aside0.mk (below_step below_a hb); have BK333 := Aside0.mk (hbox); have GW333 := Aside0.mk (bsz_ (w := w) hg); have GE333 := Aside0.mk (bsz_ (w := w) hg); replace HB := n0_; clear n0_; clear hb hbox hg; obtain ⟨hcz5_0, hcz5_1, hfz5_0, hfz5_1⟩ := bc2_ BK333.out) | ((with_reducible refine gate_callee (f := 9) rfl ?_); refine goesL_ (some 7) rfl rfl Try.func9 (by kernel_rfl) rfl #[.agg #[.int .i64 a0_0, .slice A0_1 l0_1.length c0_1], .int .i64 a1] rfl args_a ?_; (with_reducible refine (impl_TakeCounter.calls k a0_0 _ _ l0_1 a1 t334 t335 t336 _ ?side1 ?side2 A3.out).mono ?_); (case side1 => repeat (first | exact (Kd.C_below HR0_1.out HB.out) | (with_reducible refine Kd.C_alloc ?_ _) | (with_reducible refine Kd.C_drewN ?_ _) | (with_reducible refine Kd.C_drew ?_))); (case side2 => exact HC0_1.out); rintro e w6 ⟨v337, rfl, ho0, hb⟩; refine ⟨_, rfl, ?_⟩; have HO338 := Aside0.mk (Kd.R_lower ho0 (below_size below_a)); replace BK333 := Aside0.mk (blk_below (g := gb333) blk_c hb); replace HB := Aside0.mk (below_step below_a hb); (try clear hb); (try clear hb2); (try clear hk); (try clear hi); (try clear ho0)))
 go_ret
 exact ⟨eq_a, below_a⟩

/-! ### slices_Equal_int64_int64: function 51 -/
def slices_Equal_int64_int64.l0 : Nat → List Int → List Int → Int → Int → Option (Bool)
 | 0, _, _, _, _ => none
 | k + 1, x0, x1, x12, x13 => if x13 < x12 then (if 0 ≤ x13 then (if x13 < (x0.length : Int) then (if x13 < (x1.length : Int) then (if (rd x0 x13) = (rd x1 x13) then (slices_Equal_int64_int64.l0 k x0 x1 x12 (wrap64 (x13 + 1))) else (some false)) else (none)) else (none)) else (none)) else (some true)
def slices_Equal_int64_int64.f (k : Nat) (l0 : List Int) (l1 : List Int) : Option (Bool) := if (l0.length : Int) = (l1.length : Int) then (slices_Equal_int64_int64.l0 k l0 l1 (l0.length : Int) 0) else (some false)
theorem slices_Equal_int64_int64.mono_l : ∀ k, (∀ y0 y1 y2 y3, LeO (slices_Equal_int64_int64.l0 k y0 y1 y2 y3) (slices_Equal_int64_int64.l0 (k + 1) y0 y1 y2 y3))
 | 0 => fun _ _ _ _ r h => by simp [slices_Equal_int64_int64.l0] at h
 | k + 1 => by
  have ih0 := slices_Equal_int64_int64.mono_l k
  ·
   intro y0 y1 y2 y3
   unfold slices_Equal_int64_int64.l0
   repeat' first
   | (with_reducible exact ih0 _ _ _ _)
   | (with_reducible exact LeO.refl _)
   | (with_reducible exact LeO.none _)
   | (with_reducible refine LeO.ite ?_ ?_)
   | (with_reducible refine LeO.bind ?_ (fun _ => ?_))
   | exact ih0 _ _ _ _
   | exact LeO.none _
   | refine LeO.ite ?_ ?_
   | refine LeO.bind ?_ (fun _ => ?_)
theorem slices_Equal_int64_int64.mono : ∀ a0 a1 k, LeO (slices_Equal_int64_int64.f k a0 a1) (slices_Equal_int64_int64.f (k + 1) a0 a1) := by
 intro a0 a1 k
 have ih0 := slices_Equal_int64_int64.mono_l k
 unfold slices_Equal_int64_int64.f
 repeat' first
   | (with_reducible exact ih0 _ _ _ _)
   | (with_reducible exact LeO.refl _)
   | (with_reducible exact LeO.none _)
   | (with_reducible refine LeO.ite ?_ ?_)
   | (with_reducible refine LeO.bind ?_ (fun _ => ?_))
   | exact ih0 _ _ _ _
   | exact LeO.none _
   | refine LeO.ite ?_ ?_
   | refine LeO.bind ?_ (fun _ => ?_)
set_option maxHeartbeats 8000000 in
set_option maxRecDepth 100000 in
theorem slices_Equal_int64_int64.calls (k : Nat) (A0 : Option Addr) (c0 : Nat) (l0 : List Int) (A1 : Option Addr) (c1 : Nat) (l1 : List Int) (r : Bool) (w : World) (hr0 : Kd.C (Kd.int .i64) w A0 l0.length l0) (hc0 : l0.length ≤ c0) (hr1 : Kd.C (Kd.int .i64) w A1 l1.length l1) (hc1 : l1.length ≤ c1) (h : slices_Equal_int64_int64.f k l0 l1 = some r) :
  Calls Try.prog 51 #[.slice A0 l0.length c0, .slice A1 l1.length c1] w fun e w' => e = .returned (.bool r) ∧ Drawn0 w w' := by
 have HR0 := Aside0.mk hr0
 have HC0 := Aside0.mk hc0
 clear hr0 hc0
 have HR1 := Aside0.mk hr1
 have HC1 := Aside0.mk hc1
 clear hr1 hc1
 have H : (if (l0.length : Int) = (l1.length : Int) then (slices_Equal_int64_int64.l0 k l0 l1 (l0.length : Int) 0) else (some false)) = some r := h
 clear h
 by_cases c3 : (l0.length : Int) = (l1.length : Int)
 ·
  rw [if_pos c3] at H; have c3b0 : ((l0.length : Int) == (l1.length : Int)) = true := beq_iff_eq.mpr c3; have c3b1 : ((l0.length : Int) != (l1.length : Int)) = false := bne_eq_false_iff_eq.mpr c3; have c3b2 : (l0.length == l1.length) = true := by first | simpa using c3 | (simp at c3 ⊢; omega)
  clear c3; have H' := Aside0.mk H; clear H
  go_enter Try.func51, Try.ntmps51
  go_wp2
  repeat (go_quiet (fail); try go_wp2)
  go_loopg [13] k (fun kq v13 w' => ∃ (x13_1 : Int), v13 = .int .i64 x13_1 ∧ Aside0 (slices_Equal_int64_int64.l0 kq l0 l1 (l0.length : Int) x13_1 = some r) ∧ Aside0 (kq ≤ k) ∧ Drawn0 w w')
  case atStart => exact ⟨(0), eq_b, H', ⟨Nat.le_refl _⟩, by repeat (first | exact Drawn0.refl _ | apply Drawn0.step)⟩
  case round =>
   clear H'
   try clear c1
   try clear p2
   try clear c3 c3b0 c3b1 c3b2
   obtain ⟨x13_1, rfl, HA, HK1, ⟨m1, rfl⟩⟩ := hrel
   cases gk with
   | zero => exact absurd HA.out (by simp [slices_Equal_int64_int64.l0])
   | succ k1 =>
    have H := HA.out; clear HA; simp only [slices_Equal_int64_int64.l0] at H
    by_cases c4 : x13_1 < (l0.length : Int)
    ·
     rw [if_pos c4] at H; have c4b0 : decide (x13_1 < (l0.length : Int)) = true := decide_eq_true c4; clear c4
     by_cases c5 : 0 ≤ x13_1
     ·
      rw [if_pos c5] at H; have c5b0 : decide (0 ≤ x13_1) = true := decide_eq_true c5; clear c5
      by_cases c6 : x13_1 < (l0.length : Int)
      ·
       rw [if_pos c6] at H; have c6b0 : decide (x13_1 < (l0.length : Int)) = true := decide_eq_true c6; clear c6
       by_cases c7 : x13_1 < (l1.length : Int)
       ·
        rw [if_pos c7] at H; have c7b0 : decide (x13_1 < (l1.length : Int)) = true := decide_eq_true c7; clear c7
        by_cases c8 : (rd l0 x13_1) = (rd l1 x13_1)
        ·
         rw [if_pos c8] at H; have c8b0 : ((rd l0 x13_1) == (rd l1 x13_1)) = true := beq_iff_eq.mpr c8; have c8b1 : ((rd l0 x13_1) != (rd l1 x13_1)) = false := bne_eq_false_iff_eq.mpr c8; clear c8; have H' := Aside0.mk H; clear H; have p339 : 0 ≤ (x13_1 : Int) := of_decide_eq_true (by first | (with_reducible assumption) | assumption); have q339 : x13_1 < (l0.length : Int) := of_decide_eq_true (by first | (with_reducible assumption) | assumption); obtain ⟨ad339, e339, hx339_0⟩ := Kd.at_int HR0.out x13_1 p339 q339
         cases e339
         replace p339 := eq_true p339; replace q339 := eq_true q339; have p340 : 0 ≤ (x13_1 : Int) := of_decide_eq_true (by first | (with_reducible assumption) | assumption); have q340 : x13_1 < (l1.length : Int) := of_decide_eq_true (by first | (with_reducible assumption) | assumption); obtain ⟨ad340, e340, hx340_0⟩ := Kd.at_int HR1.out x13_1 p340 q340
         cases e340
         replace p340 := eq_true p340; replace q340 := eq_true q340
         go_wp2
         repeat (go_quiet (fail); try go_wp2)
         go_roundg k1
         case measure => have := HK1.out; omega
         case rel => exact ⟨(wrap64 (x13_1 + 1)), eq_b, H', ⟨by have := HK1.out; omega⟩, by repeat (first | exact Drawn0.refl _ | apply Drawn0.step)⟩
        ·
         rw [if_neg c8] at H; have c8b0 : ((rd l0 x13_1) == (rd l1 x13_1)) = false := beq_eq_false_iff_ne.mpr c8; have c8b1 : ((rd l0 x13_1) != (rd l1 x13_1)) = true := bne_iff_ne.mpr c8; obtain rfl := Option.some.inj H; have p339 : 0 ≤ (x13_1 : Int) := of_decide_eq_true (by first | (with_reducible assumption) | assumption); have q339 : x13_1 < (l0.length : Int) := of_decide_eq_true (by first | (with_reducible assumption) | assumption); obtain ⟨ad339, e339, hx339_0⟩ := Kd.at_int HR0.out x13_1 p339 q339
         cases e339
         replace p339 := eq_true p339; replace q339 := eq_true q339; have p340 : 0 ≤ (x13_1 : Int) := of_decide_eq_true (by first | (with_reducible assumption) | assumption); have q340 : x13_1 < (l1.length : Int) := of_decide_eq_true (by first | (with_reducible assumption) | assumption); obtain ⟨ad340, e340, hx340_0⟩ := Kd.at_int HR1.out x13_1 p340 q340
         cases e340
         replace p340 := eq_true p340; replace q340 := eq_true q340
         go_wp2
         repeat (go_quiet (fail); try go_wp2)
         go_ret
         exact ⟨eq_b, by repeat (first | exact Drawn0.refl _ | apply Drawn0.step)⟩
       ·
        rw [if_neg c7] at H; exact absurd H (by simp)
      ·
       rw [if_neg c6] at H; exact absurd H (by simp)
     ·
      rw [if_neg c5] at H; exact absurd H (by simp)
    ·
     rw [if_neg c4] at H; have c4b0 : decide (x13_1 < (l0.length : Int)) = false := decide_eq_false c4; clear c4; obtain rfl := Option.some.inj H
     go_wp2
     repeat (go_quiet (fail); try go_wp2)
     go_ret
     exact ⟨eq_b, by repeat (first | exact Drawn0.refl _ | apply Drawn0.step)⟩
 ·
  rw [if_neg c3] at H; have c3b0 : ((l0.length : Int) == (l1.length : Int)) = false := beq_eq_false_iff_ne.mpr c3; have c3b1 : ((l0.length : Int) != (l1.length : Int)) = true := bne_iff_ne.mpr c3; have c3b2 : (l0.length == l1.length) = false := by first | simpa using c3 | (simp at c3 ⊢; omega)
  obtain rfl := Option.some.inj H
  go_enter Try.func51, Try.ntmps51
  go_wp2
  repeat (go_quiet (fail); try go_wp2)
  go_ret
  exact ⟨eq_b, by repeat (first | exact Drawn0.refl _ | apply Drawn0.step)⟩

/-! ### impl_SameWindows: function 18 -/
def impl_SameWindows.f (k : Nat) (a0_0 : Int) (l0_1 : List Int) (a1_0 : Int) (l1_1 : List Int) : Option (Bool) := if a0_0 = a1_0 then ((slices_Equal_int64_int64.f k l0_1 l1_1).bind fun t343 => (some t343)) else (some false)
theorem impl_SameWindows.mono : ∀ a0 a1 a2 a3 k, LeO (impl_SameWindows.f k a0 a1 a2 a3) (impl_SameWindows.f (k + 1) a0 a1 a2 a3) := by
 intro a0 a1 a2 a3 k
 unfold impl_SameWindows.f
 repeat' first
   | (with_reducible exact slices_Equal_int64_int64.mono _ _ _)
   | (with_reducible exact LeO.refl _)
   | (with_reducible exact LeO.none _)
   | (with_reducible refine LeO.ite ?_ ?_)
   | (with_reducible refine LeO.bind ?_ (fun _ => ?_))
   | exact slices_Equal_int64_int64.mono _ _ _
   | exact LeO.none _
   | refine LeO.ite ?_ ?_
   | refine LeO.bind ?_ (fun _ => ?_)
set_option maxHeartbeats 8000000 in
set_option maxRecDepth 100000 in
theorem impl_SameWindows.calls (k : Nat) (a0_0 : Int) (A0_1 : Option Addr) (c0_1 : Nat) (l0_1 : List Int) (a1_0 : Int) (A1_1 : Option Addr) (c1_1 : Nat) (l1_1 : List Int) (r : Bool) (w : World) (hr0_1 : Kd.C (Kd.int .i64) w A0_1 l0_1.length l0_1) (hc0_1 : l0_1.length ≤ c0_1) (hr1_1 : Kd.C (Kd.int .i64) w A1_1 l1_1.length l1_1) (hc1_1 : l1_1.length ≤ c1_1) (h : impl_SameWindows.f k a0_0 l0_1 a1_0 l1_1 = some r) :
  Calls Try.prog 18 #[.agg #[.int .i64 a0_0, .slice A0_1 l0_1.length c0_1], .agg #[.int .i64 a1_0, .slice A1_1 l1_1.length c1_1]] w fun e w' => e = .returned (.bool r) ∧ Below w.heap.size w w' := by
 have hu26 := Try.underlying26
 have HR0_1 := Aside0.mk hr0_1
 have HC0_1 := Aside0.mk hc0_1
 clear hr0_1 hc0_1
 have HR1_1 := Aside0.mk hr1_1
 have HC1_1 := Aside0.mk hc1_1
 clear hr1_1 hc1_1
 have HB := Aside0.mk (Below.refl w.heap.size w)
 have H : (if a0_0 = a1_0 then ((slices_Equal_int64_int64.f k l0_1 l1_1).bind fun t343 => (some t343)) else (some false)) = some r := h
 clear h
 by_cases c3 : a0_0 = a1_0
 ·
  rw [if_pos c3] at H; have c3b0 : (a0_0 == a1_0) = true := beq_iff_eq.mpr c3; have c3b1 : (a0_0 != a1_0) = false := bne_eq_false_iff_eq.mpr c3; clear c3; replace H := Option.bind_eq_some_iff.mp H; obtain ⟨t343, A40, H⟩ := H; replace H : (some t343) = some r := H; have A4 := Aside0.mk A40; clear A40; obtain rfl := Option.some.inj H
  go_enter Try.func18, Try.ntmps18
  go_wp2_with (first | ((with_reducible refine gate_dst (N := 2) rfl ?_); refine box_event ?hg (N := 2) ?hd (cs := #[.int .i64 a0_0, .slice A0_1 l0_1.length c0_1]) (t := 26) ?hr ?_; (case hd => rfl); (case hg => rfl); (case hr => first | (go_simp; done) | (go_simp; rfl)); intro gb341 hg w5 hbox hb; have n0_ := Aside0.mk (below_step below_a hb); have BK341 := Aside0.mk (hbox); have GW341 := Aside0.mk (bsz_ (w := w) hg); have GE341 := Aside0.mk (bsz_ (w := w) hg); replace HB := n0_; clear n0_; clear hb hbox hg) | ((with_reducible refine gate_dst (N := 3) rfl ?_); refine box_event ?hg (N := 3) ?hd (cs := #[.int .i64 a1_0, .slice A1_1 l1_1.length c1_1]) (t := 26) ?hr ?_; (case hd => rfl); (case hg => rfl); (case hr => first | (go_simp; done) | (go_simp; rfl)); intro gb342 hg w6 hbox hb; have n0_ := Aside0.mk (blk_below (g := gb341) blk_c hb); have n1_ := Aside0.mk (below_step below_a hb); have BK342 := Aside0.mk (hbox); have GW342 := Aside0.mk (bsz_ (w := w) hg); have GE342 := Aside0.mk (bsz_ (w := w) hg); have NB341_342 := Aside0.mk (bne_ (g := gb341) hg); have NB342_341 := Aside0.mk (bne_ (g := gb341) hg).symm; replace BK341 := n0_; replace HB := n1_; clear n0_ n1_; clear hb hbox hg; have hnb7 := NB341_342.out; have hnc7 := NB342_341.out; obtain ⟨hcz8_0, hcz8_1, hfz8_0, hfz8_1⟩ := bc2_ BK341.out; obtain ⟨hcz9_0, hcz9_1, hfz9_0, hfz9_1⟩ := bc2_ BK342.out) | (go_at_call 51; (with_reducible refine (slices_Equal_int64_int64.calls k _ _ l0_1 _ _ l1_1 t343 _ ?side1 ?side2 ?side3 ?side4 A4.out).mono ?_); (case side1 => repeat (first | exact (Kd.C_below HR0_1.out HB.out) | (with_reducible refine Kd.C_alloc ?_ _) | (with_reducible refine Kd.C_drewN ?_ _) | (with_reducible refine Kd.C_drew ?_))); (case side2 => exact HC0_1.out); (case side3 => repeat (first | exact (Kd.C_below HR1_1.out HB.out) | (with_reducible refine Kd.C_alloc ?_ _) | (with_reducible refine Kd.C_drewN ?_ _) | (with_reducible refine Kd.C_drew ?_))); (case side4 => exact HC1_1.out); rintro e w' ⟨rfl, ⟨nd, rfl⟩⟩))
  go_ret
  exact ⟨eq_a, below_a⟩
 ·
  rw [if_neg c3] at H; have c3b0 : (a0_0 == a1_0) = false := beq_eq_false_iff_ne.mpr c3; have c3b1 : (a0_0 != a1_0) = true := bne_iff_ne.mpr c3; obtain rfl := Option.some.inj H
  go_enter Try.func18, Try.ntmps18
  go_wp2_with (first | ((with_reducible refine gate_dst (N := 2) rfl ?_); refine box_event ?hg (N := 2) ?hd (cs := #[.int .i64 a0_0, .slice A0_1 l0_1.length c0_1]) (t := 26) ?hr ?_; (case hd => rfl); (case hg => rfl); (case hr => first | (go_simp; done) | (go_simp; rfl)); intro gb341 hg w10 hbox hb; have n0_ := Aside0.mk (below_step below_a hb); have BK341 := Aside0.mk (hbox); have GW341 := Aside0.mk (bsz_ (w := w) hg); have GE341 := Aside0.mk (bsz_ (w := w) hg); replace HB := n0_; clear n0_; clear hb hbox hg) | ((with_reducible refine gate_dst (N := 3) rfl ?_); refine box_event ?hg (N := 3) ?hd (cs := #[.int .i64 a1_0, .slice A1_1 l1_1.length c1_1]) (t := 26) ?hr ?_; (case hd => rfl); (case hg => rfl); (case hr => first | (go_simp; done) | (go_simp; rfl)); intro gb342 hg w11 hbox hb; have n0_ := Aside0.mk (blk_below (g := gb341) blk_c hb); have n1_ := Aside0.mk (below_step below_a hb); have BK342 := Aside0.mk (hbox); have GW342 := Aside0.mk (bsz_ (w := w) hg); have GE342 := Aside0.mk (bsz_ (w := w) hg); have NB341_342 := Aside0.mk (bne_ (g := gb341) hg); have NB342_341 := Aside0.mk (bne_ (g := gb341) hg).symm; replace BK341 := n0_; replace HB := n1_; clear n0_ n1_; clear hb hbox hg; have hnb12 := NB341_342.out; have hnc12 := NB342_341.out; obtain ⟨hcz13_0, hcz13_1, hfz13_0, hfz13_1⟩ := bc2_ BK341.out; obtain ⟨hcz14_0, hcz14_1, hfz14_0, hfz14_1⟩ := bc2_ BK342.out))
  go_ret
  exact ⟨eq_a, below_a⟩

end Go.Proofs.Ytbnibakamdhpdaa.MFnWindows
