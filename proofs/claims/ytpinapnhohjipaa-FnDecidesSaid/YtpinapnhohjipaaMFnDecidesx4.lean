-- Laid by a program of this session (the kit's print, turned where it falls short; the texts of functions that it does not take are proved by hand).
import Derived.Test.YtpinapnhohjipaaMFnDecidesx0
import Derived.Test.YtpinapnhohjipaaMFnDecidesx3
namespace Go.Proofs.Ytpinapnhohjipaa.MFnDecides
open Go.RowKit Go.Proofs.YtpinapnhohjipaaW.PrintWords Go.Proofs.YtpinapnhohjipaaW.PrintLast Go.Proofs.YtpinapnhohjipaaW.PrintMore
attribute [local go_sem] max2_int min2_int max_two min_two max_three min_three max_four min_four   -- for this text's walks alone
set_option linter.unusedVariables false
set_option linter.unusedSimpArgs false

attribute [local go_sem] isSome_setCell
/-! ### spec_DrawRefuteBy: function 35 -/
def spec_DrawRefuteBy.j0 : Nat → List Int → List Int → Int → Int → Int → Int → Int → Int → Int → Int → Int → Option (Int × Int × Int × Int × Int × Int × Int × Int)
 | 0, _, _, _, _, _, _, _, _, _, _, _ => none
 | k + 1, x0, x180000, x180001, x186000, x186001, x186002, x186003, x192000, x192001, x192002, x192003 => (spec_l1Chance.f x180000 x180001 9).bind fun bt194 => (if bt194.1 = true then ((spec_DrawClaimFault.f x0).bind fun bt196 => (some (bt196.1, bt196.2.1, bt196.2.2.1, bt196.2.2.2, x192000, x192001, x192002, x192003))) else (some (x186000, x186001, x186002, x186003, x192000, x192001, x192002, x192003)))
def spec_DrawRefuteBy.f (k : Nat) (l0 : List Int) : Option (Int × Int × Int × Int × Int × Int × Int × Int) := (spec_l1Source.f l0).bind fun bt177 => ((spec_l7Claim.f bt177.1 bt177.2).bind fun bt180 => ((spec_l7Claim.f bt177.1 bt180.2.2.2.2).bind fun bt186 => ((spec_l1Chance.f bt177.1 bt186.2.2.2.2 4).bind fun bt192 => (if bt192.1 = true then (spec_DrawRefuteBy.j0 k l0 bt177.1 bt192.2 bt180.1 bt180.2.1 bt180.2.2.1 bt180.2.2.2.1 bt186.1 bt186.2.1 bt186.2.2.1 bt186.2.2.2.1) else (spec_DrawRefuteBy.j0 k l0 bt177.1 bt192.2 bt180.1 bt180.2.1 bt180.2.2.1 bt180.2.2.2.1 bt180.1 bt186.2.1 bt186.2.2.1 bt186.2.2.2.1)))))
theorem spec_DrawRefuteBy.mono_l : ∀ k, (∀ y0 y1 y2 y3 y4 y5 y6 y7 y8 y9 y10, LeO (spec_DrawRefuteBy.j0 k y0 y1 y2 y3 y4 y5 y6 y7 y8 y9 y10) (spec_DrawRefuteBy.j0 (k + 1) y0 y1 y2 y3 y4 y5 y6 y7 y8 y9 y10))
 | 0 => fun _ _ _ _ _ _ _ _ _ _ _ r h => by simp [spec_DrawRefuteBy.j0] at h
 | k + 1 => by
  have ih0 := spec_DrawRefuteBy.mono_l k
  ·
   intro y0 y1 y2 y3 y4 y5 y6 y7 y8 y9 y10
   unfold spec_DrawRefuteBy.j0
   repeat' first
   | (with_reducible exact ih0 _ _ _ _ _ _ _ _ _ _ _)
   | (with_reducible exact LeO.refl _)
   | (with_reducible exact LeO.none _)
   | (with_reducible refine LeO.ite ?_ ?_)
   | (with_reducible refine LeO.bind ?_ (fun _ => ?_))
   | exact ih0 _ _ _ _ _ _ _ _ _ _ _
   | exact LeO.none _
   | refine LeO.ite ?_ ?_
   | refine LeO.bind ?_ (fun _ => ?_)
theorem spec_DrawRefuteBy.mono : ∀ a0 k, LeO (spec_DrawRefuteBy.f k a0) (spec_DrawRefuteBy.f (k + 1) a0) := by
 intro a0 k
 have ih0 := spec_DrawRefuteBy.mono_l k
 unfold spec_DrawRefuteBy.f
 repeat' first
   | (with_reducible exact ih0 _ _ _ _ _ _ _ _ _ _ _)
   | (with_reducible exact LeO.refl _)
   | (with_reducible exact LeO.none _)
   | (with_reducible refine LeO.ite ?_ ?_)
   | (with_reducible refine LeO.bind ?_ (fun _ => ?_))
   | exact ih0 _ _ _ _ _ _ _ _ _ _ _
   | exact LeO.none _
   | refine LeO.ite ?_ ?_
   | refine LeO.bind ?_ (fun _ => ?_)
set_option maxHeartbeats 8000000 in
set_option maxRecDepth 100000 in
theorem spec_DrawRefuteBy.calls (k : Nat) (A0 : Option Addr) (c0 : Nat) (l0 : List Int) (r1 : Int) (r2 : Int) (r3 : Int) (r4 : Int) (r5 : Int) (r6 : Int) (r7 : Int) (r8 : Int) (w : World) (hr0 : Kd.C (Kd.int .u8) w A0 l0.length l0) (hc0 : l0.length ≤ c0) (h : spec_DrawRefuteBy.f k l0 = some (r1, r2, r3, r4, r5, r6, r7, r8)) :
  Calls Try.prog 35 #[.slice A0 l0.length c0] w fun e w' => e = .returned (.tuple #[.agg #[.int .i64 r1, .int .i64 r2, .int .i64 r3, .int .i64 r4], .agg #[.int .i64 r5, .int .i64 r6, .int .i64 r7, .int .i64 r8]]) ∧ Below w.heap.size w w' := by
 have hu51 := Try.underlying51
 have HR0 := Aside0.mk hr0
 have HC0 := Aside0.mk hc0
 clear hr0 hc0
 have HB := Aside0.mk (Below.refl w.heap.size w)
 have H : ((spec_l1Source.f l0).bind fun bt177 => ((spec_l7Claim.f bt177.1 bt177.2).bind fun bt180 => ((spec_l7Claim.f bt177.1 bt180.2.2.2.2).bind fun bt186 => ((spec_l1Chance.f bt177.1 bt186.2.2.2.2 4).bind fun bt192 => (if bt192.1 = true then (spec_DrawRefuteBy.j0 k l0 bt177.1 bt192.2 bt180.1 bt180.2.1 bt180.2.2.1 bt180.2.2.2.1 bt186.1 bt186.2.1 bt186.2.2.1 bt186.2.2.2.1) else (spec_DrawRefuteBy.j0 k l0 bt177.1 bt192.2 bt180.1 bt180.2.1 bt180.2.2.1 bt180.2.2.2.1 bt180.1 bt186.2.1 bt186.2.2.1 bt186.2.2.2.1)))))) = some (r1, r2, r3, r4, r5, r6, r7, r8) := h
 clear h
 replace H := Option.bind_eq_some_iff.mp H
 obtain ⟨⟨t177, t178⟩, A20, H⟩ := H
 replace H : ((spec_l7Claim.f t177 t178).bind fun bt180 => ((spec_l7Claim.f t177 bt180.2.2.2.2).bind fun bt186 => ((spec_l1Chance.f t177 bt186.2.2.2.2 4).bind fun bt192 => (if bt192.1 = true then (spec_DrawRefuteBy.j0 k l0 t177 bt192.2 bt180.1 bt180.2.1 bt180.2.2.1 bt180.2.2.2.1 bt186.1 bt186.2.1 bt186.2.2.1 bt186.2.2.2.1) else (spec_DrawRefuteBy.j0 k l0 t177 bt192.2 bt180.1 bt180.2.1 bt180.2.2.1 bt180.2.2.2.1 bt180.1 bt186.2.1 bt186.2.2.1 bt186.2.2.2.1))))) = some (r1, r2, r3, r4, r5, r6, r7, r8) := H
 have A2 := Aside0.mk A20
 clear A20
 replace H := Option.bind_eq_some_iff.mp H
 obtain ⟨⟨t180, t181, t182, t183, t184⟩, A30, H⟩ := H
 replace H : ((spec_l7Claim.f t177 t184).bind fun bt186 => ((spec_l1Chance.f t177 bt186.2.2.2.2 4).bind fun bt192 => (if bt192.1 = true then (spec_DrawRefuteBy.j0 k l0 t177 bt192.2 t180 t181 t182 t183 bt186.1 bt186.2.1 bt186.2.2.1 bt186.2.2.2.1) else (spec_DrawRefuteBy.j0 k l0 t177 bt192.2 t180 t181 t182 t183 t180 bt186.2.1 bt186.2.2.1 bt186.2.2.2.1)))) = some (r1, r2, r3, r4, r5, r6, r7, r8) := H
 have A3 := Aside0.mk A30
 clear A30
 replace H := Option.bind_eq_some_iff.mp H
 obtain ⟨⟨t186, t187, t188, t189, t190⟩, A40, H⟩ := H
 replace H : ((spec_l1Chance.f t177 t190 4).bind fun bt192 => (if bt192.1 = true then (spec_DrawRefuteBy.j0 k l0 t177 bt192.2 t180 t181 t182 t183 t186 t187 t188 t189) else (spec_DrawRefuteBy.j0 k l0 t177 bt192.2 t180 t181 t182 t183 t180 t187 t188 t189))) = some (r1, r2, r3, r4, r5, r6, r7, r8) := H
 have A4 := Aside0.mk A40
 clear A40
 replace H := Option.bind_eq_some_iff.mp H
 obtain ⟨⟨t192, t193⟩, A50, H⟩ := H
 replace H : (if t192 = true then (spec_DrawRefuteBy.j0 k l0 t177 t193 t180 t181 t182 t183 t186 t187 t188 t189) else (spec_DrawRefuteBy.j0 k l0 t177 t193 t180 t181 t182 t183 t180 t187 t188 t189)) = some (r1, r2, r3, r4, r5, r6, r7, r8) := H
 have A5 := Aside0.mk A50
 clear A50
 have HC6 := Aside0.mk H
 clear H
 go_enter Try.func35, Try.ntmps35
 go_upto_if 15 with (first | ((with_reducible refine gate_dst (N := 2) rfl ?_); refine box_event ?hg (N := 2) ?hd (cs := #[.int .i64 0, .int .i64 0, .int .i64 0, .int .i64 0]) (t := 51) ?hr ?_; (case hd => rfl); (case hg => rfl); (case hr => first | (go_simp; done) | (go_simp; rfl)); intro gb175 hg w7 hbox hb; have n0_ := Aside0.mk (below_step below_a hb); have BK175 := Aside0.mk (hbox); have GW175 := Aside0.mk (bsz_ (w := w) hg); have GE175 := Aside0.mk (bsz_ (w := w) hg); replace HB := n0_; clear n0_; clear hb hbox hg) | ((with_reducible refine gate_dst (N := 3) rfl ?_); refine box_event ?hg (N := 3) ?hd (cs := #[.int .i64 0, .int .i64 0, .int .i64 0, .int .i64 0]) (t := 51) ?hr ?_; (case hd => rfl); (case hg => rfl); (case hr => first | (go_simp; done) | (go_simp; rfl)); intro gb176 hg w8 hbox hb; have n0_ := Aside0.mk (blk_below (g := gb175) blk_c hb); have n1_ := Aside0.mk (below_step below_a hb); have BK176 := Aside0.mk (hbox); have GW176 := Aside0.mk (bsz_ (w := w) hg); have GE176 := Aside0.mk (bsz_ (w := w) hg); have NB175_176 := Aside0.mk (bne_ (g := gb175) hg); have NB176_175 := Aside0.mk (bne_ (g := gb175) hg).symm; replace BK175 := n0_; replace HB := n1_; clear n0_ n1_; clear hb hbox hg) | ((with_reducible refine gate_callee (f := 46) rfl ?_); refine goesL_ (some 8) rfl rfl Try.func46 (by kernel_rfl) rfl #[.slice A0 l0.length c0] rfl args_a ?_; (with_reducible refine (spec_l1Source.calls _ _ l0 t177 t178 w _ ?side1 ?side2 ?side3 A2.out).mono ?_); (case side1 => exact below_a); (case side2 => exact HR0.out); (case side3 => exact HC0.out); rintro e w9 ⟨g179, rfl, hi, hb, hb2⟩; refine ⟨_, rfl, ?_⟩; have n0_ := Aside0.mk (blk_below (g := gb175) blk_c hb2); have n1_ := Aside0.mk (blk_below (g := gb176) blk_c hb2); replace HB := Aside0.mk (hb); have HI179 := Aside0.mk (hi); have NB179_175 := Aside0.mk (IsS99.ne_blk hi (blk_below (g := gb175) blk_c hb2) (by decide)); have NB175_179 := Aside0.mk (Ne.symm (IsS99.ne_blk hi (blk_below (g := gb175) blk_c hb2) (by decide))); have NB179_176 := Aside0.mk (IsS99.ne_blk hi (blk_below (g := gb176) blk_c hb2) (by decide)); have NB176_179 := Aside0.mk (Ne.symm (IsS99.ne_blk hi (blk_below (g := gb176) blk_c hb2) (by decide))); replace BK175 := n0_; replace BK176 := n1_; clear n0_ n1_; (try clear hb); (try clear hb2); (try clear hk); (try clear hi)) | ((with_reducible refine gate_callee (f := 72) rfl ?_); refine goesL_ (some 10) rfl rfl Try.func72 (by kernel_rfl) rfl #[.pointer (some ⟨g179, 0, none⟩)] rfl args_a ?_; (with_reducible refine (spec_l7Claim.calls g179 t177 t178 t180 t181 t182 t183 t184 w _ ?side1 ?side2 A3.out).mono ?_); (case side1 => exact IsS99.a); (case side2 => repeat (first | (with_reducible first | exact HB.out | apply below_alloc | apply pw_below_drewN | apply below_drew1 | refine below_set ?_ (IsS99.ge HI179.out) | refine below_set ?_ GE175.out | refine below_set ?_ GE176.out) | exact HB.out)); rintro e w10 ⟨rfl, hi, hb, hk⟩; refine ⟨_, rfl, ?_⟩; have n0_ := Aside0.mk (KeepBut.blk hk (g' := gb175) blk_c NB175_179.out (by simp)); replace BK176 := Aside0.mk (KeepBut.blk hk (g' := gb176) blk_c NB176_179.out (by simp)); replace HB := Aside0.mk (hb); replace HI179 := Aside0.mk (hi); replace BK175 := n0_; clear n0_; (try clear hb); (try clear hb2); (try clear hk); (try clear hi)) | ((with_reducible refine gate_dst (N := 5) rfl ?_); refine box_event ?hg (N := 5) ?hd (cs := #[.int .i64 0, .int .i64 0, .int .i64 0, .int .i64 0]) (t := 51) ?hr ?_; (case hd => rfl); (case hg => rfl); (case hr => first | (go_simp; done) | (go_simp; rfl)); intro gb185 hg w11 hbox hb; have n0_ := Aside0.mk (blk_below (g := gb175) blk_c hb); have n1_ := Aside0.mk (blk_below (g := gb176) blk_c hb); have n2_ := Aside0.mk (IsS99.below (IsS99.a) hb); have n3_ := Aside0.mk (below_step (by repeat (first | (with_reducible first | exact HB.out | apply below_alloc | apply pw_below_drewN | apply below_drew1 | refine below_set ?_ (IsS99.ge HI179.out) | refine below_set ?_ GE175.out | refine below_set ?_ GE176.out) | exact HB.out)) hb); have BK185 := Aside0.mk (hbox); have GW185 := Aside0.mk ((by rw [hg]; exact (below_size (by repeat (first | (with_reducible first | exact HB.out | apply below_alloc | apply pw_below_drewN | apply below_drew1 | refine below_set ?_ (IsS99.ge HI179.out) | refine below_set ?_ GE175.out | refine below_set ?_ GE176.out) | exact HB.out))) : w.heap.size ≤ gb185)); have GE185 := Aside0.mk ((by rw [hg]; exact (below_size (by repeat (first | (with_reducible first | exact HB.out | apply below_alloc | apply pw_below_drewN | apply below_drew1 | refine below_set ?_ (IsS99.ge HI179.out) | refine below_set ?_ GE175.out | refine below_set ?_ GE176.out) | exact HB.out))) : w.heap.size ≤ gb185)); have NB175_185 := Aside0.mk (bne_ (g := gb175) hg); have NB185_175 := Aside0.mk (bne_ (g := gb175) hg).symm; have NB176_185 := Aside0.mk (bne_ (g := gb176) hg); have NB185_176 := Aside0.mk (bne_ (g := gb176) hg).symm; have NB179_185 := Aside0.mk ((by rw [hg]; exact Nat.ne_of_lt (IsS99.lt (show IsS99 w _ g179 t177 t184 from IsS99.a)) : g179 ≠ gb185)); have NB185_179 := Aside0.mk ((by rw [hg]; exact Nat.ne_of_gt (IsS99.lt (show IsS99 w _ g179 t177 t184 from IsS99.a)) : gb185 ≠ g179)); replace BK175 := n0_; replace BK176 := n1_; replace HI179 := n2_; replace HB := n3_; clear n0_ n1_ n2_ n3_; clear hb hbox hg; have hnb12 := NB185_175.out; have hnc12 := NB175_185.out; have hnb13 := NB185_176.out; have hnc13 := NB176_185.out; have hnb14 := NB185_179.out; have hnc14 := NB179_185.out; obtain ⟨hcz15_0, hcz15_1, hcz15_2, hcz15_3, hfz15_0, hfz15_1, hfz15_2, hfz15_3⟩ := bc4_ BK185.out) | ((with_reducible refine gate_callee (f := 72) rfl ?_); refine goesL_ (some 12) rfl rfl Try.func72 (by kernel_rfl) rfl #[.pointer (some ⟨g179, 0, none⟩)] rfl args_a ?_; (with_reducible refine (spec_l7Claim.calls g179 t177 t184 t186 t187 t188 t189 t190 w _ ?side1 ?side2 A4.out).mono ?_); (case side1 => exact IsS99.a); (case side2 => repeat (first | (with_reducible first | exact HB.out | apply below_alloc | apply pw_below_drewN | apply below_drew1 | refine below_set ?_ (IsS99.ge HI179.out) | refine below_set ?_ GE175.out | refine below_set ?_ GE176.out | refine below_set ?_ GE185.out) | exact HB.out)); rintro e w16 ⟨rfl, hi, hb, hk⟩; refine ⟨_, rfl, ?_⟩; have n0_ := Aside0.mk (KeepBut.blk hk (g' := gb175) blk_c NB175_179.out (by simp)); have n1_ := Aside0.mk (KeepBut.blk hk (g' := gb176) blk_c NB176_179.out (by simp)); replace BK185 := Aside0.mk (KeepBut.blk hk (g' := gb185) (o := .cells #[.int .i64 t180, .int .i64 t181, .int .i64 t182, .int .i64 t183] 51 (0, 0)) blk_a NB185_179.out (by simp)); replace HB := Aside0.mk (hb); replace HI179 := Aside0.mk (hi); replace BK175 := n0_; replace BK176 := n1_; clear n0_ n1_; (try clear hb); (try clear hb2); (try clear hk); (try clear hi)) | ((with_reducible refine gate_dst (N := 6) rfl ?_); refine box_event ?hg (N := 6) ?hd (cs := #[.int .i64 0, .int .i64 0, .int .i64 0, .int .i64 0]) (t := 51) ?hr ?_; (case hd => rfl); (case hg => rfl); (case hr => first | (go_simp; done) | (go_simp; rfl)); intro gb191 hg w17 hbox hb; have n0_ := Aside0.mk (blk_below (g := gb175) blk_c hb); have n1_ := Aside0.mk (blk_below (g := gb176) blk_c hb); have n2_ := Aside0.mk (IsS99.below (IsS99.a) hb); have n3_ := Aside0.mk (blk_below (g := gb185) blk_c hb); have n4_ := Aside0.mk (below_step (by repeat (first | (with_reducible first | exact HB.out | apply below_alloc | apply pw_below_drewN | apply below_drew1 | refine below_set ?_ (IsS99.ge HI179.out) | refine below_set ?_ GE175.out | refine below_set ?_ GE176.out | refine below_set ?_ GE185.out) | exact HB.out)) hb); have BK191 := Aside0.mk (hbox); have GW191 := Aside0.mk ((by rw [hg]; exact (below_size (by repeat (first | (with_reducible first | exact HB.out | apply below_alloc | apply pw_below_drewN | apply below_drew1 | refine below_set ?_ (IsS99.ge HI179.out) | refine below_set ?_ GE175.out | refine below_set ?_ GE176.out | refine below_set ?_ GE185.out) | exact HB.out))) : w.heap.size ≤ gb191)); have GE191 := Aside0.mk ((by rw [hg]; exact (below_size (by repeat (first | (with_reducible first | exact HB.out | apply below_alloc | apply pw_below_drewN | apply below_drew1 | refine below_set ?_ (IsS99.ge HI179.out) | refine below_set ?_ GE175.out | refine below_set ?_ GE176.out | refine below_set ?_ GE185.out) | exact HB.out))) : w.heap.size ≤ gb191)); have NB175_191 := Aside0.mk (bne_ (g := gb175) hg); have NB191_175 := Aside0.mk (bne_ (g := gb175) hg).symm; have NB176_191 := Aside0.mk (bne_ (g := gb176) hg); have NB191_176 := Aside0.mk (bne_ (g := gb176) hg).symm; have NB185_191 := Aside0.mk (bne_ (g := gb185) hg); have NB191_185 := Aside0.mk (bne_ (g := gb185) hg).symm; have NB179_191 := Aside0.mk ((by rw [hg]; exact Nat.ne_of_lt (IsS99.lt (show IsS99 w _ g179 t177 t190 from IsS99.a)) : g179 ≠ gb191)); have NB191_179 := Aside0.mk ((by rw [hg]; exact Nat.ne_of_gt (IsS99.lt (show IsS99 w _ g179 t177 t190 from IsS99.a)) : gb191 ≠ g179)); replace BK175 := n0_; replace BK176 := n1_; replace HI179 := n2_; replace BK185 := n3_; replace HB := n4_; clear n0_ n1_ n2_ n3_ n4_; clear hb hbox hg; have hnb18 := NB191_175.out; have hnc18 := NB175_191.out; have hnb19 := NB191_176.out; have hnc19 := NB176_191.out; have hnb20 := NB191_185.out; have hnc20 := NB185_191.out; have hnb21 := NB191_179.out; have hnc21 := NB179_191.out; obtain ⟨hcz22_0, hcz22_1, hcz22_2, hcz22_3, hfz22_0, hfz22_1, hfz22_2, hfz22_3⟩ := bc4_ BK191.out) | ((with_reducible refine gate_callee (f := 49) rfl ?_); refine goesL_ (some 14) rfl rfl Try.func49 (by kernel_rfl) rfl #[.pointer (some ⟨g179, 0, none⟩), .int .i64 4] rfl args_a ?_; (with_reducible refine (spec_l1Chance.calls g179 t177 t190 4 t192 t193 w _ ?side1 ?side2 A5.out).mono ?_); (case side1 => exact IsS99.a); (case side2 => repeat (first | (with_reducible first | exact HB.out | apply below_alloc | apply pw_below_drewN | apply below_drew1 | refine below_set ?_ (IsS99.ge HI179.out) | refine below_set ?_ GE175.out | refine below_set ?_ GE176.out | refine below_set ?_ GE185.out | refine below_set ?_ GE191.out) | exact HB.out)); rintro e w23 ⟨rfl, hi, hb, hk⟩; refine ⟨_, rfl, ?_⟩; have n0_ := Aside0.mk (KeepBut.blk hk (g' := gb175) blk_c NB175_179.out (by simp)); have n1_ := Aside0.mk (KeepBut.blk hk (g' := gb176) blk_c NB176_179.out (by simp)); have n2_ := Aside0.mk (KeepBut.blk hk (g' := gb185) blk_c NB185_179.out (by simp)); replace BK191 := Aside0.mk (KeepBut.blk hk (g' := gb191) (o := .cells #[.int .i64 t186, .int .i64 t187, .int .i64 t188, .int .i64 t189] 51 (0, 0)) blk_a NB191_179.out (by simp)); replace HB := Aside0.mk (hb); replace HI179 := Aside0.mk (hi); replace BK175 := n0_; replace BK176 := n1_; replace BK185 := n2_; clear n0_ n1_ n2_; (try clear hb); (try clear hb2); (try clear hk); (try clear hi)))
 (try simp only [Act.put, List.setIfInBounds_toArray, List.set_cons_zero, List.set_cons_succ])
 go_cut [] (fun wc => ∃ (kq : Nat) (x192000_5 : Int), Aside0 (spec_DrawRefuteBy.j0 kq l0 t177 t193 t180 t181 t182 t183 x192000_5 t187 t188 t189 = some (r1, r2, r3, r4, r5, r6, r7, r8)) ∧ Aside0 (kq ≤ k) ∧ Aside0 (wc.heap[gb175]? = some (.cells #[.int .i64 0, .int .i64 0, .int .i64 0, .int .i64 0] 51 (0, 0))) ∧ Aside0 (wc.heap[gb176]? = some (.cells #[.int .i64 0, .int .i64 0, .int .i64 0, .int .i64 0] 51 (0, 0))) ∧ Aside0 (wc.heap[gb185]? = some (.cells #[.int .i64 t180, .int .i64 t181, .int .i64 t182, .int .i64 t183] 51 (0, 0))) ∧ Aside0 (wc.heap[gb191]? = some (.cells #[.int .i64 x192000_5, .int .i64 t187, .int .i64 t188, .int .i64 t189] 51 (0, 0))) ∧ Aside0 (IsS99 w wc g179 t177 t193) ∧ Aside0 (Below w.heap.size w wc))
 case first =>
  have H := HC6.out; clear HC6
  by_cases c24 : t192 = true
  ·
   subst c24; have H1 : (spec_DrawRefuteBy.j0 k l0 t177 t193 t180 t181 t182 t183 t186 t187 t188 t189) = some (r1, r2, r3, r4, r5, r6, r7, r8) := by rw [if_pos rfl] at H; exact H
   clear H; have H := H1; clear H1; have H' := Aside0.mk H; clear H
   go_wp2
   go_meet
   case rel => exact ⟨_, (t186), H', ⟨by first | omega | exact Nat.le_refl _⟩, ⟨blk_a⟩, ⟨blk_a⟩, ⟨blk_a⟩, ⟨blk_a⟩, ⟨IsS99.a⟩, ⟨by repeat (first | (with_reducible first | exact HB.out | apply below_alloc | apply pw_below_drewN | apply below_drew1 | refine below_set ?_ (IsS99.ge HI179.out) | refine below_set ?_ GE175.out | refine below_set ?_ GE176.out | refine below_set ?_ GE185.out | refine below_set ?_ GE191.out) | exact HB.out)⟩⟩
  ·
   replace c24 := Bool.eq_false_iff.mpr c24; subst c24; have H1 : (spec_DrawRefuteBy.j0 k l0 t177 t193 t180 t181 t182 t183 t180 t187 t188 t189) = some (r1, r2, r3, r4, r5, r6, r7, r8) := by rw [if_neg (show ¬ (false = true) by decide)] at H; exact H
   clear H; have H := H1; clear H1; have H' := Aside0.mk H; clear H; have hnb25 := NB185_175.out; have hnc25 := NB175_185.out; have hnb26 := NB185_176.out; have hnc26 := NB176_185.out; have hnb27 := NB185_191.out; have hnc27 := NB191_185.out; have hnb28 := NB185_179.out; have hnc28 := NB179_185.out; obtain ⟨hcz29_0, hcz29_1, hcz29_2, hcz29_3, hfz29_0, hfz29_1, hfz29_2, hfz29_3⟩ := bc4_ BK185.out; have hnb30 := NB191_175.out; have hnc30 := NB175_191.out; have hnb31 := NB191_176.out; have hnc31 := NB176_191.out; have hnb32 := NB191_179.out; have hnc32 := NB179_191.out; obtain ⟨hcz33_0, hcz33_1, hcz33_2, hcz33_3, hfz33_0, hfz33_1, hfz33_2, hfz33_3⟩ := bc4_ BK191.out
   go_wp2
   go_meet
   case rel => exact ⟨_, (t180), H', ⟨by first | omega | exact Nat.le_refl _⟩, ⟨blk_a⟩, ⟨blk_a⟩, ⟨blk_a⟩, ⟨blk_a⟩, ⟨IsS99.a⟩, ⟨by repeat (first | (with_reducible first | exact HB.out | apply below_alloc | apply pw_below_drewN | apply below_drew1 | refine below_set ?_ (IsS99.ge HI179.out) | refine below_set ?_ GE175.out | refine below_set ?_ GE176.out | refine below_set ?_ GE185.out | refine below_set ?_ GE191.out) | exact HB.out)⟩⟩
 case rest =>
  clear HC6
  try clear c1
  try clear c2
  try clear p2
  try clear c3
  try clear c4
  try clear c7
  try clear c12
  try clear c13
  try clear c14
  try clear c18
  try clear c19
  try clear c20
  try clear c21
  try clear c24
  try clear c25
  try clear c26
  try clear c27
  try clear c28
  try clear c30
  try clear c31
  try clear c32
  try clear hcz15_0 hcz15_1 hcz15_2 hcz15_3
  try clear hcz22_0 hcz22_1 hcz22_2 hcz22_3
  try clear hcz29_0 hcz29_1 hcz29_2 hcz29_3
  try clear hcz33_0 hcz33_1 hcz33_2 hcz33_3
  try clear hfz15_0 hfz15_1 hfz15_2 hfz15_3
  try clear hfz22_0 hfz22_1 hfz22_2 hfz22_3
  try clear hfz29_0 hfz29_1 hfz29_2 hfz29_3
  try clear hfz33_0 hfz33_1 hfz33_2 hfz33_3
  obtain ⟨kq, x192000_5, HA, HJ5, BK175, BK176, BK185, BK191, HI179, HB⟩ := hcut
  cases kq with
  | zero => exact absurd HA.out (by simp [spec_DrawRefuteBy.j0])
  | succ kj5 =>
   have H := HA.out; clear HA; simp only [spec_DrawRefuteBy.j0] at H; replace H := Option.bind_eq_some_iff.mp H; obtain ⟨⟨t194, t195⟩, A340, H⟩ := H; replace H : (if t194 = true then ((spec_DrawClaimFault.f l0).bind fun bt196 => (some (bt196.1, bt196.2.1, bt196.2.2.1, bt196.2.2.2, x192000_5, t187, t188, t189))) else (some (t180, t181, t182, t183, x192000_5, t187, t188, t189))) = some (r1, r2, r3, r4, r5, r6, r7, r8) := H; have A34 := Aside0.mk A340; clear A340
   by_cases c35 : t194 = true
   ·
    subst c35; have H1 : ((spec_DrawClaimFault.f l0).bind fun bt196 => (some (bt196.1, bt196.2.1, bt196.2.2.1, bt196.2.2.2, x192000_5, t187, t188, t189))) = some (r1, r2, r3, r4, r5, r6, r7, r8) := by rw [if_pos rfl] at H; exact H
    clear H; have H := H1; clear H1; replace H := Option.bind_eq_some_iff.mp H; obtain ⟨⟨t196, t197, t198, t199⟩, A360, H⟩ := H; replace H : (some (t196, t197, t198, t199, x192000_5, t187, t188, t189)) = some (r1, r2, r3, r4, r5, r6, r7, r8) := H; have A36 := Aside0.mk A360; clear A360; simp only [Option.some.injEq, Prod.mk.injEq] at H; obtain ⟨rfl, rfl, rfl, rfl, rfl, rfl, rfl, rfl⟩ := H
    try go_wp2_with (first | ((with_reducible refine gate_callee (f := 49) rfl ?_); refine goesL_ (some 20) rfl rfl Try.func49 (by kernel_rfl) rfl #[.pointer (some ⟨g179, 0, none⟩), .int .i64 9] rfl args_a ?_; (with_reducible refine (spec_l1Chance.calls g179 t177 t193 9 true t195 w _ ?side1 ?side2 A34.out).mono ?_); (case side1 => exact IsS99.a); (case side2 => repeat (first | (with_reducible first | exact HB.out | apply below_alloc | apply pw_below_drewN | apply below_drew1 | refine below_set ?_ (IsS99.ge HI179.out) | refine below_set ?_ GE175.out | refine below_set ?_ GE176.out | refine below_set ?_ GE185.out | refine below_set ?_ GE191.out) | exact HB.out)); rintro e w37 ⟨rfl, hi, hb, hk⟩; refine ⟨_, rfl, ?_⟩; have n0_ := Aside0.mk (KeepBut.blk hk (g' := gb175) blk_c NB175_179.out (by simp)); have n1_ := Aside0.mk (KeepBut.blk hk (g' := gb176) blk_c NB176_179.out (by simp)); have n2_ := Aside0.mk (KeepBut.blk hk (g' := gb185) blk_c NB185_179.out (by simp)); replace BK191 := Aside0.mk (KeepBut.blk hk (g' := gb191) blk_c NB191_179.out (by simp)); replace HB := Aside0.mk (hb); replace HI179 := Aside0.mk (hi); replace BK175 := n0_; replace BK176 := n1_; replace BK185 := n2_; clear n0_ n1_ n2_; (try clear hb); (try clear hb2); (try clear hk); (try clear hi)))
    replace BK175 := Aside0.mk (blk_drew BK175.out); replace BK176 := Aside0.mk (blk_drew BK176.out); replace BK185 := Aside0.mk (blk_drew BK185.out); replace BK191 := Aside0.mk (blk_drew BK191.out); replace HI179 := Aside0.mk (IsS99.drew HI179.out); replace HB := Aside0.mk (below_drew1 HB.out); refine start_ (n := 5) (S := fun w' => w'.cell? ⟨gb191, 0, none⟩ = some (.int .i64 x192000_5) ∧ w'.cell? ⟨gb191, 1, none⟩ = some (.int .i64 t187) ∧ w'.cell? ⟨gb191, 2, none⟩ = some (.int .i64 t188) ∧ w'.cell? ⟨gb191, 3, none⟩ = some (.int .i64 t189)) (ds := []) #[Z',Z',Z',Z',Z'] (by kernel_rfl) rfl rfl ⟨(blk_cell BK191.out 0).trans rfl, (blk_cell BK191.out 1).trans rfl, (blk_cell BK191.out 2).trans rfl, (blk_cell BK191.out 3).trans rfl⟩ (fun hHeld => ?_); generalize w37.drew = w38 at BK175 BK176 BK185 BK191 HI179 HB hHeld ⊢; refine pure_ (i := 0) (N := some 21) (v := ?_) (a' := ?_) #[Y',Z',Z',Z',Z'] rfl rfl (by kernel_rfl) (fun _ _ _ h => h) (Or.inl ⟨by rfl, ?_⟩) ?_ ?_; rotate_left
    ·
     intro w'
     go_simp
     with_reducible rfl
    rotate_left
    ·
     simp only [Act.put, List.setIfInBounds_toArray, List.set_cons_zero, List.set_cons_succ, i64_w, i32_w]; rfl
    refine take_ (i := 2) (N := some 23) (v := ?_) (a' := ?_) #[Y',Z',Y',Z',Z'] rfl rfl (by kernel_rfl) (fun _ _ _ h => h) (Or.inl ⟨by rfl, ?_⟩) hHeld ?_ ?_; rotate_left
    ·
     rintro w' ⟨s0, s1, s2, s3⟩
     go_simp
     with_reducible rfl
    rotate_left
    ·
     simp only [Act.put, List.setIfInBounds_toArray, List.set_cons_zero, List.set_cons_succ, i64_w, i32_w]; rfl
    refine one_ (i := 1) (N := some 22) #[Y',Y',Y',Z',Z'] rfl rfl (by kernel_rfl) (by decide) (fun K hK => ?_); refine goes_ Try.func73 (by kernel_rfl) rfl #[.slice A0 l0.length c0] (by rfl) rfl rfl args_a ?_
    with_reducible refine (spec_DrawClaimFault.calls _ _ l0 t196 t197 t198 t199 _ ?side1 ?side2 A36.out).mono ?_
    (case side1 => repeat (first | exact (Kd.C_below HR0.out HB.out) | (with_reducible refine Kd.C_alloc ?_ _) | (with_reducible refine Kd.C_drewN ?_ _) | (with_reducible refine Kd.C_drew ?_))); (case side2 => exact HC0.out); rintro e w39 ⟨rfl, hb⟩; refine ⟨_, rfl, ?_⟩; replace BK175 := Aside0.mk (blk_below (g := gb175) blk_c hb); replace BK176 := Aside0.mk (blk_below (g := gb176) blk_c hb); replace BK185 := Aside0.mk (blk_below (g := gb185) blk_c hb); replace BK191 := Aside0.mk (blk_below (g := gb191) blk_c hb); have n4_ := Aside0.mk (IsS99.below (IsS99.a) hb); replace HB := Aside0.mk (below_step (by repeat (first | (with_reducible first | exact HB.out | apply below_alloc | apply pw_below_drewN | apply below_drew1 | refine below_set ?_ (IsS99.ge HI179.out) | refine below_set ?_ GE175.out | refine below_set ?_ GE176.out | refine below_set ?_ GE185.out | refine below_set ?_ GE191.out) | exact HB.out)) hb); replace HI179 := n4_; clear n4_; (try clear hb); (try clear hb2); (try clear hk); (try clear hi); refine hK.out _ _ ⟨(blk_cell BK191.out 0).trans rfl, (blk_cell BK191.out 1).trans rfl, (blk_cell BK191.out 2).trans rfl, (blk_cell BK191.out 3).trans rfl⟩ (fun hHeld => ?_); clear hK K; refine norm_ (a' := ?_) ?_ ?_; rotate_left
    ·
     show Act.put _ (some 22) _ = _; simp only [Act.put, List.setIfInBounds_toArray, List.set_cons_zero, List.set_cons_succ, i64_w, i32_w]; rfl
    refine one_ (i := 3) (N := none) #[Y',Y',Y',Y',Z'] rfl rfl (by kernel_rfl) (by decide) (fun K hK => ?_); have hs40 : w39.cell? ⟨gb175, 0, none⟩ = some (.int .i64 0) := (blk_cell BK175.out 0).trans rfl; have hfs40 := blk_frozen BK175.out 0; have hns40_1 := NB176_175.out; have hns40_2 := NB185_175.out; have hns40_3 := NB191_175.out; have hms40_1 := NB175_176.out; have hms40_2 := NB175_185.out; have hms40_3 := NB175_191.out; have hs41 : w39.cell? ⟨gb175, 1, none⟩ = some (.int .i64 0) := (blk_cell BK175.out 1).trans rfl; have hfs41 := blk_frozen BK175.out 1; have hns41_1 := NB176_175.out; have hns41_2 := NB185_175.out; have hns41_3 := NB191_175.out; have hms41_1 := NB175_176.out; have hms41_2 := NB175_185.out; have hms41_3 := NB175_191.out; have hs42 : w39.cell? ⟨gb175, 2, none⟩ = some (.int .i64 0) := (blk_cell BK175.out 2).trans rfl; have hfs42 := blk_frozen BK175.out 2; have hns42_1 := NB176_175.out; have hns42_2 := NB185_175.out; have hns42_3 := NB191_175.out; have hms42_1 := NB175_176.out; have hms42_2 := NB175_185.out; have hms42_3 := NB175_191.out; have hs43 : w39.cell? ⟨gb175, 3, none⟩ = some (.int .i64 0) := (blk_cell BK175.out 3).trans rfl; have hfs43 := blk_frozen BK175.out 3; have hns43_1 := NB176_175.out; have hns43_2 := NB185_175.out; have hns43_3 := NB191_175.out; have hms43_1 := NB175_176.out; have hms43_2 := NB175_185.out; have hms43_3 := NB175_191.out; refine skip_ (w1 := ?_) (by rfl) rfl ?_ ?_; rotate_left
    ·
     go_simp
     rfl
    refine hK.out _ _ ⟨((cell_far (p := ⟨gb175, _, none⟩) NB191_175.out _).trans (((cell_far (p := ⟨gb175, _, none⟩) NB191_175.out _).trans (((cell_far (p := ⟨gb175, _, none⟩) NB191_175.out _).trans (((cell_far (p := ⟨gb175, _, none⟩) NB191_175.out _).trans (hHeld.1)))))))), ((cell_far (p := ⟨gb175, _, none⟩) NB191_175.out _).trans (((cell_far (p := ⟨gb175, _, none⟩) NB191_175.out _).trans (((cell_far (p := ⟨gb175, _, none⟩) NB191_175.out _).trans (((cell_far (p := ⟨gb175, _, none⟩) NB191_175.out _).trans (hHeld.2.1)))))))), ((cell_far (p := ⟨gb175, _, none⟩) NB191_175.out _).trans (((cell_far (p := ⟨gb175, _, none⟩) NB191_175.out _).trans (((cell_far (p := ⟨gb175, _, none⟩) NB191_175.out _).trans (((cell_far (p := ⟨gb175, _, none⟩) NB191_175.out _).trans (hHeld.2.2.1)))))))), ((cell_far (p := ⟨gb175, _, none⟩) NB191_175.out _).trans (((cell_far (p := ⟨gb175, _, none⟩) NB191_175.out _).trans (((cell_far (p := ⟨gb175, _, none⟩) NB191_175.out _).trans (((cell_far (p := ⟨gb175, _, none⟩) NB191_175.out _).trans (hHeld.2.2.2))))))))⟩ (fun hHeld => ?_); clear hK K; refine one_ (i := 4) (N := none) #[Y',Y',Y',Y',Y'] rfl rfl (by kernel_rfl) (by decide) (fun K hK => ?_); have hs44 : w39.cell? ⟨gb176, 0, none⟩ = some (.int .i64 0) := (blk_cell BK176.out 0).trans rfl; have hfs44 := blk_frozen BK176.out 0; have hns44_0 := NB175_176.out; have hns44_2 := NB185_176.out; have hns44_3 := NB191_176.out; have hms44_0 := NB176_175.out; have hms44_2 := NB176_185.out; have hms44_3 := NB176_191.out; have hs45 : w39.cell? ⟨gb176, 1, none⟩ = some (.int .i64 0) := (blk_cell BK176.out 1).trans rfl; have hfs45 := blk_frozen BK176.out 1; have hns45_0 := NB175_176.out; have hns45_2 := NB185_176.out; have hns45_3 := NB191_176.out; have hms45_0 := NB176_175.out; have hms45_2 := NB176_185.out; have hms45_3 := NB176_191.out; have hs46 : w39.cell? ⟨gb176, 2, none⟩ = some (.int .i64 0) := (blk_cell BK176.out 2).trans rfl; have hfs46 := blk_frozen BK176.out 2; have hns46_0 := NB175_176.out; have hns46_2 := NB185_176.out; have hns46_3 := NB191_176.out; have hms46_0 := NB176_175.out; have hms46_2 := NB176_185.out; have hms46_3 := NB176_191.out; have hs47 : w39.cell? ⟨gb176, 3, none⟩ = some (.int .i64 0) := (blk_cell BK176.out 3).trans rfl; have hfs47 := blk_frozen BK176.out 3; have hns47_0 := NB175_176.out; have hns47_2 := NB185_176.out; have hns47_3 := NB191_176.out; have hms47_0 := NB176_175.out; have hms47_2 := NB176_185.out; have hms47_3 := NB176_191.out; refine skip_ (w1 := ?_) (by rfl) rfl ?_ ?_; rotate_left
    ·
     go_simp
     rfl
    refine hK.out _ _ ⟨((cell_far (p := ⟨gb176, _, none⟩) NB191_176.out _).trans (((cell_far (p := ⟨gb176, _, none⟩) NB191_176.out _).trans (((cell_far (p := ⟨gb176, _, none⟩) NB191_176.out _).trans (((cell_far (p := ⟨gb176, _, none⟩) NB191_176.out _).trans (hHeld.1)))))))), ((cell_far (p := ⟨gb176, _, none⟩) NB191_176.out _).trans (((cell_far (p := ⟨gb176, _, none⟩) NB191_176.out _).trans (((cell_far (p := ⟨gb176, _, none⟩) NB191_176.out _).trans (((cell_far (p := ⟨gb176, _, none⟩) NB191_176.out _).trans (hHeld.2.1)))))))), ((cell_far (p := ⟨gb176, _, none⟩) NB191_176.out _).trans (((cell_far (p := ⟨gb176, _, none⟩) NB191_176.out _).trans (((cell_far (p := ⟨gb176, _, none⟩) NB191_176.out _).trans (((cell_far (p := ⟨gb176, _, none⟩) NB191_176.out _).trans (hHeld.2.2.1)))))))), ((cell_far (p := ⟨gb176, _, none⟩) NB191_176.out _).trans (((cell_far (p := ⟨gb176, _, none⟩) NB191_176.out _).trans (((cell_far (p := ⟨gb176, _, none⟩) NB191_176.out _).trans (((cell_far (p := ⟨gb176, _, none⟩) NB191_176.out _).trans (hHeld.2.2.2))))))))⟩ (fun hHeld => ?_); clear hK K; refine done_ (by kernel_rfl) ?_
    try go_wp2
    refine bodyPost_ret (results_cc rfl _ _ gb175 gb176 51 51 #[.int .i64 t196, .int .i64 t197, .int .i64 t198, .int .i64 t199] #[.int .i64 x192000_5, .int .i64 t187, .int .i64 t188, .int .i64 t189] (0, 0) (0, 0) _ _ rfl blk_a Try.underlying51 rfl (by kernel_rfl) rfl blk_a Try.underlying51 rfl (by kernel_rfl)) rfl ?_; exact ⟨eq_a, by repeat (first | (with_reducible first | exact HB.out | apply below_alloc | apply pw_below_drewN | apply below_drew1 | refine below_set ?_ (IsS99.ge HI179.out) | refine below_set ?_ GE175.out | refine below_set ?_ GE176.out | refine below_set ?_ GE185.out | refine below_set ?_ GE191.out) | exact HB.out)⟩
   ·
    replace c35 := Bool.eq_false_iff.mpr c35; subst c35; have H1 : (some (t180, t181, t182, t183, x192000_5, t187, t188, t189)) = some (r1, r2, r3, r4, r5, r6, r7, r8) := by rw [if_neg (show ¬ (false = true) by decide)] at H; exact H
    clear H; have H := H1; clear H1; simp only [Option.some.injEq, Prod.mk.injEq] at H; obtain ⟨rfl, rfl, rfl, rfl, rfl, rfl, rfl, rfl⟩ := H
    try go_wp2_with (first | ((with_reducible refine gate_callee (f := 49) rfl ?_); refine goesL_ (some 20) rfl rfl Try.func49 (by kernel_rfl) rfl #[.pointer (some ⟨g179, 0, none⟩), .int .i64 9] rfl args_a ?_; (with_reducible refine (spec_l1Chance.calls g179 t177 t193 9 false t195 w _ ?side1 ?side2 A34.out).mono ?_); (case side1 => exact IsS99.a); (case side2 => repeat (first | (with_reducible first | exact HB.out | apply below_alloc | apply pw_below_drewN | apply below_drew1 | refine below_set ?_ (IsS99.ge HI179.out) | refine below_set ?_ GE175.out | refine below_set ?_ GE176.out | refine below_set ?_ GE185.out | refine below_set ?_ GE191.out) | exact HB.out)); rintro e w48 ⟨rfl, hi, hb, hk⟩; refine ⟨_, rfl, ?_⟩; have n0_ := Aside0.mk (KeepBut.blk hk (g' := gb175) blk_c NB175_179.out (by simp)); have n1_ := Aside0.mk (KeepBut.blk hk (g' := gb176) blk_c NB176_179.out (by simp)); have n2_ := Aside0.mk (KeepBut.blk hk (g' := gb185) blk_c NB185_179.out (by simp)); replace BK191 := Aside0.mk (KeepBut.blk hk (g' := gb191) blk_c NB191_179.out (by simp)); replace HB := Aside0.mk (hb); replace HI179 := Aside0.mk (hi); replace BK175 := n0_; replace BK176 := n1_; replace BK185 := n2_; clear n0_ n1_ n2_; (try clear hb); (try clear hb2); (try clear hk); (try clear hi)))
    replace BK175 := Aside0.mk (blk_drew BK175.out); replace BK176 := Aside0.mk (blk_drew BK176.out); replace BK185 := Aside0.mk (blk_drew BK185.out); replace BK191 := Aside0.mk (blk_drew BK191.out); replace HI179 := Aside0.mk (IsS99.drew HI179.out); replace HB := Aside0.mk (below_drew1 HB.out); refine start_ (n := 4) (S := fun w' => w'.cell? ⟨gb185, 0, none⟩ = some (.int .i64 t180) ∧ w'.cell? ⟨gb185, 1, none⟩ = some (.int .i64 t181) ∧ w'.cell? ⟨gb185, 2, none⟩ = some (.int .i64 t182) ∧ w'.cell? ⟨gb185, 3, none⟩ = some (.int .i64 t183) ∧ w'.cell? ⟨gb191, 0, none⟩ = some (.int .i64 x192000_5) ∧ w'.cell? ⟨gb191, 1, none⟩ = some (.int .i64 t187) ∧ w'.cell? ⟨gb191, 2, none⟩ = some (.int .i64 t188) ∧ w'.cell? ⟨gb191, 3, none⟩ = some (.int .i64 t189)) (ds := []) #[Z',Z',Z',Z'] (by kernel_rfl) rfl rfl ⟨(blk_cell BK185.out 0).trans rfl, (blk_cell BK185.out 1).trans rfl, (blk_cell BK185.out 2).trans rfl, (blk_cell BK185.out 3).trans rfl, (blk_cell BK191.out 0).trans rfl, (blk_cell BK191.out 1).trans rfl, (blk_cell BK191.out 2).trans rfl, (blk_cell BK191.out 3).trans rfl⟩ (fun hHeld => ?_); generalize w48.drew = w49 at BK175 BK176 BK185 BK191 HI179 HB hHeld ⊢; refine take_ (i := 0) (N := some 24) (v := ?_) (a' := ?_) #[Y',Z',Z',Z'] rfl rfl (by kernel_rfl) (fun _ _ _ h => h) (Or.inl ⟨by rfl, ?_⟩) hHeld ?_ ?_; rotate_left
    ·
     rintro w' ⟨s0, s1, s2, s3, s4, s5, s6, s7⟩
     go_simp
     with_reducible rfl
    rotate_left
    ·
     simp only [Act.put, List.setIfInBounds_toArray, List.set_cons_zero, List.set_cons_succ, i64_w, i32_w]; rfl
    refine take_ (i := 1) (N := some 25) (v := ?_) (a' := ?_) #[Y',Y',Z',Z'] rfl rfl (by kernel_rfl) (fun _ _ _ h => h) (Or.inl ⟨by rfl, ?_⟩) hHeld ?_ ?_; rotate_left
    ·
     rintro w' ⟨s0, s1, s2, s3, s4, s5, s6, s7⟩
     go_simp
     with_reducible rfl
    rotate_left
    ·
     simp only [Act.put, List.setIfInBounds_toArray, List.set_cons_zero, List.set_cons_succ, i64_w, i32_w]; rfl
    refine one_ (i := 2) (N := none) #[Y',Y',Y',Z'] rfl rfl (by kernel_rfl) (by decide) (fun K hK => ?_); have hs50 : w49.cell? ⟨gb175, 0, none⟩ = some (.int .i64 0) := (blk_cell BK175.out 0).trans rfl; have hfs50 := blk_frozen BK175.out 0; have hns50_1 := NB176_175.out; have hns50_2 := NB185_175.out; have hns50_3 := NB191_175.out; have hms50_1 := NB175_176.out; have hms50_2 := NB175_185.out; have hms50_3 := NB175_191.out; have hs51 : w49.cell? ⟨gb175, 1, none⟩ = some (.int .i64 0) := (blk_cell BK175.out 1).trans rfl; have hfs51 := blk_frozen BK175.out 1; have hns51_1 := NB176_175.out; have hns51_2 := NB185_175.out; have hns51_3 := NB191_175.out; have hms51_1 := NB175_176.out; have hms51_2 := NB175_185.out; have hms51_3 := NB175_191.out; have hs52 : w49.cell? ⟨gb175, 2, none⟩ = some (.int .i64 0) := (blk_cell BK175.out 2).trans rfl; have hfs52 := blk_frozen BK175.out 2; have hns52_1 := NB176_175.out; have hns52_2 := NB185_175.out; have hns52_3 := NB191_175.out; have hms52_1 := NB175_176.out; have hms52_2 := NB175_185.out; have hms52_3 := NB175_191.out; have hs53 : w49.cell? ⟨gb175, 3, none⟩ = some (.int .i64 0) := (blk_cell BK175.out 3).trans rfl; have hfs53 := blk_frozen BK175.out 3; have hns53_1 := NB176_175.out; have hns53_2 := NB185_175.out; have hns53_3 := NB191_175.out; have hms53_1 := NB175_176.out; have hms53_2 := NB175_185.out; have hms53_3 := NB175_191.out; refine skip_ (w1 := ?_) (by rfl) rfl ?_ ?_; rotate_left
    ·
     go_simp
     rfl
    refine hK.out _ _ ⟨((cell_far (p := ⟨gb175, _, none⟩) NB185_175.out _).trans (((cell_far (p := ⟨gb175, _, none⟩) NB185_175.out _).trans (((cell_far (p := ⟨gb175, _, none⟩) NB185_175.out _).trans (((cell_far (p := ⟨gb175, _, none⟩) NB185_175.out _).trans (hHeld.1)))))))), ((cell_far (p := ⟨gb175, _, none⟩) NB185_175.out _).trans (((cell_far (p := ⟨gb175, _, none⟩) NB185_175.out _).trans (((cell_far (p := ⟨gb175, _, none⟩) NB185_175.out _).trans (((cell_far (p := ⟨gb175, _, none⟩) NB185_175.out _).trans (hHeld.2.1)))))))), ((cell_far (p := ⟨gb175, _, none⟩) NB185_175.out _).trans (((cell_far (p := ⟨gb175, _, none⟩) NB185_175.out _).trans (((cell_far (p := ⟨gb175, _, none⟩) NB185_175.out _).trans (((cell_far (p := ⟨gb175, _, none⟩) NB185_175.out _).trans (hHeld.2.2.1)))))))), ((cell_far (p := ⟨gb175, _, none⟩) NB185_175.out _).trans (((cell_far (p := ⟨gb175, _, none⟩) NB185_175.out _).trans (((cell_far (p := ⟨gb175, _, none⟩) NB185_175.out _).trans (((cell_far (p := ⟨gb175, _, none⟩) NB185_175.out _).trans (hHeld.2.2.2.1)))))))), ((cell_far (p := ⟨gb175, _, none⟩) NB191_175.out _).trans (((cell_far (p := ⟨gb175, _, none⟩) NB191_175.out _).trans (((cell_far (p := ⟨gb175, _, none⟩) NB191_175.out _).trans (((cell_far (p := ⟨gb175, _, none⟩) NB191_175.out _).trans (hHeld.2.2.2.2.1)))))))), ((cell_far (p := ⟨gb175, _, none⟩) NB191_175.out _).trans (((cell_far (p := ⟨gb175, _, none⟩) NB191_175.out _).trans (((cell_far (p := ⟨gb175, _, none⟩) NB191_175.out _).trans (((cell_far (p := ⟨gb175, _, none⟩) NB191_175.out _).trans (hHeld.2.2.2.2.2.1)))))))), ((cell_far (p := ⟨gb175, _, none⟩) NB191_175.out _).trans (((cell_far (p := ⟨gb175, _, none⟩) NB191_175.out _).trans (((cell_far (p := ⟨gb175, _, none⟩) NB191_175.out _).trans (((cell_far (p := ⟨gb175, _, none⟩) NB191_175.out _).trans (hHeld.2.2.2.2.2.2.1)))))))), ((cell_far (p := ⟨gb175, _, none⟩) NB191_175.out _).trans (((cell_far (p := ⟨gb175, _, none⟩) NB191_175.out _).trans (((cell_far (p := ⟨gb175, _, none⟩) NB191_175.out _).trans (((cell_far (p := ⟨gb175, _, none⟩) NB191_175.out _).trans (hHeld.2.2.2.2.2.2.2))))))))⟩ (fun hHeld => ?_); clear hK K; refine one_ (i := 3) (N := none) #[Y',Y',Y',Y'] rfl rfl (by kernel_rfl) (by decide) (fun K hK => ?_); have hs54 : w49.cell? ⟨gb176, 0, none⟩ = some (.int .i64 0) := (blk_cell BK176.out 0).trans rfl; have hfs54 := blk_frozen BK176.out 0; have hns54_0 := NB175_176.out; have hns54_2 := NB185_176.out; have hns54_3 := NB191_176.out; have hms54_0 := NB176_175.out; have hms54_2 := NB176_185.out; have hms54_3 := NB176_191.out; have hs55 : w49.cell? ⟨gb176, 1, none⟩ = some (.int .i64 0) := (blk_cell BK176.out 1).trans rfl; have hfs55 := blk_frozen BK176.out 1; have hns55_0 := NB175_176.out; have hns55_2 := NB185_176.out; have hns55_3 := NB191_176.out; have hms55_0 := NB176_175.out; have hms55_2 := NB176_185.out; have hms55_3 := NB176_191.out; have hs56 : w49.cell? ⟨gb176, 2, none⟩ = some (.int .i64 0) := (blk_cell BK176.out 2).trans rfl; have hfs56 := blk_frozen BK176.out 2; have hns56_0 := NB175_176.out; have hns56_2 := NB185_176.out; have hns56_3 := NB191_176.out; have hms56_0 := NB176_175.out; have hms56_2 := NB176_185.out; have hms56_3 := NB176_191.out; have hs57 : w49.cell? ⟨gb176, 3, none⟩ = some (.int .i64 0) := (blk_cell BK176.out 3).trans rfl; have hfs57 := blk_frozen BK176.out 3; have hns57_0 := NB175_176.out; have hns57_2 := NB185_176.out; have hns57_3 := NB191_176.out; have hms57_0 := NB176_175.out; have hms57_2 := NB176_185.out; have hms57_3 := NB176_191.out; refine skip_ (w1 := ?_) (by rfl) rfl ?_ ?_; rotate_left
    ·
     go_simp
     rfl
    refine hK.out _ _ ⟨((cell_far (p := ⟨gb176, _, none⟩) NB185_176.out _).trans (((cell_far (p := ⟨gb176, _, none⟩) NB185_176.out _).trans (((cell_far (p := ⟨gb176, _, none⟩) NB185_176.out _).trans (((cell_far (p := ⟨gb176, _, none⟩) NB185_176.out _).trans (hHeld.1)))))))), ((cell_far (p := ⟨gb176, _, none⟩) NB185_176.out _).trans (((cell_far (p := ⟨gb176, _, none⟩) NB185_176.out _).trans (((cell_far (p := ⟨gb176, _, none⟩) NB185_176.out _).trans (((cell_far (p := ⟨gb176, _, none⟩) NB185_176.out _).trans (hHeld.2.1)))))))), ((cell_far (p := ⟨gb176, _, none⟩) NB185_176.out _).trans (((cell_far (p := ⟨gb176, _, none⟩) NB185_176.out _).trans (((cell_far (p := ⟨gb176, _, none⟩) NB185_176.out _).trans (((cell_far (p := ⟨gb176, _, none⟩) NB185_176.out _).trans (hHeld.2.2.1)))))))), ((cell_far (p := ⟨gb176, _, none⟩) NB185_176.out _).trans (((cell_far (p := ⟨gb176, _, none⟩) NB185_176.out _).trans (((cell_far (p := ⟨gb176, _, none⟩) NB185_176.out _).trans (((cell_far (p := ⟨gb176, _, none⟩) NB185_176.out _).trans (hHeld.2.2.2.1)))))))), ((cell_far (p := ⟨gb176, _, none⟩) NB191_176.out _).trans (((cell_far (p := ⟨gb176, _, none⟩) NB191_176.out _).trans (((cell_far (p := ⟨gb176, _, none⟩) NB191_176.out _).trans (((cell_far (p := ⟨gb176, _, none⟩) NB191_176.out _).trans (hHeld.2.2.2.2.1)))))))), ((cell_far (p := ⟨gb176, _, none⟩) NB191_176.out _).trans (((cell_far (p := ⟨gb176, _, none⟩) NB191_176.out _).trans (((cell_far (p := ⟨gb176, _, none⟩) NB191_176.out _).trans (((cell_far (p := ⟨gb176, _, none⟩) NB191_176.out _).trans (hHeld.2.2.2.2.2.1)))))))), ((cell_far (p := ⟨gb176, _, none⟩) NB191_176.out _).trans (((cell_far (p := ⟨gb176, _, none⟩) NB191_176.out _).trans (((cell_far (p := ⟨gb176, _, none⟩) NB191_176.out _).trans (((cell_far (p := ⟨gb176, _, none⟩) NB191_176.out _).trans (hHeld.2.2.2.2.2.2.1)))))))), ((cell_far (p := ⟨gb176, _, none⟩) NB191_176.out _).trans (((cell_far (p := ⟨gb176, _, none⟩) NB191_176.out _).trans (((cell_far (p := ⟨gb176, _, none⟩) NB191_176.out _).trans (((cell_far (p := ⟨gb176, _, none⟩) NB191_176.out _).trans (hHeld.2.2.2.2.2.2.2))))))))⟩ (fun hHeld => ?_); clear hK K; refine done_ (by kernel_rfl) ?_
    try go_wp2
    refine bodyPost_ret (results_cc rfl _ _ gb175 gb176 51 51 #[.int .i64 t180, .int .i64 t181, .int .i64 t182, .int .i64 t183] #[.int .i64 x192000_5, .int .i64 t187, .int .i64 t188, .int .i64 t189] (0, 0) (0, 0) _ _ rfl blk_a Try.underlying51 rfl (by kernel_rfl) rfl blk_a Try.underlying51 rfl (by kernel_rfl)) rfl ?_; exact ⟨eq_a, by repeat (first | (with_reducible first | exact HB.out | apply below_alloc | apply pw_below_drewN | apply below_drew1 | refine below_set ?_ (IsS99.ge HI179.out) | refine below_set ?_ GE175.out | refine below_set ?_ GE176.out | refine below_set ?_ GE185.out | refine below_set ?_ GE191.out) | exact HB.out)⟩

/-! ### impl_Beats: function 44 -/
def impl_Beats.f (a0_0 : Int) (a0_1 : Int) (a0_2 : Int) (a0_3 : Int) (a1_0 : Int) (a1_1 : Int) (a1_2 : Int) (a1_3 : Int) : Option (Bool) := if a0_1 > a1_1 then (some true) else (if a0_1 = a1_1 then (some (decide (a0_2 > a1_2))) else (some false))
set_option maxHeartbeats 8000000 in
set_option maxRecDepth 100000 in
theorem impl_Beats.calls (a0_0 : Int) (a0_1 : Int) (a0_2 : Int) (a0_3 : Int) (a1_0 : Int) (a1_1 : Int) (a1_2 : Int) (a1_3 : Int) (r : Bool) (w : World) (h : impl_Beats.f a0_0 a0_1 a0_2 a0_3 a1_0 a1_1 a1_2 a1_3 = some r) :
  Calls Try.prog 44 #[.agg #[.int .i64 a0_0, .int .i64 a0_1, .int .i64 a0_2, .int .i64 a0_3], .agg #[.int .i64 a1_0, .int .i64 a1_1, .int .i64 a1_2, .int .i64 a1_3]] w fun e w' => e = .returned (.bool r) ∧ Below w.heap.size w w' := by
 have hu51 := Try.underlying51
 have HB := Aside0.mk (Below.refl w.heap.size w)
 have H : (if a0_1 > a1_1 then (some true) else (if a0_1 = a1_1 then (some (decide (a0_2 > a1_2))) else (some false))) = some r := h
 clear h
 by_cases c3 : a0_1 > a1_1
 ·
  rw [if_pos c3] at H; have c3b0 : decide (a1_1 < a0_1) = true := decide_eq_true c3; clear c3; obtain rfl := Option.some.inj H
  go_enter Try.func44, Try.ntmps44
  go_wp2_with (first | ((with_reducible refine gate_dst (N := 2) rfl ?_); refine box_event ?hg (N := 2) ?hd (cs := #[.int .i64 a0_0, .int .i64 a0_1, .int .i64 a0_2, .int .i64 a0_3]) (t := 51) ?hr ?_; (case hd => rfl); (case hg => rfl); (case hr => first | (go_simp; done) | (go_simp; rfl)); intro gb200 hg w4 hbox hb; have n0_ := Aside0.mk (below_step below_a hb); have BK200 := Aside0.mk (hbox); have GW200 := Aside0.mk (bsz_ (w := w) hg); have GE200 := Aside0.mk (bsz_ (w := w) hg); replace HB := n0_; clear n0_; clear hb hbox hg) | ((with_reducible refine gate_dst (N := 3) rfl ?_); refine box_event ?hg (N := 3) ?hd (cs := #[.int .i64 a1_0, .int .i64 a1_1, .int .i64 a1_2, .int .i64 a1_3]) (t := 51) ?hr ?_; (case hd => rfl); (case hg => rfl); (case hr => first | (go_simp; done) | (go_simp; rfl)); intro gb201 hg w5 hbox hb; have n0_ := Aside0.mk (blk_below (g := gb200) blk_c hb); have n1_ := Aside0.mk (below_step below_a hb); have BK201 := Aside0.mk (hbox); have GW201 := Aside0.mk (bsz_ (w := w) hg); have GE201 := Aside0.mk (bsz_ (w := w) hg); have NB200_201 := Aside0.mk (bne_ (g := gb200) hg); have NB201_200 := Aside0.mk (bne_ (g := gb200) hg).symm; replace BK200 := n0_; replace HB := n1_; clear n0_ n1_; clear hb hbox hg; have hnb6 := NB200_201.out; have hnc6 := NB201_200.out; obtain ⟨hcz7_0, hcz7_1, hcz7_2, hcz7_3, hfz7_0, hfz7_1, hfz7_2, hfz7_3⟩ := bc4_ BK200.out; obtain ⟨hcz8_0, hcz8_1, hcz8_2, hcz8_3, hfz8_0, hfz8_1, hfz8_2, hfz8_3⟩ := bc4_ BK201.out))
  go_ret
  exact ⟨eq_a, below_a⟩
 ·
  rw [if_neg c3] at H; have c3b0 : decide (a1_1 < a0_1) = false := decide_eq_false c3; clear c3
  by_cases c9 : a0_1 = a1_1
  ·
   rw [if_pos c9] at H; have c9b0 : (a0_1 == a1_1) = true := beq_iff_eq.mpr c9; have c9b1 : (a0_1 != a1_1) = false := bne_eq_false_iff_eq.mpr c9; clear c9; obtain rfl := Option.some.inj H
   go_enter Try.func44, Try.ntmps44
   go_wp2_with (first | ((with_reducible refine gate_dst (N := 2) rfl ?_); refine box_event ?hg (N := 2) ?hd (cs := #[.int .i64 a0_0, .int .i64 a0_1, .int .i64 a0_2, .int .i64 a0_3]) (t := 51) ?hr ?_; (case hd => rfl); (case hg => rfl); (case hr => first | (go_simp; done) | (go_simp; rfl)); intro gb200 hg w10 hbox hb; have n0_ := Aside0.mk (below_step below_a hb); have BK200 := Aside0.mk (hbox); have GW200 := Aside0.mk (bsz_ (w := w) hg); have GE200 := Aside0.mk (bsz_ (w := w) hg); replace HB := n0_; clear n0_; clear hb hbox hg) | ((with_reducible refine gate_dst (N := 3) rfl ?_); refine box_event ?hg (N := 3) ?hd (cs := #[.int .i64 a1_0, .int .i64 a1_1, .int .i64 a1_2, .int .i64 a1_3]) (t := 51) ?hr ?_; (case hd => rfl); (case hg => rfl); (case hr => first | (go_simp; done) | (go_simp; rfl)); intro gb201 hg w11 hbox hb; have n0_ := Aside0.mk (blk_below (g := gb200) blk_c hb); have n1_ := Aside0.mk (below_step below_a hb); have BK201 := Aside0.mk (hbox); have GW201 := Aside0.mk (bsz_ (w := w) hg); have GE201 := Aside0.mk (bsz_ (w := w) hg); have NB200_201 := Aside0.mk (bne_ (g := gb200) hg); have NB201_200 := Aside0.mk (bne_ (g := gb200) hg).symm; replace BK200 := n0_; replace HB := n1_; clear n0_ n1_; clear hb hbox hg; have hnb12 := NB200_201.out; have hnc12 := NB201_200.out; obtain ⟨hcz13_0, hcz13_1, hcz13_2, hcz13_3, hfz13_0, hfz13_1, hfz13_2, hfz13_3⟩ := bc4_ BK200.out; obtain ⟨hcz14_0, hcz14_1, hcz14_2, hcz14_3, hfz14_0, hfz14_1, hfz14_2, hfz14_3⟩ := bc4_ BK201.out))
   go_ret
   exact ⟨eq_a, below_a⟩
  ·
   rw [if_neg c9] at H; have c9b0 : (a0_1 == a1_1) = false := beq_eq_false_iff_ne.mpr c9; have c9b1 : (a0_1 != a1_1) = true := bne_iff_ne.mpr c9; obtain rfl := Option.some.inj H
   go_enter Try.func44, Try.ntmps44
   go_wp2_with (first | ((with_reducible refine gate_dst (N := 2) rfl ?_); refine box_event ?hg (N := 2) ?hd (cs := #[.int .i64 a0_0, .int .i64 a0_1, .int .i64 a0_2, .int .i64 a0_3]) (t := 51) ?hr ?_; (case hd => rfl); (case hg => rfl); (case hr => first | (go_simp; done) | (go_simp; rfl)); intro gb200 hg w15 hbox hb; have n0_ := Aside0.mk (below_step below_a hb); have BK200 := Aside0.mk (hbox); have GW200 := Aside0.mk (bsz_ (w := w) hg); have GE200 := Aside0.mk (bsz_ (w := w) hg); replace HB := n0_; clear n0_; clear hb hbox hg) | ((with_reducible refine gate_dst (N := 3) rfl ?_); refine box_event ?hg (N := 3) ?hd (cs := #[.int .i64 a1_0, .int .i64 a1_1, .int .i64 a1_2, .int .i64 a1_3]) (t := 51) ?hr ?_; (case hd => rfl); (case hg => rfl); (case hr => first | (go_simp; done) | (go_simp; rfl)); intro gb201 hg w16 hbox hb; have n0_ := Aside0.mk (blk_below (g := gb200) blk_c hb); have n1_ := Aside0.mk (below_step below_a hb); have BK201 := Aside0.mk (hbox); have GW201 := Aside0.mk (bsz_ (w := w) hg); have GE201 := Aside0.mk (bsz_ (w := w) hg); have NB200_201 := Aside0.mk (bne_ (g := gb200) hg); have NB201_200 := Aside0.mk (bne_ (g := gb200) hg).symm; replace BK200 := n0_; replace HB := n1_; clear n0_ n1_; clear hb hbox hg; have hnb17 := NB200_201.out; have hnc17 := NB201_200.out; obtain ⟨hcz18_0, hcz18_1, hcz18_2, hcz18_3, hfz18_0, hfz18_1, hfz18_2, hfz18_3⟩ := bc4_ BK200.out; obtain ⟨hcz19_0, hcz19_1, hcz19_2, hcz19_3, hfz19_0, hfz19_1, hfz19_2, hfz19_3⟩ := bc4_ BK201.out))
   go_ret
   exact ⟨eq_a, below_a⟩

/-! ### impl_in: function 54 -/
def impl_in.f (a0 : Int) (a1 : Int) (a2 : Int) : Option (Bool) := if a0 ≥ a1 then (some (decide (a0 ≤ a2))) else (some false)
set_option maxHeartbeats 8000000 in
set_option maxRecDepth 100000 in
theorem impl_in.calls (a0 : Int) (a1 : Int) (a2 : Int) (r : Bool) (w : World) (h : impl_in.f a0 a1 a2 = some r) :
  Calls Try.prog 54 #[.int .i64 a0, .int .i64 a1, .int .i64 a2] w fun e w' => e = .returned (.bool r) ∧ Drawn0 w w' := by
 have H : (if a0 ≥ a1 then (some (decide (a0 ≤ a2))) else (some false)) = some r := h
 clear h
 by_cases c4 : a0 ≥ a1
 ·
  rw [if_pos c4] at H; have c4b0 : decide (a1 ≤ a0) = true := decide_eq_true c4; clear c4; obtain rfl := Option.some.inj H
  go_enter Try.func54, Try.ntmps54
  go_wp2
  go_ret
  exact ⟨eq_b, by repeat (first | exact Drawn0.refl _ | apply Drawn0.step)⟩
 ·
  rw [if_neg c4] at H; have c4b0 : decide (a1 ≤ a0) = false := decide_eq_false c4; clear c4; obtain rfl := Option.some.inj H
  go_enter Try.func54, Try.ntmps54
  go_wp2
  go_ret
  exact ⟨eq_b, by repeat (first | exact Drawn0.refl _ | apply Drawn0.step)⟩

/-! ### impl_isNode: function 55 -/
def impl_isNode.f (a0 : Int) : Option (Bool) := (impl_in.f a0 0 3).bind fun t202 => (some t202)
set_option maxHeartbeats 8000000 in
set_option maxRecDepth 100000 in
theorem impl_isNode.calls (a0 : Int) (r : Bool) (w : World) (h : impl_isNode.f a0 = some r) :
  Calls Try.prog 55 #[.int .i64 a0] w fun e w' => e = .returned (.bool r) ∧ Drawn0 w w' := by
 have H : ((impl_in.f a0 0 3).bind fun t202 => (some t202)) = some r := h
 clear h
 replace H := Option.bind_eq_some_iff.mp H
 obtain ⟨t202, A20, H⟩ := H
 replace H : (some t202) = some r := H
 have A2 := Aside0.mk A20
 clear A20
 obtain rfl := Option.some.inj H
 go_enter Try.func55, Try.ntmps55
 go_wp2_with (first | ((with_reducible refine gate_callee (f := 54) rfl ?_); refine goesL_ (some 4) rfl rfl Try.func54 (by kernel_rfl) rfl #[.int .i64 a0, .int .i64 0, .int .i64 3] rfl args_a ?_; (with_reducible refine (impl_in.calls a0 0 3 t202 _ A2.out).mono ?_); rintro e w' ⟨rfl, ⟨nd, rfl⟩⟩; refine ⟨_, rfl, ?_⟩))
 go_ret
 exact ⟨eq_b, by repeat (first | exact Drawn0.refl _ | apply Drawn0.step)⟩

/-! ### impl_isStatus: function 60 -/
def impl_isStatus.f (a0 : Int) : Option (Bool) := (impl_in.f a0 0 2).bind fun t203 => (some t203)
set_option maxHeartbeats 8000000 in
set_option maxRecDepth 100000 in
theorem impl_isStatus.calls (a0 : Int) (r : Bool) (w : World) (h : impl_isStatus.f a0 = some r) :
  Calls Try.prog 60 #[.int .i64 a0] w fun e w' => e = .returned (.bool r) ∧ Drawn0 w w' := by
 have H : ((impl_in.f a0 0 2).bind fun t203 => (some t203)) = some r := h
 clear h
 replace H := Option.bind_eq_some_iff.mp H
 obtain ⟨t203, A20, H⟩ := H
 replace H : (some t203) = some r := H
 have A2 := Aside0.mk A20
 clear A20
 obtain rfl := Option.some.inj H
 go_enter Try.func60, Try.ntmps60
 go_wp2_with (first | ((with_reducible refine gate_callee (f := 54) rfl ?_); refine goesL_ (some 4) rfl rfl Try.func54 (by kernel_rfl) rfl #[.int .i64 a0, .int .i64 0, .int .i64 2] rfl args_a ?_; (with_reducible refine (impl_in.calls a0 0 2 t203 _ A2.out).mono ?_); rintro e w' ⟨rfl, ⟨nd, rfl⟩⟩; refine ⟨_, rfl, ?_⟩))
 go_ret
 exact ⟨eq_b, by repeat (first | exact Drawn0.refl _ | apply Drawn0.step)⟩

/-! ### impl_ClaimFault: function 74 -/
def impl_ClaimFault.f (a0_0 : Int) (a0_1 : Int) (a0_2 : Int) (a0_3 : Int) : Option (Int) := (impl_isNode.f a0_0).bind fun t205 => (if t205 = true then ((impl_in.f a0_1 0 1000000).bind fun t206 => (if t206 = true then ((impl_isStatus.f a0_2).bind fun t207 => (if t207 = true then ((impl_in.f a0_3 0 9999999).bind fun t208 => (if t208 = true then (some 0) else (some 3))) else (some 3))) else (some 3))) else (some 3))
set_option maxHeartbeats 8000000 in
set_option maxRecDepth 100000 in
theorem impl_ClaimFault.calls (a0_0 : Int) (a0_1 : Int) (a0_2 : Int) (a0_3 : Int) (r : Int) (w : World) (h : impl_ClaimFault.f a0_0 a0_1 a0_2 a0_3 = some r) :
  Calls Try.prog 74 #[.agg #[.int .i64 a0_0, .int .i64 a0_1, .int .i64 a0_2, .int .i64 a0_3]] w fun e w' => e = .returned (.int .i64 r) ∧ Below w.heap.size w w' := by
 have hu51 := Try.underlying51
 have HB := Aside0.mk (Below.refl w.heap.size w)
 have H : ((impl_isNode.f a0_0).bind fun t205 => (if t205 = true then ((impl_in.f a0_1 0 1000000).bind fun t206 => (if t206 = true then ((impl_isStatus.f a0_2).bind fun t207 => (if t207 = true then ((impl_in.f a0_3 0 9999999).bind fun t208 => (if t208 = true then (some 0) else (some 3))) else (some 3))) else (some 3))) else (some 3))) = some r := h
 clear h
 replace H := Option.bind_eq_some_iff.mp H
 obtain ⟨t205, A20, H⟩ := H
 replace H : (if t205 = true then ((impl_in.f a0_1 0 1000000).bind fun t206 => (if t206 = true then ((impl_isStatus.f a0_2).bind fun t207 => (if t207 = true then ((impl_in.f a0_3 0 9999999).bind fun t208 => (if t208 = true then (some 0) else (some 3))) else (some 3))) else (some 3))) else (some 3)) = some r := H
 have A2 := Aside0.mk A20
 clear A20
 by_cases c3 : t205 = true
 ·
  subst c3; have H1 : ((impl_in.f a0_1 0 1000000).bind fun t206 => (if t206 = true then ((impl_isStatus.f a0_2).bind fun t207 => (if t207 = true then ((impl_in.f a0_3 0 9999999).bind fun t208 => (if t208 = true then (some 0) else (some 3))) else (some 3))) else (some 3))) = some r := by rw [if_pos rfl] at H; exact H
  clear H; have H := H1; clear H1; replace H := Option.bind_eq_some_iff.mp H; obtain ⟨t206, A40, H⟩ := H; replace H : (if t206 = true then ((impl_isStatus.f a0_2).bind fun t207 => (if t207 = true then ((impl_in.f a0_3 0 9999999).bind fun t208 => (if t208 = true then (some 0) else (some 3))) else (some 3))) else (some 3)) = some r := H; have A4 := Aside0.mk A40; clear A40
  by_cases c5 : t206 = true
  ·
   subst c5; have H1 : ((impl_isStatus.f a0_2).bind fun t207 => (if t207 = true then ((impl_in.f a0_3 0 9999999).bind fun t208 => (if t208 = true then (some 0) else (some 3))) else (some 3))) = some r := by rw [if_pos rfl] at H; exact H
   clear H; have H := H1; clear H1; replace H := Option.bind_eq_some_iff.mp H; obtain ⟨t207, A60, H⟩ := H; replace H : (if t207 = true then ((impl_in.f a0_3 0 9999999).bind fun t208 => (if t208 = true then (some 0) else (some 3))) else (some 3)) = some r := H; have A6 := Aside0.mk A60; clear A60
   by_cases c7 : t207 = true
   ·
    subst c7; have H1 : ((impl_in.f a0_3 0 9999999).bind fun t208 => (if t208 = true then (some 0) else (some 3))) = some r := by rw [if_pos rfl] at H; exact H
    clear H; have H := H1; clear H1; replace H := Option.bind_eq_some_iff.mp H; obtain ⟨t208, A80, H⟩ := H; replace H : (if t208 = true then (some 0) else (some 3)) = some r := H; have A8 := Aside0.mk A80; clear A80
    by_cases c9 : t208 = true
    ·
     subst c9; have H1 : (some 0) = some r := by rw [if_pos rfl] at H; exact H
     clear H; have H := H1; clear H1; obtain rfl := Option.some.inj H
     go_enter Try.func74, Try.ntmps74
     go_wp2_with (first | ((with_reducible refine gate_dst (N := 1) rfl ?_); refine box_event ?hg (N := 1) ?hd (cs := #[.int .i64 a0_0, .int .i64 a0_1, .int .i64 a0_2, .int .i64 a0_3]) (t := 51) ?hr ?_; (case hd => rfl); (case hg => rfl); (case hr => first | (go_simp; done) | (go_simp; rfl)); intro gb204 hg w10 hbox hb; have n0_ := Aside0.mk (below_step below_a hb); have BK204 := Aside0.mk (hbox); have GW204 := Aside0.mk (bsz_ (w := w) hg); have GE204 := Aside0.mk (bsz_ (w := w) hg); replace HB := n0_; clear n0_; clear hb hbox hg; obtain ⟨hcz11_0, hcz11_1, hcz11_2, hcz11_3, hfz11_0, hfz11_1, hfz11_2, hfz11_3⟩ := bc4_ BK204.out) | ((with_reducible refine gate_callee (f := 55) rfl ?_); refine goesL_ (some 5) rfl rfl Try.func55 (by kernel_rfl) rfl #[.int .i64 a0_0] rfl args_a ?_; (with_reducible refine (impl_isNode.calls a0_0 true _ A2.out).mono ?_); rintro e w' ⟨rfl, ⟨nd, rfl⟩⟩; refine ⟨_, rfl, ?_⟩) | (go_at_call 54; (with_reducible refine (impl_in.calls a0_1 0 1000000 true _ A4.out).mono ?_); rintro e w' ⟨rfl, ⟨nd, rfl⟩⟩) | (go_at_call 60; (with_reducible refine (impl_isStatus.calls a0_2 true _ A6.out).mono ?_); rintro e w' ⟨rfl, ⟨nd, rfl⟩⟩) | (go_at_call 54; (with_reducible refine (impl_in.calls a0_3 0 9999999 true _ A8.out).mono ?_); rintro e w' ⟨rfl, ⟨nd, rfl⟩⟩))
     go_ret
     exact ⟨eq_a, below_a⟩
    ·
     replace c9 := Bool.eq_false_iff.mpr c9; subst c9; have H1 : (some 3) = some r := by rw [if_neg (show ¬ (false = true) by decide)] at H; exact H
     clear H; have H := H1; clear H1; obtain rfl := Option.some.inj H
     go_enter Try.func74, Try.ntmps74
     go_wp2_with (first | ((with_reducible refine gate_dst (N := 1) rfl ?_); refine box_event ?hg (N := 1) ?hd (cs := #[.int .i64 a0_0, .int .i64 a0_1, .int .i64 a0_2, .int .i64 a0_3]) (t := 51) ?hr ?_; (case hd => rfl); (case hg => rfl); (case hr => first | (go_simp; done) | (go_simp; rfl)); intro gb204 hg w12 hbox hb; have n0_ := Aside0.mk (below_step below_a hb); have BK204 := Aside0.mk (hbox); have GW204 := Aside0.mk (bsz_ (w := w) hg); have GE204 := Aside0.mk (bsz_ (w := w) hg); replace HB := n0_; clear n0_; clear hb hbox hg; obtain ⟨hcz13_0, hcz13_1, hcz13_2, hcz13_3, hfz13_0, hfz13_1, hfz13_2, hfz13_3⟩ := bc4_ BK204.out) | ((with_reducible refine gate_callee (f := 55) rfl ?_); refine goesL_ (some 5) rfl rfl Try.func55 (by kernel_rfl) rfl #[.int .i64 a0_0] rfl args_a ?_; (with_reducible refine (impl_isNode.calls a0_0 true _ A2.out).mono ?_); rintro e w' ⟨rfl, ⟨nd, rfl⟩⟩; refine ⟨_, rfl, ?_⟩) | (go_at_call 54; (with_reducible refine (impl_in.calls a0_1 0 1000000 true _ A4.out).mono ?_); rintro e w' ⟨rfl, ⟨nd, rfl⟩⟩) | (go_at_call 60; (with_reducible refine (impl_isStatus.calls a0_2 true _ A6.out).mono ?_); rintro e w' ⟨rfl, ⟨nd, rfl⟩⟩) | (go_at_call 54; (with_reducible refine (impl_in.calls a0_3 0 9999999 false _ A8.out).mono ?_); rintro e w' ⟨rfl, ⟨nd, rfl⟩⟩))
     go_ret
     exact ⟨eq_a, below_a⟩
   ·
    replace c7 := Bool.eq_false_iff.mpr c7; subst c7; have H1 : (some 3) = some r := by rw [if_neg (show ¬ (false = true) by decide)] at H; exact H
    clear H; have H := H1; clear H1; obtain rfl := Option.some.inj H
    go_enter Try.func74, Try.ntmps74
    go_wp2_with (first | ((with_reducible refine gate_dst (N := 1) rfl ?_); refine box_event ?hg (N := 1) ?hd (cs := #[.int .i64 a0_0, .int .i64 a0_1, .int .i64 a0_2, .int .i64 a0_3]) (t := 51) ?hr ?_; (case hd => rfl); (case hg => rfl); (case hr => first | (go_simp; done) | (go_simp; rfl)); intro gb204 hg w14 hbox hb; have n0_ := Aside0.mk (below_step below_a hb); have BK204 := Aside0.mk (hbox); have GW204 := Aside0.mk (bsz_ (w := w) hg); have GE204 := Aside0.mk (bsz_ (w := w) hg); replace HB := n0_; clear n0_; clear hb hbox hg; obtain ⟨hcz15_0, hcz15_1, hcz15_2, hcz15_3, hfz15_0, hfz15_1, hfz15_2, hfz15_3⟩ := bc4_ BK204.out) | ((with_reducible refine gate_callee (f := 55) rfl ?_); refine goesL_ (some 5) rfl rfl Try.func55 (by kernel_rfl) rfl #[.int .i64 a0_0] rfl args_a ?_; (with_reducible refine (impl_isNode.calls a0_0 true _ A2.out).mono ?_); rintro e w' ⟨rfl, ⟨nd, rfl⟩⟩; refine ⟨_, rfl, ?_⟩) | (go_at_call 54; (with_reducible refine (impl_in.calls a0_1 0 1000000 true _ A4.out).mono ?_); rintro e w' ⟨rfl, ⟨nd, rfl⟩⟩) | (go_at_call 60; (with_reducible refine (impl_isStatus.calls a0_2 false _ A6.out).mono ?_); rintro e w' ⟨rfl, ⟨nd, rfl⟩⟩))
    go_ret
    exact ⟨eq_a, below_a⟩
  ·
   replace c5 := Bool.eq_false_iff.mpr c5; subst c5; have H1 : (some 3) = some r := by rw [if_neg (show ¬ (false = true) by decide)] at H; exact H
   clear H; have H := H1; clear H1; obtain rfl := Option.some.inj H
   go_enter Try.func74, Try.ntmps74
   go_wp2_with (first | ((with_reducible refine gate_dst (N := 1) rfl ?_); refine box_event ?hg (N := 1) ?hd (cs := #[.int .i64 a0_0, .int .i64 a0_1, .int .i64 a0_2, .int .i64 a0_3]) (t := 51) ?hr ?_; (case hd => rfl); (case hg => rfl); (case hr => first | (go_simp; done) | (go_simp; rfl)); intro gb204 hg w16 hbox hb; have n0_ := Aside0.mk (below_step below_a hb); have BK204 := Aside0.mk (hbox); have GW204 := Aside0.mk (bsz_ (w := w) hg); have GE204 := Aside0.mk (bsz_ (w := w) hg); replace HB := n0_; clear n0_; clear hb hbox hg; obtain ⟨hcz17_0, hcz17_1, hcz17_2, hcz17_3, hfz17_0, hfz17_1, hfz17_2, hfz17_3⟩ := bc4_ BK204.out) | ((with_reducible refine gate_callee (f := 55) rfl ?_); refine goesL_ (some 5) rfl rfl Try.func55 (by kernel_rfl) rfl #[.int .i64 a0_0] rfl args_a ?_; (with_reducible refine (impl_isNode.calls a0_0 true _ A2.out).mono ?_); rintro e w' ⟨rfl, ⟨nd, rfl⟩⟩; refine ⟨_, rfl, ?_⟩) | (go_at_call 54; (with_reducible refine (impl_in.calls a0_1 0 1000000 false _ A4.out).mono ?_); rintro e w' ⟨rfl, ⟨nd, rfl⟩⟩))
   go_ret
   exact ⟨eq_a, below_a⟩
 ·
  replace c3 := Bool.eq_false_iff.mpr c3; subst c3; have H1 : (some 3) = some r := by rw [if_neg (show ¬ (false = true) by decide)] at H; exact H
  clear H; have H := H1; clear H1; obtain rfl := Option.some.inj H
  go_enter Try.func74, Try.ntmps74
  go_wp2_with (first | ((with_reducible refine gate_dst (N := 1) rfl ?_); refine box_event ?hg (N := 1) ?hd (cs := #[.int .i64 a0_0, .int .i64 a0_1, .int .i64 a0_2, .int .i64 a0_3]) (t := 51) ?hr ?_; (case hd => rfl); (case hg => rfl); (case hr => first | (go_simp; done) | (go_simp; rfl)); intro gb204 hg w18 hbox hb; have n0_ := Aside0.mk (below_step below_a hb); have BK204 := Aside0.mk (hbox); have GW204 := Aside0.mk (bsz_ (w := w) hg); have GE204 := Aside0.mk (bsz_ (w := w) hg); replace HB := n0_; clear n0_; clear hb hbox hg; obtain ⟨hcz19_0, hcz19_1, hcz19_2, hcz19_3, hfz19_0, hfz19_1, hfz19_2, hfz19_3⟩ := bc4_ BK204.out) | ((with_reducible refine gate_callee (f := 55) rfl ?_); refine goesL_ (some 5) rfl rfl Try.func55 (by kernel_rfl) rfl #[.int .i64 a0_0] rfl args_a ?_; (with_reducible refine (impl_isNode.calls a0_0 false _ A2.out).mono ?_); rintro e w' ⟨rfl, ⟨nd, rfl⟩⟩; refine ⟨_, rfl, ?_⟩))
  go_ret
  exact ⟨eq_a, below_a⟩

end Go.Proofs.Ytpinapnhohjipaa.MFnDecides
