-- Laid by a program of this session (the kit's print, turned where it falls short; the texts of functions that it does not take are proved by hand).
import Derived.Test.YtbnibakamdhpdaaMFnWindowsx0
import Derived.Test.YtbnibakamdhpdaaMFnWindowsx1
import Derived.Test.YtbnibakamdhpdaaMFnWindowsx2
namespace Go.Proofs.Ytbnibakamdhpdaa.MFnWindows
open Go.RowKit Go.Proofs.YtbnibakamdhpdaaW.PrintWords Go.Proofs.YtbnibakamdhpdaaW.PrintLast Go.Proofs.YtbnibakamdhpdaaW.PrintMore
attribute [local go_sem] max2_int min2_int max_two min_two max_three min_three max_four min_four   -- for this text's walks alone
set_option linter.unusedVariables false
set_option linter.unusedSimpArgs false

attribute [local go_sem] isSome_setCell
/-! ### spec_l6Draw: function 47 -/
def spec_l6Draw.l0 : Nat → Int → Int → List Int → Int → Int → List Int → Option (Int × List Int × Int)
 | 0, _, _, _, _, _, _ => none
 | k + 1, x4, x5, x1000, x1001, x139000, x139001 => if x5 > 0 then ((spec_l1Next.f x1000 x1001 24).bind fun bt146 => ((spec_l6Take.f k x139000 x139001 (wrap64 (x4 + bt146.1))).bind fun bt148 => (if bt148.2.2 = 0 then (spec_l6Draw.l0 k x4 (wrap64 (x5 - 1)) x1000 bt146.2 bt148.1 bt148.2.1) else (spec_l6Draw.l0 k x4 (wrap64 (x5 - 1)) x1000 bt146.2 x139000 x139001)))) else (some (x139000, x139001, x1001))
def spec_l6Draw.f (k : Nat) (s0_0 : List Int) (s0_1 : Int) : Option (Int × List Int × Int) := (spec_NewWindow.f).bind fun bt134 => ((spec_l1Pick.f s0_0 s0_1 (([0, 0, 5, 900] : List Int))).bind fun bt142 => ((spec_l1Next.f s0_0 bt142.2 9).bind fun bt144 => (spec_l6Draw.l0 k bt142.1 bt144.1 s0_0 bt144.2 bt134.1 bt134.2)))
theorem spec_l6Draw.mono_l : ∀ k, (∀ y0 y1 y2 y3 y4 y5, LeO (spec_l6Draw.l0 k y0 y1 y2 y3 y4 y5) (spec_l6Draw.l0 (k + 1) y0 y1 y2 y3 y4 y5))
 | 0 => fun _ _ _ _ _ _ r h => by simp [spec_l6Draw.l0] at h
 | k + 1 => by
  have ih0 := spec_l6Draw.mono_l k
  ·
   intro y0 y1 y2 y3 y4 y5
   unfold spec_l6Draw.l0
   repeat' first
   | (with_reducible exact ih0 _ _ _ _ _ _)
   | (with_reducible exact spec_l6Take.mono _ _ _ _)
   | (with_reducible exact LeO.refl _)
   | (with_reducible exact LeO.none _)
   | (with_reducible refine LeO.ite ?_ ?_)
   | (with_reducible refine LeO.bind ?_ (fun _ => ?_))
   | exact ih0 _ _ _ _ _ _
   | exact spec_l6Take.mono _ _ _ _
   | exact LeO.none _
   | refine LeO.ite ?_ ?_
   | refine LeO.bind ?_ (fun _ => ?_)
theorem spec_l6Draw.mono : ∀ a0 a1 k, LeO (spec_l6Draw.f k a0 a1) (spec_l6Draw.f (k + 1) a0 a1) := by
 intro a0 a1 k
 have ih0 := spec_l6Draw.mono_l k
 unfold spec_l6Draw.f
 repeat' first
   | (with_reducible exact ih0 _ _ _ _ _ _)
   | (with_reducible exact spec_l6Take.mono _ _ _ _)
   | (with_reducible exact LeO.refl _)
   | (with_reducible exact LeO.none _)
   | (with_reducible refine LeO.ite ?_ ?_)
   | (with_reducible refine LeO.bind ?_ (fun _ => ?_))
   | exact ih0 _ _ _ _ _ _
   | exact spec_l6Take.mono _ _ _ _
   | exact LeO.none _
   | refine LeO.ite ?_ ?_
   | refine LeO.bind ?_ (fun _ => ?_)
set_option maxHeartbeats 8000000 in
set_option maxRecDepth 100000 in
theorem spec_l6Draw.calls (k : Nat) (g : Nat) (s0_0 : List Int) (s0_1 : Int) (r1 : Int) (r2 : List Int) (r3 : Int) (w0 w : World) (hI : IsS70 w0 w g s0_0 s0_1) (hB : Below w0.heap.size w0 w) (h : spec_l6Draw.f k s0_0 s0_1 = some (r1, r2, r3)) :
  Calls Try.prog 47 #[.pointer (some ⟨g, 0, none⟩)] w fun e w' => ∃ v1_ : Value, e = .returned (.agg #[.int .i64 r1, v1_]) ∧ Kd.R (Kd.int .i64) 2 w' w.heap.size (fun _ => True) v1_ r2 ∧ IsS70 w0 w' g s0_0 r3 ∧ Below w0.heap.size w0 w' ∧ KeepBut w w' g none := by
 have hu26 := Try.underlying26
 have HI0 := Aside0.mk hI
 have HK := Aside0.mk (KeepBut.refl w g none)
 have HL := Aside0.mk hB.size
 clear hI
 have HW0 := Aside0.mk hB.size
 have HB := Aside0.mk hB
 clear hB
 have H : ((spec_NewWindow.f).bind fun bt134 => ((spec_l1Pick.f s0_0 s0_1 (([0, 0, 5, 900] : List Int))).bind fun bt142 => ((spec_l1Next.f s0_0 bt142.2 9).bind fun bt144 => (spec_l6Draw.l0 k bt142.1 bt144.1 s0_0 bt144.2 bt134.1 bt134.2)))) = some (r1, r2, r3) := h
 clear h
 replace H := Option.bind_eq_some_iff.mp H
 obtain ⟨⟨t134, t135⟩, A20, H⟩ := H
 replace H : ((spec_l1Pick.f s0_0 s0_1 (([0, 0, 5, 900] : List Int))).bind fun bt142 => ((spec_l1Next.f s0_0 bt142.2 9).bind fun bt144 => (spec_l6Draw.l0 k bt142.1 bt144.1 s0_0 bt144.2 t134 t135))) = some (r1, r2, r3) := H
 have A2 := Aside0.mk A20
 clear A20
 obtain ⟨y139, hy139⟩ : ∃ y_ : List Int, y_ = (([0, 0, 5, 900] : List Int)) := ⟨_, rfl⟩
 replace H : ((spec_l1Pick.f s0_0 s0_1 y139).bind fun bt142 => ((spec_l1Next.f s0_0 bt142.2 9).bind fun bt144 => (spec_l6Draw.l0 k bt142.1 bt144.1 s0_0 bt144.2 t134 t135))) = some (r1, r2, r3) := by first | (rw [hy139]; with_reducible exact H) | (have H2_ := (Option.bind_some _ _).symm.trans H; rw [hy139]; with_reducible exact H2_) | (have H2_ := (Option.bind_some _ _).symm.trans H; with_reducible exact H2_) | with_reducible exact H | (rw [hy139]; exact H) | exact H
 have Ny139 := Aside0.mk hy139
 clear hy139
 replace H := Option.bind_eq_some_iff.mp H
 obtain ⟨⟨t142, t143⟩, A30, H⟩ := H
 replace H : ((spec_l1Next.f s0_0 t143 9).bind fun bt144 => (spec_l6Draw.l0 k t142 bt144.1 s0_0 bt144.2 t134 t135)) = some (r1, r2, r3) := H
 have A3 := Aside0.mk A30
 clear A30
 replace H := Option.bind_eq_some_iff.mp H
 obtain ⟨⟨t144, t145⟩, A40, H⟩ := H
 replace H : (spec_l6Draw.l0 k t142 t144 s0_0 t145 t134 t135) = some (r1, r2, r3) := H
 have A4 := Aside0.mk A40
 clear A40
 have H' := Aside0.mk H
 clear H
 go_enter Try.func47, Try.ntmps47
 go_wp2_with (first | ((with_reducible refine gate_dst (N := 2) rfl ?_); refine box_event ?hg (N := 2) ?hd (cs := #[.int .i64 0, .slice none 0 0]) (t := 26) ?hr ?_; (case hd => rfl); (case hg => rfl); (case hr => first | (go_simp; done) | (go_simp; rfl)); intro gb133 hg w5 hbox hb; have n0_ := Aside0.mk (IsS70.below (IsS70.a) hb); have n1_ := Aside0.mk (KeepBut.trans (by repeat (first | (with_reducible first | exact HK.out | apply KeepBut.set_ | apply keep_drewN | apply keep_drew | apply keep_alloc) | exact HK.out)) (KeepBut.of_below hb g none) (.inl rfl)); replace HB := Aside0.mk (below_step (by repeat (first | (with_reducible first | exact HB.out | apply below_alloc | apply pw_below_drewN | apply below_drew1 | refine below_set ?_ (IsS70.ge HI0.out)) | exact HB.out)) hb); have BK133 := Aside0.mk (hbox); have GW133 := Aside0.mk ((by rw [hg]; exact (keep_size (w := w) (g := g) (row := none) (by repeat (first | (with_reducible first | exact HK.out | apply KeepBut.set_ | apply keep_drewN | apply keep_drew | apply keep_alloc) | exact HK.out))) : w.heap.size ≤ gb133)); have GE133 := Aside0.mk ((Nat.le_trans HW0.out (by rw [hg]; exact (keep_size (w := w) (g := g) (row := none) (by repeat (first | (with_reducible first | exact HK.out | apply KeepBut.set_ | apply keep_drewN | apply keep_drew | apply keep_alloc) | exact HK.out))) : w.heap.size ≤ gb133) : w0.heap.size ≤ gb133)); have NB0_133 := Aside0.mk ((by rw [hg]; exact Nat.ne_of_lt (IsS70.lt (show IsS70 w0 _ g s0_0 s0_1 from IsS70.a)) : g ≠ gb133)); have NB133_0 := Aside0.mk ((by rw [hg]; exact Nat.ne_of_gt (IsS70.lt (show IsS70 w0 _ g s0_0 s0_1 from IsS70.a)) : gb133 ≠ g)); replace HI0 := n0_; replace HK := n1_; clear n0_ n1_; clear hb hbox hg) | ((with_reducible refine gate_callee (f := 60) rfl ?_); refine goesL_ (some 8) rfl rfl Try.func60 (by kernel_rfl) rfl #[] rfl args_a ?_; (with_reducible refine (spec_NewWindow.calls  t134 t135 _ A2.out).mono ?_); rintro e w6 ⟨v136, rfl, ho0, hb⟩; refine ⟨_, rfl, ?_⟩; have HO137 := Aside0.mk (Kd.R_lower ho0 (keep_size (w := w) (g := g) (row := none) (by repeat (first | (with_reducible first | exact HK.out | apply KeepBut.set_ | apply keep_drewN | apply keep_drew | apply keep_alloc | refine keep_far ?_ GW133.out _) | exact HK.out)))); have n1_ := Aside0.mk (IsS70.below (IsS70.a) hb); replace BK133 := Aside0.mk (blk_below (g := gb133) blk_c hb); replace HK := Aside0.mk (KeepBut.trans (by repeat (first | (with_reducible first | exact HK.out | apply KeepBut.set_ | apply keep_drewN | apply keep_drew | apply keep_alloc | refine keep_far ?_ GW133.out _) | exact HK.out)) (KeepBut.of_below hb g none) (.inl rfl)); replace HB := Aside0.mk (below_step (by repeat (first | (with_reducible first | exact HB.out | apply below_alloc | apply pw_below_drewN | apply below_drew1 | refine below_set ?_ (IsS70.ge HI0.out) | refine below_set ?_ GE133.out) | exact HB.out)) hb); replace HI0 := n1_; clear n1_; (try clear hb); (try clear hb2); (try clear hk); (try clear hi); (try clear ho0)) | ((with_reducible refine gate_dst (N := 3) rfl ?_); refine box_event ?hg (N := 3) ?hd (cs := #[.int .i64 0, .slice none 0 0]) (t := 26) ?hr ?_; (case hd => rfl); (case hg => rfl); (case hr => first | (go_simp; done) | (go_simp; rfl)); intro gb138 hg w7 hbox hb; replace HO137 := Aside0.mk (Kd.R_below (R_a HO137.out) hb); have n1_ := Aside0.mk (IsS70.below (IsS70.a) hb); have n2_ := Aside0.mk (blk_below (g := gb133) blk_c hb); have n3_ := Aside0.mk (KeepBut.trans (by repeat (first | (with_reducible first | exact HK.out | apply KeepBut.set_ | apply keep_drewN | apply keep_drew | apply keep_alloc | refine keep_far ?_ GW133.out _) | exact HK.out)) (KeepBut.of_below hb g none) (.inl rfl)); replace HB := Aside0.mk (below_step (by repeat (first | (with_reducible first | exact HB.out | apply below_alloc | apply pw_below_drewN | apply below_drew1 | refine below_set ?_ (IsS70.ge HI0.out) | refine below_set ?_ GE133.out) | exact HB.out)) hb); have BK138 := Aside0.mk (hbox); have GW138 := Aside0.mk ((by rw [hg]; exact (keep_size (w := w) (g := g) (row := none) (by repeat (first | (with_reducible first | exact HK.out | apply KeepBut.set_ | apply keep_drewN | apply keep_drew | apply keep_alloc | refine keep_far ?_ GW133.out _) | exact HK.out))) : w.heap.size ≤ gb138)); have GE138 := Aside0.mk ((Nat.le_trans HW0.out (by rw [hg]; exact (keep_size (w := w) (g := g) (row := none) (by repeat (first | (with_reducible first | exact HK.out | apply KeepBut.set_ | apply keep_drewN | apply keep_drew | apply keep_alloc | refine keep_far ?_ GW133.out _) | exact HK.out))) : w.heap.size ≤ gb138) : w0.heap.size ≤ gb138)); have NB133_138 := Aside0.mk (bne_ (g := gb133) hg); have NB138_133 := Aside0.mk (bne_ (g := gb133) hg).symm; have NB0_138 := Aside0.mk ((by rw [hg]; exact Nat.ne_of_lt (IsS70.lt (show IsS70 w0 _ g s0_0 s0_1 from IsS70.a)) : g ≠ gb138)); have NB138_0 := Aside0.mk ((by rw [hg]; exact Nat.ne_of_gt (IsS70.lt (show IsS70 w0 _ g s0_0 s0_1 from IsS70.a)) : gb138 ≠ g)); replace HI0 := n1_; replace BK133 := n2_; replace HK := n3_; clear n1_ n2_ n3_; clear hb hbox hg; have hnb8 := NB138_133.out; have hnc8 := NB133_138.out; have hnb9 := NB138_0.out; have hnc9 := NB0_138.out; obtain ⟨hcz10_0, hcz10_1, hfz10_0, hfz10_1⟩ := bc2_ BK138.out; obtain ⟨Ao11, co11, eo11⟩ := Kd.R_slice HO137.out; subst eo11) | ((with_reducible refine gate_dst (N := 10) rfl ?_); refine Kd.R_lit (Kd.int .i64) _ 2 ?hg (N := 10) ?hd (xs := ([0, 0, 5, 900] : List Int)) (inner := [.int .i64 0, .int .i64 0, .int .i64 5, .int .i64 900]) (ok := fun _ => True) (okp := fun _ => True) ?hr ?hp (fun _ hk => hk) trivial (Below.refl _ _) (Nat.le_refl _) (by simp) ?_; (case hd => rfl); (case hg => rfl); (case hr => first | (go_simp; done) | (go_simp; rfl)); (case hp => exact (Reps.one (show Kd.M (Kd.int .i64) _ _ _ 0 [.int .i64 0] from rfl) (Reps.one (show Kd.M (Kd.int .i64) _ _ _ 0 [.int .i64 0] from rfl) (Reps.one (show Kd.M (Kd.int .i64) _ _ _ 5 [.int .i64 5] from rfl) (Reps.one (show Kd.M (Kd.int .i64) _ _ _ 900 [.int .i64 900] from rfl) (Reps.none _ _)))))); intro v140 w12 ho13 hb hg_ hnew_; clear hg_ hnew_; (first | rw [← Ny139.out] at ho13 | (simp only [Int.reduceToNat] at ho13; rw [← Ny139.out] at ho13)); have n0_ := Aside0.mk (Kd.R_elder' (by (with_reducible repeat (first | apply Kd.R_alloc | apply Kd.R_drewN | apply Kd.R_drew)); exact (Kd.R_mono (Kd.R_far (p := ⟨gb138, 1, none⟩) (Kd.R_far (p := ⟨gb138, 0, none⟩) (Kd.R_types HO137.out BK138.out (by decide)) (fun _ hk => hk.2) (.int .i64 t134)) (fun _ hk => hk.2) (.slice Ao11 t135.length co11)) (fun _ h_ => h_.1))) (Kd.R_base ho13) hb); have HO141 := Aside0.mk (Kd.R_lower (Kd.R_new' ho13 (Kd.R_lt (by (with_reducible repeat (first | apply Kd.R_alloc | apply Kd.R_drewN | apply Kd.R_drew)); exact (Kd.R_mono (Kd.R_far (p := ⟨gb138, 1, none⟩) (Kd.R_far (p := ⟨gb138, 0, none⟩) (Kd.R_types HO137.out BK138.out (by decide)) (fun _ hk => hk.2) (.int .i64 t134)) (fun _ hk => hk.2) (.slice Ao11 t135.length co11)) (fun _ h_ => h_.1))))) (keep_size (w := w) (g := g) (row := none) (by repeat (first | (with_reducible first | exact HK.out | apply KeepBut.set_ | apply keep_drewN | apply keep_drew | apply keep_alloc | refine keep_far ?_ GW133.out _ | refine keep_far ?_ GW138.out _) | exact HK.out)))); have n2_ := Aside0.mk (IsS70.below (show IsS70 w0 ((w7.setCell ⟨gb138, 0, none⟩ (.int .i64 t134)).setCell ⟨gb138, 1, none⟩ (.slice Ao11 t135.length co11)) g s0_0 s0_1 from IsS70.a) hb); replace BK133 := Aside0.mk (blk_below (g := gb133) blk_c hb); replace BK138 := Aside0.mk (blk_below (g := gb138) (o := .cells #[.int .i64 t134, .slice Ao11 t135.length co11] 26 (0, 0)) blk_a hb); replace HK := Aside0.mk (KeepBut.trans (by repeat (first | (with_reducible first | exact HK.out | apply KeepBut.set_ | apply keep_drewN | apply keep_drew | apply keep_alloc | refine keep_far ?_ GW133.out _ | refine keep_far ?_ GW138.out _) | exact HK.out)) (KeepBut.of_below hb g none) (.inl rfl)); replace HB := Aside0.mk (below_step (by repeat (first | (with_reducible first | exact HB.out | apply below_alloc | apply pw_below_drewN | apply below_drew1 | refine below_set ?_ (IsS70.ge HI0.out) | refine below_set ?_ GE133.out | refine below_set ?_ GE138.out) | exact HB.out)) hb); replace HO137 := n0_; replace HI0 := n2_; clear n0_ n2_; clear hb ho13; obtain ⟨Ao14, co14, eo14⟩ := Kd.R_slice HO141.out; subst eo14) | ((with_reducible refine gate_callee (f := 38) rfl ?_); refine goesL_ (some 11) rfl rfl Try.func38 (by kernel_rfl) rfl #[.pointer (some ⟨g, 0, none⟩), .slice Ao14 y139.length co14] rfl args_a ?_; (with_reducible refine (spec_l1Pick.calls g s0_0 s0_1 _ _ y139 t142 t143 w0 _ ?side1 ?side2 ?side3 ?side4 ?side5 A3.out).mono ?_); (case side1 => exact IsS70.a); (case side2 => repeat (first | (with_reducible first | exact HB.out | apply below_alloc | apply pw_below_drewN | apply below_drew1 | refine below_set ?_ (IsS70.ge HI0.out) | refine below_set ?_ GE133.out | refine below_set ?_ GE138.out) | exact HB.out)); (case side3 => repeat (first | exact (Kd.R_reads' HO141.out).2.2 | (with_reducible refine Kd.C_alloc ?_ _) | (with_reducible refine Kd.C_drewN ?_ _) | (with_reducible refine Kd.C_drew ?_))); (case side4 => exact (Kd.R_reads' HO141.out).2.1); (case side5 => exact far_slice (IsS70.own_ne HI0.out HO141.out (by decide))); rintro e w15 ⟨rfl, hi, hb, hk⟩; refine ⟨_, rfl, ?_⟩; have n0_ := Aside0.mk (KeepBut.blk hk (g' := gb133) blk_c NB133_0.out (by simp)); replace HO137 := Aside0.mk (Kd.R_mono (Kd.R_keep (IsS70.apart (show IsS70 w0 _ g s0_0 s0_1 from IsS70.a) (R_a HO137.out) (by decide)) hk (fun _ h => h.2)) (fun _ h => h.1)); replace BK138 := Aside0.mk (KeepBut.blk hk (g' := gb138) blk_c NB138_0.out (by simp)); replace HO141 := Aside0.mk (Kd.R_mono (Kd.R_keep (IsS70.apart (show IsS70 w0 _ g s0_0 s0_1 from IsS70.a) (R_a HO141.out) (by decide)) hk (fun _ h => h.2)) (fun _ h => h.1)); replace HK := Aside0.mk (KeepBut.trans (by repeat (first | (with_reducible first | exact HK.out | apply KeepBut.set_ | apply keep_drewN | apply keep_drew | apply keep_alloc | refine keep_far ?_ GW133.out _ | refine keep_far ?_ GW138.out _) | exact HK.out)) hk (.inl rfl)); replace HB := Aside0.mk (hb); replace HI0 := Aside0.mk (hi); replace BK133 := n0_; clear n0_; (try clear hb); (try clear hb2); (try clear hk); (try clear hi)) | ((with_reducible refine gate_callee (f := 39) rfl ?_); refine goesL_ (some 13) rfl rfl Try.func39 (by kernel_rfl) rfl #[.pointer (some ⟨g, 0, none⟩), .int .i64 9] rfl args_a ?_; (with_reducible refine (spec_l1Next.calls g s0_0 t143 9 t144 t145 w0 _ ?side1 ?side2 A4.out).mono ?_); (case side1 => exact IsS70.a); (case side2 => repeat (first | (with_reducible first | exact HB.out | apply below_alloc | apply pw_below_drewN | apply below_drew1 | refine below_set ?_ (IsS70.ge HI0.out) | refine below_set ?_ GE133.out | refine below_set ?_ GE138.out) | exact HB.out)); rintro e w16 ⟨rfl, hi, hb, hk⟩; refine ⟨_, rfl, ?_⟩; have n0_ := Aside0.mk (KeepBut.blk hk (g' := gb133) blk_c NB133_0.out (by simp)); replace HO137 := Aside0.mk (Kd.R_mono (Kd.R_keep (IsS70.apart (show IsS70 w0 _ g s0_0 t143 from IsS70.a) (R_a HO137.out) (by decide)) hk (fun _ h => h.2)) (fun _ h => h.1)); replace BK138 := Aside0.mk (KeepBut.blk hk (g' := gb138) blk_c NB138_0.out (by simp)); replace HO141 := Aside0.mk (Kd.R_mono (Kd.R_keep (IsS70.apart (show IsS70 w0 _ g s0_0 t143 from IsS70.a) (R_a HO141.out) (by decide)) hk (fun _ h => h.2)) (fun _ h => h.1)); replace HK := Aside0.mk (KeepBut.trans (by repeat (first | (with_reducible first | exact HK.out | apply KeepBut.set_ | apply keep_drewN | apply keep_drew | apply keep_alloc | refine keep_far ?_ GW133.out _ | refine keep_far ?_ GW138.out _) | exact HK.out)) hk (.inl rfl)); replace HB := Aside0.mk (hb); replace HI0 := Aside0.mk (hi); replace BK133 := n0_; clear n0_; (try clear hb); (try clear hb2); (try clear hk); (try clear hi)))
 go_loopg [5] k (fun kq v5 w' => ∃ (x5_1 : Int) (x1001_1 : Int) (x139000_1 : Int) (x139001_1 : List Int) (u139001 : Value), v5 = .int .i64 x5_1 ∧ Aside0 (spec_l6Draw.l0 kq t142 x5_1 s0_0 x1001_1 x139000_1 x139001_1 = some (r1, r2, r3)) ∧ Aside0 (kq ≤ k) ∧ Aside0 (Kd.R (Kd.int .i64) 2 w' w.heap.size (fun _ => True) u139001 x139001_1) ∧ Aside0 (w'.heap[gb133]? = some (.cells #[.int .i64 0, (.slice none 0 0)] 26 (0, 0))) ∧ Aside0 (w'.heap[gb138]? = some (.cells #[.int .i64 x139000_1, u139001] 26 (0, 0))) ∧ Aside0 (IsS70 w0 w' g s0_0 x1001_1) ∧ Aside0 (KeepBut w w' g none) ∧ Aside0 (Below w0.heap.size w0 w'))
 case atStart => exact ⟨(t144), (t145), (t134), (t135), (.slice Ao11 t135.length co11), eq_b, H', ⟨Nat.le_refl _⟩, ⟨by (with_reducible repeat (first | apply Kd.R_alloc | apply Kd.R_drewN | apply Kd.R_drew)); exact Kd.R_mono HO137.out (fun _ hk => trivial)⟩, ⟨blk_a⟩, ⟨blk_a⟩, ⟨IsS70.a⟩, ⟨by repeat (first | (with_reducible first | exact HK.out | apply KeepBut.set_ | apply keep_drewN | apply keep_drew | apply keep_alloc | refine keep_far ?_ GW133.out _ | refine keep_far ?_ GW138.out _) | exact HK.out)⟩, ⟨by repeat (first | (with_reducible first | exact HB.out | apply below_alloc | apply pw_below_drewN | apply below_drew1 | refine below_set ?_ (IsS70.ge HI0.out) | refine below_set ?_ GE133.out | refine below_set ?_ GE138.out) | exact HB.out)⟩⟩
 case round =>
  clear H'
  try clear p2
  try clear c3
  try clear c4
  try clear c6
  try clear c8
  try clear c9
  try clear hcz10_0 hcz10_1
  try clear hfz10_0 hfz10_1
  obtain ⟨x5_1, x1001_1, x139000_1, x139001_1, u139001, rfl, HA, HK1, HO_139001, BK133, BK138, HI0, HK, HB⟩ := hrel
  cases gk with
  | zero => exact absurd HA.out (by simp [spec_l6Draw.l0])
  | succ k1 =>
   have H := HA.out; clear HA; simp only [spec_l6Draw.l0] at H
   by_cases c17 : x5_1 > 0
   ·
    rw [if_pos c17] at H; have c17b0 : decide (0 < x5_1) = true := decide_eq_true c17; clear c17; replace H := Option.bind_eq_some_iff.mp H; obtain ⟨⟨t146, t147⟩, A180, H⟩ := H; replace H : ((spec_l6Take.f k1 x139000_1 x139001_1 (wrap64 (t142 + t146))).bind fun bt148 => (if bt148.2.2 = 0 then (spec_l6Draw.l0 k1 t142 (wrap64 (x5_1 - 1)) s0_0 t147 bt148.1 bt148.2.1) else (spec_l6Draw.l0 k1 t142 (wrap64 (x5_1 - 1)) s0_0 t147 x139000_1 x139001_1))) = some (r1, r2, r3) := H; have A18 := Aside0.mk A180; clear A180; replace H := Option.bind_eq_some_iff.mp H; obtain ⟨⟨t148, t149, t152⟩, A190, H⟩ := H; replace H : (if t152 = 0 then (spec_l6Draw.l0 k1 t142 (wrap64 (x5_1 - 1)) s0_0 t147 t148 t149) else (spec_l6Draw.l0 k1 t142 (wrap64 (x5_1 - 1)) s0_0 t147 x139000_1 x139001_1)) = some (r1, r2, r3) := H; have A19 := Aside0.mk A190; clear A190
    by_cases c20 : t152 = 0
    ·
     rw [if_pos c20] at H; have c20b0 : (t152 == 0) = true := beq_iff_eq.mpr c20; have c20b1 : (t152 != 0) = false := bne_eq_false_iff_eq.mpr c20; clear c20; have H' := Aside0.mk H; clear H
     go_wp2_with (first | ((with_reducible refine gate_callee (f := 39) rfl ?_); refine goesL_ (some 21) rfl rfl Try.func39 (by kernel_rfl) rfl #[.pointer (some ⟨g, 0, none⟩), .int .i64 24] rfl args_a ?_; (with_reducible refine (spec_l1Next.calls g s0_0 x1001_1 24 t146 t147 w0 _ ?side1 ?side2 A18.out).mono ?_); (case side1 => exact IsS70.a); (case side2 => repeat (first | (with_reducible first | exact HB.out | apply below_alloc | apply pw_below_drewN | apply below_drew1 | refine below_set ?_ (IsS70.ge HI0.out) | refine below_set ?_ GE133.out | refine below_set ?_ GE138.out) | exact HB.out)); rintro e w21 ⟨rfl, hi, hb, hk⟩; refine ⟨_, rfl, ?_⟩; replace HO_139001 := Aside0.mk (Kd.R_mono (Kd.R_keep (IsS70.apart (show IsS70 w0 _ g s0_0 x1001_1 from IsS70.a) (R_a HO_139001.out) (by decide)) hk (fun _ h => h.2)) (fun _ h => h.1)); have n1_ := Aside0.mk (KeepBut.blk hk (g' := gb133) blk_c NB133_0.out (by simp)); replace BK138 := Aside0.mk (KeepBut.blk hk (g' := gb138) blk_c NB138_0.out (by simp)); replace HK := Aside0.mk (KeepBut.trans (by repeat (first | (with_reducible first | exact HK.out | apply KeepBut.set_ | apply keep_drewN | apply keep_drew | apply keep_alloc | refine keep_far ?_ GW133.out _ | refine keep_far ?_ GW138.out _) | exact HK.out)) hk (.inl rfl)); replace HB := Aside0.mk (hb); replace HI0 := Aside0.mk (hi); replace BK133 := n1_; clear n1_; (try clear hb); (try clear hb2); (try clear hk); (try clear hi); obtain ⟨Ao22, co22, eo22⟩ := Kd.R_slice HO_139001.out; subst eo22) | (go_at_call 49; (with_reducible refine (spec_l6Take.calls k1 _ x139000_1 Ao22 co22 x139001_1 (wrap64 (t142 + t146)) t148 t149 t152 _ ?side1 ?side2 ?side3 ?side4 A19.out).mono ?_); (case side1 => repeat (first | exact (Kd.R_reads' HO_139001.out).2.2 | (with_reducible refine Kd.C_alloc ?_ _) | (with_reducible refine Kd.C_drewN ?_ _) | (with_reducible refine Kd.C_drew ?_))); (case side2 => exact (Kd.R_reads' HO_139001.out).2.1); (case side3 => exact (blk_cell blk_a 0).trans rfl); (case side4 => exact (blk_cell blk_a 1).trans rfl); rintro e w23 ⟨v150, rfl, ho0, hb⟩; have n0_ := Aside0.mk (Kd.R_elder' (R_a HO_139001.out) (Kd.R_base ho0) hb); have HO151 := Aside0.mk (Kd.R_lower (Kd.R_new' ho0 (Kd.R_lt (R_a HO_139001.out))) (keep_size (w := w) (g := g) (row := none) (by repeat (first | (with_reducible first | exact HK.out | apply KeepBut.set_ | apply keep_drewN | apply keep_drew | apply keep_alloc | refine keep_far ?_ GW133.out _ | refine keep_far ?_ GW138.out _) | exact HK.out)))); replace BK133 := Aside0.mk (blk_below (g := gb133) blk_c hb); replace BK138 := Aside0.mk (blk_below (g := gb138) blk_c hb); have n4_ := Aside0.mk (IsS70.below (IsS70.a) hb); replace HK := Aside0.mk (KeepBut.trans (by repeat (first | (with_reducible first | exact HK.out | apply KeepBut.set_ | apply keep_drewN | apply keep_drew | apply keep_alloc | refine keep_far ?_ GW133.out _ | refine keep_far ?_ GW138.out _) | exact HK.out)) (KeepBut.of_below hb g none) (.inl rfl)); replace HB := Aside0.mk (below_step (by repeat (first | (with_reducible first | exact HB.out | apply below_alloc | apply pw_below_drewN | apply below_drew1 | refine below_set ?_ (IsS70.ge HI0.out) | refine below_set ?_ GE133.out | refine below_set ?_ GE138.out) | exact HB.out)) hb); replace HO_139001 := n0_; replace HI0 := n4_; clear n0_ n4_; (try clear hb); (try clear hb2); (try clear hk); (try clear hi); (try clear ho0)) | ((with_reducible refine gate_dst (N := 6) rfl ?_); refine box_event ?hg (N := 6) ?hd (cs := #[.int .i64 0, .slice none 0 0]) (t := 26) ?hr ?_; (case hd => rfl); (case hg => rfl); (case hr => first | (go_simp; done) | (go_simp; rfl)); intro gb153 hg w24 hbox hb; replace HO_139001 := Aside0.mk (Kd.R_below (R_a HO_139001.out) hb); replace HO151 := Aside0.mk (Kd.R_below (R_a HO151.out) hb); have n2_ := Aside0.mk (blk_below (g := gb133) blk_c hb); have n3_ := Aside0.mk (blk_below (g := gb138) blk_c hb); have n4_ := Aside0.mk (IsS70.below (IsS70.a) hb); have n5_ := Aside0.mk (KeepBut.trans (by repeat (first | (with_reducible first | exact HK.out | apply KeepBut.set_ | apply keep_drewN | apply keep_drew | apply keep_alloc | refine keep_far ?_ GW133.out _ | refine keep_far ?_ GW138.out _) | exact HK.out)) (KeepBut.of_below hb g none) (.inl rfl)); replace HB := Aside0.mk (below_step (by repeat (first | (with_reducible first | exact HB.out | apply below_alloc | apply pw_below_drewN | apply below_drew1 | refine below_set ?_ (IsS70.ge HI0.out) | refine below_set ?_ GE133.out | refine below_set ?_ GE138.out) | exact HB.out)) hb); have BK153 := Aside0.mk (hbox); have GW153 := Aside0.mk ((by rw [hg]; exact (keep_size (w := w) (g := g) (row := none) (by repeat (first | (with_reducible first | exact HK.out | apply KeepBut.set_ | apply keep_drewN | apply keep_drew | apply keep_alloc | refine keep_far ?_ GW133.out _ | refine keep_far ?_ GW138.out _) | exact HK.out))) : w.heap.size ≤ gb153)); have GE153 := Aside0.mk ((Nat.le_trans HW0.out (by rw [hg]; exact (keep_size (w := w) (g := g) (row := none) (by repeat (first | (with_reducible first | exact HK.out | apply KeepBut.set_ | apply keep_drewN | apply keep_drew | apply keep_alloc | refine keep_far ?_ GW133.out _ | refine keep_far ?_ GW138.out _) | exact HK.out))) : w.heap.size ≤ gb153) : w0.heap.size ≤ gb153)); have NB133_153 := Aside0.mk (bne_ (g := gb133) hg); have NB153_133 := Aside0.mk (bne_ (g := gb133) hg).symm; have NB138_153 := Aside0.mk (bne_ (g := gb138) hg); have NB153_138 := Aside0.mk (bne_ (g := gb138) hg).symm; have NB0_153 := Aside0.mk ((by rw [hg]; exact Nat.ne_of_lt (IsS70.lt (show IsS70 w0 _ g s0_0 t147 from IsS70.a)) : g ≠ gb153)); have NB153_0 := Aside0.mk ((by rw [hg]; exact Nat.ne_of_gt (IsS70.lt (show IsS70 w0 _ g s0_0 t147 from IsS70.a)) : gb153 ≠ g)); replace BK133 := n2_; replace BK138 := n3_; replace HI0 := n4_; replace HK := n5_; clear n2_ n3_ n4_ n5_; clear hb hbox hg; have hnb25 := NB153_133.out; have hnc25 := NB133_153.out; have hnb26 := NB153_138.out; have hnc26 := NB138_153.out; have hnb27 := NB153_0.out; have hnc27 := NB0_153.out; obtain ⟨hcz28_0, hcz28_1, hfz28_0, hfz28_1⟩ := bc2_ BK153.out; obtain ⟨Ao29, co29, eo29⟩ := Kd.R_slice HO151.out; subst eo29; have hnb30 := NB138_133.out; have hnc30 := NB133_138.out; have hnb31 := NB138_0.out; have hnc31 := NB0_138.out; obtain ⟨hcz32_0, hcz32_1, hfz32_0, hfz32_1⟩ := bc2_ BK138.out))
     go_roundg k1
     case measure => have := HK1.out; omega
     case rel => exact ⟨(wrap64 (x5_1 - 1)), (t147), (t148), (t149), (.slice Ao29 t149.length co29), eq_b, H', ⟨by have := HK1.out; omega⟩, ⟨by (with_reducible repeat (first | apply Kd.R_alloc | apply Kd.R_drewN | apply Kd.R_drew)); exact Kd.R_mono (Kd.R_far (p := ⟨gb138, 1, none⟩) (Kd.R_far (p := ⟨gb138, 0, none⟩) (Kd.R_far (p := ⟨gb153, 1, none⟩) (Kd.R_far (p := ⟨gb153, 0, none⟩) (Kd.R_types (Kd.R_types HO151.out BK153.out (by decide)) BK138.out (by decide)) (fun _ hk => hk.1.2) (.int .i64 t148)) (fun _ hk => hk.1.2) (.slice Ao29 t149.length co29)) (fun _ hk => hk.2) (.int .i64 t148)) (fun _ hk => hk.2) (.slice Ao29 t149.length co29)) (fun _ hk => trivial)⟩, ⟨by (with_reducible repeat (first | refine blk_drewN ?_ _ | refine blk_drew ?_ | refine blk_alloc ?_ _)); refine blk_far ?_ NB133_138.out _; (with_reducible repeat (first | refine blk_drewN ?_ _ | refine blk_drew ?_ | refine blk_alloc ?_ _)); refine blk_far ?_ NB133_138.out _; (with_reducible repeat (first | refine blk_drewN ?_ _ | refine blk_drew ?_ | refine blk_alloc ?_ _)); refine blk_far ?_ NB133_153.out _; (with_reducible repeat (first | refine blk_drewN ?_ _ | refine blk_drew ?_ | refine blk_alloc ?_ _)); refine blk_far ?_ NB133_153.out _; (with_reducible repeat (first | refine blk_drewN ?_ _ | refine blk_drew ?_ | refine blk_alloc ?_ _)); exact BK133.out⟩, ⟨by (with_reducible repeat (first | refine blk_drewN ?_ _ | refine blk_drew ?_ | refine blk_alloc ?_ _)); refine blk_put (cs := #[.int .i64 t148, .slice Ao22 x139001_1.length co22]) ?_ 1 _ rfl; (with_reducible repeat (first | refine blk_drewN ?_ _ | refine blk_drew ?_ | refine blk_alloc ?_ _)); refine blk_put (cs := #[.int .i64 x139000_1, .slice Ao22 x139001_1.length co22]) ?_ 0 _ rfl; (with_reducible repeat (first | refine blk_drewN ?_ _ | refine blk_drew ?_ | refine blk_alloc ?_ _)); refine blk_far ?_ NB138_153.out _; (with_reducible repeat (first | refine blk_drewN ?_ _ | refine blk_drew ?_ | refine blk_alloc ?_ _)); refine blk_far ?_ NB138_153.out _; (with_reducible repeat (first | refine blk_drewN ?_ _ | refine blk_drew ?_ | refine blk_alloc ?_ _)); exact BK138.out⟩, ⟨IsS70.a⟩, ⟨by repeat (first | (with_reducible first | exact HK.out | apply KeepBut.set_ | apply keep_drewN | apply keep_drew | apply keep_alloc | refine keep_far ?_ GW133.out _ | refine keep_far ?_ GW138.out _ | refine keep_far ?_ GW153.out _) | exact HK.out)⟩, ⟨by repeat (first | (with_reducible first | exact HB.out | apply below_alloc | apply pw_below_drewN | apply below_drew1 | refine below_set ?_ (IsS70.ge HI0.out) | refine below_set ?_ GE133.out | refine below_set ?_ GE138.out | refine below_set ?_ GE153.out) | exact HB.out)⟩⟩
    ·
     rw [if_neg c20] at H; have c20b0 : (t152 == 0) = false := beq_eq_false_iff_ne.mpr c20; have c20b1 : (t152 != 0) = true := bne_iff_ne.mpr c20; have H' := Aside0.mk H; clear H
     go_wp2_with (first | ((with_reducible refine gate_callee (f := 39) rfl ?_); refine goesL_ (some 21) rfl rfl Try.func39 (by kernel_rfl) rfl #[.pointer (some ⟨g, 0, none⟩), .int .i64 24] rfl args_a ?_; (with_reducible refine (spec_l1Next.calls g s0_0 x1001_1 24 t146 t147 w0 _ ?side1 ?side2 A18.out).mono ?_); (case side1 => exact IsS70.a); (case side2 => repeat (first | (with_reducible first | exact HB.out | apply below_alloc | apply pw_below_drewN | apply below_drew1 | refine below_set ?_ (IsS70.ge HI0.out) | refine below_set ?_ GE133.out | refine below_set ?_ GE138.out) | exact HB.out)); rintro e w33 ⟨rfl, hi, hb, hk⟩; refine ⟨_, rfl, ?_⟩; replace HO_139001 := Aside0.mk (Kd.R_mono (Kd.R_keep (IsS70.apart (show IsS70 w0 _ g s0_0 x1001_1 from IsS70.a) (R_a HO_139001.out) (by decide)) hk (fun _ h => h.2)) (fun _ h => h.1)); have n1_ := Aside0.mk (KeepBut.blk hk (g' := gb133) blk_c NB133_0.out (by simp)); replace BK138 := Aside0.mk (KeepBut.blk hk (g' := gb138) blk_c NB138_0.out (by simp)); replace HK := Aside0.mk (KeepBut.trans (by repeat (first | (with_reducible first | exact HK.out | apply KeepBut.set_ | apply keep_drewN | apply keep_drew | apply keep_alloc | refine keep_far ?_ GW133.out _ | refine keep_far ?_ GW138.out _) | exact HK.out)) hk (.inl rfl)); replace HB := Aside0.mk (hb); replace HI0 := Aside0.mk (hi); replace BK133 := n1_; clear n1_; (try clear hb); (try clear hb2); (try clear hk); (try clear hi); obtain ⟨Ao34, co34, eo34⟩ := Kd.R_slice HO_139001.out; subst eo34) | (go_at_call 49; (with_reducible refine (spec_l6Take.calls k1 _ x139000_1 Ao34 co34 x139001_1 (wrap64 (t142 + t146)) t148 t149 t152 _ ?side1 ?side2 ?side3 ?side4 A19.out).mono ?_); (case side1 => repeat (first | exact (Kd.R_reads' HO_139001.out).2.2 | (with_reducible refine Kd.C_alloc ?_ _) | (with_reducible refine Kd.C_drewN ?_ _) | (with_reducible refine Kd.C_drew ?_))); (case side2 => exact (Kd.R_reads' HO_139001.out).2.1); (case side3 => exact (blk_cell blk_a 0).trans rfl); (case side4 => exact (blk_cell blk_a 1).trans rfl); rintro e w35 ⟨v150, rfl, ho0, hb⟩; have n0_ := Aside0.mk (Kd.R_elder' (R_a HO_139001.out) (Kd.R_base ho0) hb); have HO151 := Aside0.mk (Kd.R_lower (Kd.R_new' ho0 (Kd.R_lt (R_a HO_139001.out))) (keep_size (w := w) (g := g) (row := none) (by repeat (first | (with_reducible first | exact HK.out | apply KeepBut.set_ | apply keep_drewN | apply keep_drew | apply keep_alloc | refine keep_far ?_ GW133.out _ | refine keep_far ?_ GW138.out _) | exact HK.out)))); replace BK133 := Aside0.mk (blk_below (g := gb133) blk_c hb); replace BK138 := Aside0.mk (blk_below (g := gb138) blk_c hb); have n4_ := Aside0.mk (IsS70.below (IsS70.a) hb); replace HK := Aside0.mk (KeepBut.trans (by repeat (first | (with_reducible first | exact HK.out | apply KeepBut.set_ | apply keep_drewN | apply keep_drew | apply keep_alloc | refine keep_far ?_ GW133.out _ | refine keep_far ?_ GW138.out _) | exact HK.out)) (KeepBut.of_below hb g none) (.inl rfl)); replace HB := Aside0.mk (below_step (by repeat (first | (with_reducible first | exact HB.out | apply below_alloc | apply pw_below_drewN | apply below_drew1 | refine below_set ?_ (IsS70.ge HI0.out) | refine below_set ?_ GE133.out | refine below_set ?_ GE138.out) | exact HB.out)) hb); replace HO_139001 := n0_; replace HI0 := n4_; clear n0_ n4_; (try clear hb); (try clear hb2); (try clear hk); (try clear hi); (try clear ho0)) | ((with_reducible refine gate_dst (N := 6) rfl ?_); refine box_event ?hg (N := 6) ?hd (cs := #[.int .i64 0, .slice none 0 0]) (t := 26) ?hr ?_; (case hd => rfl); (case hg => rfl); (case hr => first | (go_simp; done) | (go_simp; rfl)); intro gb153 hg w36 hbox hb; replace HO_139001 := Aside0.mk (Kd.R_below (R_a HO_139001.out) hb); replace HO151 := Aside0.mk (Kd.R_below (R_a HO151.out) hb); have n2_ := Aside0.mk (blk_below (g := gb133) blk_c hb); have n3_ := Aside0.mk (blk_below (g := gb138) blk_c hb); have n4_ := Aside0.mk (IsS70.below (IsS70.a) hb); have n5_ := Aside0.mk (KeepBut.trans (by repeat (first | (with_reducible first | exact HK.out | apply KeepBut.set_ | apply keep_drewN | apply keep_drew | apply keep_alloc | refine keep_far ?_ GW133.out _ | refine keep_far ?_ GW138.out _) | exact HK.out)) (KeepBut.of_below hb g none) (.inl rfl)); replace HB := Aside0.mk (below_step (by repeat (first | (with_reducible first | exact HB.out | apply below_alloc | apply pw_below_drewN | apply below_drew1 | refine below_set ?_ (IsS70.ge HI0.out) | refine below_set ?_ GE133.out | refine below_set ?_ GE138.out) | exact HB.out)) hb); have BK153 := Aside0.mk (hbox); have GW153 := Aside0.mk ((by rw [hg]; exact (keep_size (w := w) (g := g) (row := none) (by repeat (first | (with_reducible first | exact HK.out | apply KeepBut.set_ | apply keep_drewN | apply keep_drew | apply keep_alloc | refine keep_far ?_ GW133.out _ | refine keep_far ?_ GW138.out _) | exact HK.out))) : w.heap.size ≤ gb153)); have GE153 := Aside0.mk ((Nat.le_trans HW0.out (by rw [hg]; exact (keep_size (w := w) (g := g) (row := none) (by repeat (first | (with_reducible first | exact HK.out | apply KeepBut.set_ | apply keep_drewN | apply keep_drew | apply keep_alloc | refine keep_far ?_ GW133.out _ | refine keep_far ?_ GW138.out _) | exact HK.out))) : w.heap.size ≤ gb153) : w0.heap.size ≤ gb153)); have NB133_153 := Aside0.mk (bne_ (g := gb133) hg); have NB153_133 := Aside0.mk (bne_ (g := gb133) hg).symm; have NB138_153 := Aside0.mk (bne_ (g := gb138) hg); have NB153_138 := Aside0.mk (bne_ (g := gb138) hg).symm; have NB0_153 := Aside0.mk ((by rw [hg]; exact Nat.ne_of_lt (IsS70.lt (show IsS70 w0 _ g s0_0 t147 from IsS70.a)) : g ≠ gb153)); have NB153_0 := Aside0.mk ((by rw [hg]; exact Nat.ne_of_gt (IsS70.lt (show IsS70 w0 _ g s0_0 t147 from IsS70.a)) : gb153 ≠ g)); replace BK133 := n2_; replace BK138 := n3_; replace HI0 := n4_; replace HK := n5_; clear n2_ n3_ n4_ n5_; clear hb hbox hg; have hnb37 := NB153_133.out; have hnc37 := NB133_153.out; have hnb38 := NB153_138.out; have hnc38 := NB138_153.out; have hnb39 := NB153_0.out; have hnc39 := NB0_153.out; obtain ⟨hcz40_0, hcz40_1, hfz40_0, hfz40_1⟩ := bc2_ BK153.out; obtain ⟨Ao41, co41, eo41⟩ := Kd.R_slice HO151.out; subst eo41))
     go_roundg k1
     case measure => have := HK1.out; omega
     case rel => exact ⟨(wrap64 (x5_1 - 1)), (t147), (x139000_1), (x139001_1), (.slice Ao34 x139001_1.length co34), eq_b, H', ⟨by have := HK1.out; omega⟩, ⟨by (with_reducible repeat (first | apply Kd.R_alloc | apply Kd.R_drewN | apply Kd.R_drew)); exact Kd.R_mono (Kd.R_far (p := ⟨gb153, 1, none⟩) (Kd.R_far (p := ⟨gb153, 0, none⟩) (Kd.R_types HO_139001.out BK153.out (by decide)) (fun _ hk => hk.2) (.int .i64 t148)) (fun _ hk => hk.2) (.slice Ao41 t149.length co41)) (fun _ hk => trivial)⟩, ⟨blk_a⟩, ⟨blk_a⟩, ⟨IsS70.a⟩, ⟨by repeat (first | (with_reducible first | exact HK.out | apply KeepBut.set_ | apply keep_drewN | apply keep_drew | apply keep_alloc | refine keep_far ?_ GW133.out _ | refine keep_far ?_ GW138.out _ | refine keep_far ?_ GW153.out _) | exact HK.out)⟩, ⟨by repeat (first | (with_reducible first | exact HB.out | apply below_alloc | apply pw_below_drewN | apply below_drew1 | refine below_set ?_ (IsS70.ge HI0.out) | refine below_set ?_ GE133.out | refine below_set ?_ GE138.out | refine below_set ?_ GE153.out) | exact HB.out)⟩⟩
   ·
    rw [if_neg c17] at H; have c17b0 : decide (0 < x5_1) = false := decide_eq_false c17; clear c17; simp only [Option.some.injEq, Prod.mk.injEq] at H; obtain ⟨rfl, rfl, rfl⟩ := H; have hnb42 := NB138_133.out; have hnc42 := NB133_138.out; have hnb43 := NB138_0.out; have hnc43 := NB0_138.out; obtain ⟨hcz44_0, hcz44_1, hfz44_0, hfz44_1⟩ := bc2_ BK138.out; have hnb45 := NB133_0.out; have hnc45 := NB0_133.out; obtain ⟨hcz46_0, hcz46_1, hfz46_0, hfz46_1⟩ := bc2_ BK133.out; obtain ⟨Ao47, co47, eo47⟩ := Kd.R_slice HO_139001.out; subst eo47
    go_wp2
    refine bodyPost_ret (results_cell_row rfl _ _ gb133 26 #[.int .i64 x139000_1, .slice Ao47 x139001_1.length co47] (0, 0) _ rfl blk_a Try.underlying26 rfl (by kernel_rfl)) rfl ?_; exact ⟨_, eq_a, by (with_reducible repeat (first | apply Kd.R_alloc | apply Kd.R_drewN | apply Kd.R_drew)); exact Kd.R_mono (Kd.R_far (p := ⟨gb133, 1, none⟩) (Kd.R_far (p := ⟨gb133, 0, none⟩) (Kd.R_types HO_139001.out BK133.out (by decide)) (fun _ hk => hk.2) (.int .i64 x139000_1)) (fun _ hk => hk.2) (.slice Ao47 x139001_1.length co47)) (fun _ hk => trivial), IsS70.a, by repeat (first | (with_reducible first | exact HB.out | apply below_alloc | apply pw_below_drewN | apply below_drew1 | refine below_set ?_ (IsS70.ge HI0.out) | refine below_set ?_ GE133.out | refine below_set ?_ GE138.out) | exact HB.out), by repeat (first | (with_reducible first | exact HK.out | apply KeepBut.set_ | apply keep_drewN | apply keep_drew | apply keep_alloc | refine keep_far ?_ GW133.out _ | refine keep_far ?_ GW138.out _) | exact HK.out)⟩

/-! ### spec_l6Bent: function 37 -/
def spec_l6Bent.f (k : Nat) (s0_0 : List Int) (s0_1 : Int) : Option (Int × List Int × Int) := (spec_l6Draw.f k s0_0 s0_1).bind fun bt155 => ((spec_l1Next.f s0_0 bt155.2.2 12).bind fun bt161 => (if bt161.1 = 0 then ((spec_l1Pick.f s0_0 bt161.2 (([(-2), (-1), 7, 1000000000, 1000000001] : List Int))).bind fun bt166 => (some (bt166.1, bt155.2.1, bt166.2))) else (if bt161.1 = 1 then ((spec_l1Pick.f s0_0 bt161.2 (([0, (-1), bt155.1, wrap64 (bt155.1 + 1)] : List Int))).bind fun bt171 => (if bt155.2.1.length < 17592186044416 then (some (bt155.1, (bt155.2.1 ++ [bt171.1]), bt171.2)) else (none))) else (if bt161.1 = 2 then (some (bt155.1, ([] : List Int), bt161.2)) else (some (bt155.1, bt155.2.1, bt161.2))))))
theorem spec_l6Bent.mono : ∀ a0 a1 k, LeO (spec_l6Bent.f k a0 a1) (spec_l6Bent.f (k + 1) a0 a1) := by
 intro a0 a1 k
 unfold spec_l6Bent.f
 repeat' first
   | (with_reducible exact spec_l6Draw.mono _ _ _)
   | (with_reducible exact LeO.refl _)
   | (with_reducible exact LeO.none _)
   | (with_reducible refine LeO.ite ?_ ?_)
   | (with_reducible refine LeO.bind ?_ (fun _ => ?_))
   | exact spec_l6Draw.mono _ _ _
   | exact LeO.none _
   | refine LeO.ite ?_ ?_
   | refine LeO.bind ?_ (fun _ => ?_)
def spec_l6Bent.T6 : Bool × List (List Nat × List Nat) := (true, [([], []), ([0], [0]), ([], []), ([], []), ([3], [3]), ([], []), ([5], [5]), ([6], [6]), ([4, 7], [4, 7]), ([2, 8], [2, 8]), ([9], [9]), ([1, 10, 9], [1, 10]), ([0, 1, 2, 3, 4, 5, 6, 7, 8, 9, 10, 11], []), ([12, 11, 11, 0, 1, 2, 3, 4, 5, 6, 7, 8, 9, 10, 11], [11, 12])])
def spec_l6Bent.B6 : List Nat := [0, 1, 0, 0, 8, 0, 32, 96, 248, 508, 1020, 2047, 4095, 8191]
theorem spec_l6Bent.tab6 : rtab .any (opsOf Try.f37 6) = spec_l6Bent.T6 := by kernel_rfl
theorem spec_l6Bent.bits6 : waitsOk spec_l6Bent.T6.2 spec_l6Bent.B6 = true := by kernel_rfl
set_option maxHeartbeats 8000000 in
set_option maxRecDepth 100000 in
theorem spec_l6Bent.calls (k : Nat) (g : Nat) (s0_0 : List Int) (s0_1 : Int) (r1 : Int) (r2 : List Int) (r3 : Int) (w0 w : World) (hI : IsS70 w0 w g s0_0 s0_1) (hB : Below w0.heap.size w0 w) (h : spec_l6Bent.f k s0_0 s0_1 = some (r1, r2, r3)) :
  Calls Try.prog 37 #[.pointer (some ⟨g, 0, none⟩)] w fun e w' => ∃ v1_ : Value, e = .returned (.agg #[.int .i64 r1, v1_]) ∧ Kd.R (Kd.int .i64) 2 w' w.heap.size (fun _ => True) v1_ r2 ∧ IsS70 w0 w' g s0_0 r3 ∧ Below w0.heap.size w0 w' ∧ KeepBut w w' g none := by
 have hu26 := Try.underlying26
 have HI0 := Aside0.mk hI
 have HK := Aside0.mk (KeepBut.refl w g none)
 have HL := Aside0.mk hB.size
 clear hI
 have HW0 := Aside0.mk hB.size
 have HB := Aside0.mk hB
 clear hB
 have H : ((spec_l6Draw.f k s0_0 s0_1).bind fun bt155 => ((spec_l1Next.f s0_0 bt155.2.2 12).bind fun bt161 => (if bt161.1 = 0 then ((spec_l1Pick.f s0_0 bt161.2 (([(-2), (-1), 7, 1000000000, 1000000001] : List Int))).bind fun bt166 => (some (bt166.1, bt155.2.1, bt166.2))) else (if bt161.1 = 1 then ((spec_l1Pick.f s0_0 bt161.2 (([0, (-1), bt155.1, wrap64 (bt155.1 + 1)] : List Int))).bind fun bt171 => (if bt155.2.1.length < 17592186044416 then (some (bt155.1, (bt155.2.1 ++ [bt171.1]), bt171.2)) else (none))) else (if bt161.1 = 2 then (some (bt155.1, ([] : List Int), bt161.2)) else (some (bt155.1, bt155.2.1, bt161.2))))))) = some (r1, r2, r3) := h
 clear h
 replace H := Option.bind_eq_some_iff.mp H
 obtain ⟨⟨t155, t156, t159⟩, A20, H⟩ := H
 replace H : ((spec_l1Next.f s0_0 t159 12).bind fun bt161 => (if bt161.1 = 0 then ((spec_l1Pick.f s0_0 bt161.2 (([(-2), (-1), 7, 1000000000, 1000000001] : List Int))).bind fun bt166 => (some (bt166.1, t156, bt166.2))) else (if bt161.1 = 1 then ((spec_l1Pick.f s0_0 bt161.2 (([0, (-1), t155, wrap64 (t155 + 1)] : List Int))).bind fun bt171 => (if t156.length < 17592186044416 then (some (t155, (t156 ++ [bt171.1]), bt171.2)) else (none))) else (if bt161.1 = 2 then (some (t155, ([] : List Int), bt161.2)) else (some (t155, t156, bt161.2)))))) = some (r1, r2, r3) := H
 have A2 := Aside0.mk A20
 clear A20
 replace H := Option.bind_eq_some_iff.mp H
 obtain ⟨⟨t161, t162⟩, A30, H⟩ := H
 replace H : (if t161 = 0 then ((spec_l1Pick.f s0_0 t162 (([(-2), (-1), 7, 1000000000, 1000000001] : List Int))).bind fun bt166 => (some (bt166.1, t156, bt166.2))) else (if t161 = 1 then ((spec_l1Pick.f s0_0 t162 (([0, (-1), t155, wrap64 (t155 + 1)] : List Int))).bind fun bt171 => (if t156.length < 17592186044416 then (some (t155, (t156 ++ [bt171.1]), bt171.2)) else (none))) else (if t161 = 2 then (some (t155, ([] : List Int), t162)) else (some (t155, t156, t162))))) = some (r1, r2, r3) := H
 have A3 := Aside0.mk A30
 clear A30
 by_cases c4 : t161 = 0
 ·
  rw [if_pos c4] at H; have c4b0 : (t161 == 0) = true := beq_iff_eq.mpr c4; have c4b1 : (t161 != 0) = false := bne_eq_false_iff_eq.mpr c4; clear c4; obtain ⟨y163, hy163⟩ : ∃ y_ : List Int, y_ = (([(-2), (-1), 7, 1000000000, 1000000001] : List Int)) := ⟨_, rfl⟩; replace H : ((spec_l1Pick.f s0_0 t162 y163).bind fun bt166 => (some (bt166.1, t156, bt166.2))) = some (r1, r2, r3) := by first | (rw [hy163]; with_reducible exact H) | (have H2_ := (Option.bind_some _ _).symm.trans H; rw [hy163]; with_reducible exact H2_) | (have H2_ := (Option.bind_some _ _).symm.trans H; with_reducible exact H2_) | with_reducible exact H | (rw [hy163]; exact H) | exact H
  have Ny163 := Aside0.mk hy163; clear hy163; replace H := Option.bind_eq_some_iff.mp H; obtain ⟨⟨t166, t167⟩, A50, H⟩ := H; replace H : (some (t166, t156, t167)) = some (r1, r2, r3) := H; have A5 := Aside0.mk A50; clear A50; simp only [Option.some.injEq, Prod.mk.injEq] at H; obtain ⟨rfl, rfl, rfl⟩ := H
  go_enter Try.func37, Try.ntmps37
  go_wp2_with (first | ((with_reducible refine gate_dst (N := 2) rfl ?_); refine box_event ?hg (N := 2) ?hd (cs := #[.int .i64 0, .slice none 0 0]) (t := 26) ?hr ?_; (case hd => rfl); (case hg => rfl); (case hr => first | (go_simp; done) | (go_simp; rfl)); intro gb154 hg w6 hbox hb; have n0_ := Aside0.mk (IsS70.below (IsS70.a) hb); have n1_ := Aside0.mk (KeepBut.trans (by repeat (first | (with_reducible first | exact HK.out | apply KeepBut.set_ | apply keep_drewN | apply keep_drew | apply keep_alloc) | exact HK.out)) (KeepBut.of_below hb g none) (.inl rfl)); replace HB := Aside0.mk (below_step (by repeat (first | (with_reducible first | exact HB.out | apply below_alloc | apply pw_below_drewN | apply below_drew1 | refine below_set ?_ (IsS70.ge HI0.out)) | exact HB.out)) hb); have BK154 := Aside0.mk (hbox); have GW154 := Aside0.mk ((by rw [hg]; exact (keep_size (w := w) (g := g) (row := none) (by repeat (first | (with_reducible first | exact HK.out | apply KeepBut.set_ | apply keep_drewN | apply keep_drew | apply keep_alloc) | exact HK.out))) : w.heap.size ≤ gb154)); have GE154 := Aside0.mk ((Nat.le_trans HW0.out (by rw [hg]; exact (keep_size (w := w) (g := g) (row := none) (by repeat (first | (with_reducible first | exact HK.out | apply KeepBut.set_ | apply keep_drewN | apply keep_drew | apply keep_alloc) | exact HK.out))) : w.heap.size ≤ gb154) : w0.heap.size ≤ gb154)); have NB0_154 := Aside0.mk ((by rw [hg]; exact Nat.ne_of_lt (IsS70.lt (show IsS70 w0 _ g s0_0 s0_1 from IsS70.a)) : g ≠ gb154)); have NB154_0 := Aside0.mk ((by rw [hg]; exact Nat.ne_of_gt (IsS70.lt (show IsS70 w0 _ g s0_0 s0_1 from IsS70.a)) : gb154 ≠ g)); replace HI0 := n0_; replace HK := n1_; clear n0_ n1_; clear hb hbox hg) | ((with_reducible refine gate_callee (f := 47) rfl ?_); refine goesL_ (some 5) rfl rfl Try.func47 (by kernel_rfl) rfl #[.pointer (some ⟨g, 0, none⟩)] rfl args_a ?_; (with_reducible refine (spec_l6Draw.calls k g s0_0 s0_1 t155 t156 t159 w0 _ ?side1 ?side2 A2.out).mono ?_); (case side1 => exact IsS70.a); (case side2 => repeat (first | (with_reducible first | exact HB.out | apply below_alloc | apply pw_below_drewN | apply below_drew1 | refine below_set ?_ (IsS70.ge HI0.out) | refine below_set ?_ GE154.out) | exact HB.out)); rintro e w7 ⟨v157, rfl, ho0, hi, hb, hk⟩; refine ⟨_, rfl, ?_⟩; replace BK154 := Aside0.mk (KeepBut.blk hk (g' := gb154) blk_c NB154_0.out (by simp)); have HO158 := Aside0.mk (Kd.R_lower ho0 (keep_size (w := w) (g := g) (row := none) (by repeat (first | (with_reducible first | exact HK.out | apply KeepBut.set_ | apply keep_drewN | apply keep_drew | apply keep_alloc | refine keep_far ?_ GW154.out _) | exact HK.out)))); replace HK := Aside0.mk (KeepBut.trans (by repeat (first | (with_reducible first | exact HK.out | apply KeepBut.set_ | apply keep_drewN | apply keep_drew | apply keep_alloc | refine keep_far ?_ GW154.out _) | exact HK.out)) hk (.inl rfl)); replace HB := Aside0.mk (hb); replace HI0 := Aside0.mk (hi); (try clear hb); (try clear hb2); (try clear hk); (try clear hi); (try clear ho0)) | ((with_reducible refine gate_dst (N := 3) rfl ?_); refine box_event ?hg (N := 3) ?hd (cs := #[.int .i64 0, .slice none 0 0]) (t := 26) ?hr ?_; (case hd => rfl); (case hg => rfl); (case hr => first | (go_simp; done) | (go_simp; rfl)); intro gb160 hg w8 hbox hb; replace HO158 := Aside0.mk (Kd.R_below (R_a HO158.out) hb); have n1_ := Aside0.mk (IsS70.below (IsS70.a) hb); have n2_ := Aside0.mk (blk_below (g := gb154) blk_c hb); have n3_ := Aside0.mk (KeepBut.trans (by repeat (first | (with_reducible first | exact HK.out | apply KeepBut.set_ | apply keep_drewN | apply keep_drew | apply keep_alloc | refine keep_far ?_ GW154.out _) | exact HK.out)) (KeepBut.of_below hb g none) (.inl rfl)); replace HB := Aside0.mk (below_step (by repeat (first | (with_reducible first | exact HB.out | apply below_alloc | apply pw_below_drewN | apply below_drew1 | refine below_set ?_ (IsS70.ge HI0.out) | refine below_set ?_ GE154.out) | exact HB.out)) hb); have BK160 := Aside0.mk (hbox); have GW160 := Aside0.mk ((by rw [hg]; exact (keep_size (w := w) (g := g) (row := none) (by repeat (first | (with_reducible first | exact HK.out | apply KeepBut.set_ | apply keep_drewN | apply keep_drew | apply keep_alloc | refine keep_far ?_ GW154.out _) | exact HK.out))) : w.heap.size ≤ gb160)); have GE160 := Aside0.mk ((Nat.le_trans HW0.out (by rw [hg]; exact (keep_size (w := w) (g := g) (row := none) (by repeat (first | (with_reducible first | exact HK.out | apply KeepBut.set_ | apply keep_drewN | apply keep_drew | apply keep_alloc | refine keep_far ?_ GW154.out _) | exact HK.out))) : w.heap.size ≤ gb160) : w0.heap.size ≤ gb160)); have NB154_160 := Aside0.mk (bne_ (g := gb154) hg); have NB160_154 := Aside0.mk (bne_ (g := gb154) hg).symm; have NB0_160 := Aside0.mk ((by rw [hg]; exact Nat.ne_of_lt (IsS70.lt (show IsS70 w0 _ g s0_0 t159 from IsS70.a)) : g ≠ gb160)); have NB160_0 := Aside0.mk ((by rw [hg]; exact Nat.ne_of_gt (IsS70.lt (show IsS70 w0 _ g s0_0 t159 from IsS70.a)) : gb160 ≠ g)); replace HI0 := n1_; replace BK154 := n2_; replace HK := n3_; clear n1_ n2_ n3_; clear hb hbox hg; have hnb9 := NB160_154.out; have hnc9 := NB154_160.out; have hnb10 := NB160_0.out; have hnc10 := NB0_160.out; obtain ⟨hcz11_0, hcz11_1, hfz11_0, hfz11_1⟩ := bc2_ BK160.out; obtain ⟨Ao12, co12, eo12⟩ := Kd.R_slice HO158.out; subst eo12) | ((with_reducible refine gate_callee (f := 39) rfl ?_); refine goesL_ (some 7) rfl rfl Try.func39 (by kernel_rfl) rfl #[.pointer (some ⟨g, 0, none⟩), .int .i64 12] rfl args_a ?_; (with_reducible refine (spec_l1Next.calls g s0_0 t159 12 t161 t162 w0 _ ?side1 ?side2 A3.out).mono ?_); (case side1 => exact IsS70.a); (case side2 => repeat (first | (with_reducible first | exact HB.out | apply below_alloc | apply pw_below_drewN | apply below_drew1 | refine below_set ?_ (IsS70.ge HI0.out) | refine below_set ?_ GE154.out | refine below_set ?_ GE160.out) | exact HB.out)); rintro e w13 ⟨rfl, hi, hb, hk⟩; refine ⟨_, rfl, ?_⟩; have n0_ := Aside0.mk (KeepBut.blk hk (g' := gb154) blk_c NB154_0.out (by simp)); replace HO158 := Aside0.mk (Kd.R_mono (Kd.R_keep (IsS70.apart (show IsS70 w0 _ g s0_0 t159 from IsS70.a) (by (with_reducible repeat (first | apply Kd.R_alloc | apply Kd.R_drewN | apply Kd.R_drew)); exact (Kd.R_mono (Kd.R_far (p := ⟨gb160, 1, none⟩) (Kd.R_far (p := ⟨gb160, 0, none⟩) (Kd.R_types HO158.out BK160.out (by decide)) (fun _ hk => hk.2) (.int .i64 t155)) (fun _ hk => hk.2) (.slice Ao12 t156.length co12)) (fun _ h_ => h_.1))) (by decide)) hk (fun _ h => h.2)) (fun _ h => h.1)); replace BK160 := Aside0.mk (KeepBut.blk hk (g' := gb160) (o := .cells #[.int .i64 t155, .slice Ao12 t156.length co12] 26 (0, 0)) blk_a NB160_0.out (by simp)); replace HK := Aside0.mk (KeepBut.trans (by repeat (first | (with_reducible first | exact HK.out | apply KeepBut.set_ | apply keep_drewN | apply keep_drew | apply keep_alloc | refine keep_far ?_ GW154.out _ | refine keep_far ?_ GW160.out _) | exact HK.out)) hk (.inl rfl)); replace HB := Aside0.mk (hb); replace HI0 := Aside0.mk (hi); replace BK154 := n0_; clear n0_; (try clear hb); (try clear hb2); (try clear hk); (try clear hi)) | ((with_reducible refine gate_dst (N := 11) rfl ?_); refine Kd.R_lit (Kd.int .i64) _ 2 ?hg (N := 11) ?hd (xs := ([(-2), (-1), 7, 1000000000, 1000000001] : List Int)) (inner := [.int .i64 (-2), .int .i64 (-1), .int .i64 7, .int .i64 1000000000, .int .i64 1000000001]) (ok := fun _ => True) (okp := fun _ => True) ?hr ?hp (fun _ hk => hk) trivial (Below.refl _ _) (Nat.le_refl _) (by simp) ?_; (case hd => rfl); (case hg => rfl); (case hr => first | (go_simp; done) | (go_simp; rfl)); (case hp => exact (Reps.one (show Kd.M (Kd.int .i64) _ _ _ (-2) [.int .i64 (-2)] from rfl) (Reps.one (show Kd.M (Kd.int .i64) _ _ _ (-1) [.int .i64 (-1)] from rfl) (Reps.one (show Kd.M (Kd.int .i64) _ _ _ 7 [.int .i64 7] from rfl) (Reps.one (show Kd.M (Kd.int .i64) _ _ _ 1000000000 [.int .i64 1000000000] from rfl) (Reps.one (show Kd.M (Kd.int .i64) _ _ _ 1000000001 [.int .i64 1000000001] from rfl) (Reps.none _ _))))))); intro v164 w14 ho15 hb hg_ hnew_; clear hg_ hnew_; (first | rw [← Ny163.out] at ho15 | (simp only [Int.reduceToNat] at ho15; rw [← Ny163.out] at ho15)); have n0_ := Aside0.mk (Kd.R_elder' (R_a HO158.out) (Kd.R_base ho15) hb); have HO165 := Aside0.mk (Kd.R_lower (Kd.R_new' ho15 (Kd.R_lt (R_a HO158.out))) (keep_size (w := w) (g := g) (row := none) (by repeat (first | (with_reducible first | exact HK.out | apply KeepBut.set_ | apply keep_drewN | apply keep_drew | apply keep_alloc | refine keep_far ?_ GW154.out _ | refine keep_far ?_ GW160.out _) | exact HK.out)))); have n2_ := Aside0.mk (IsS70.below (IsS70.a) hb); replace BK154 := Aside0.mk (blk_below (g := gb154) blk_c hb); replace BK160 := Aside0.mk (blk_below (g := gb160) blk_c hb); replace HK := Aside0.mk (KeepBut.trans (by repeat (first | (with_reducible first | exact HK.out | apply KeepBut.set_ | apply keep_drewN | apply keep_drew | apply keep_alloc | refine keep_far ?_ GW154.out _ | refine keep_far ?_ GW160.out _) | exact HK.out)) (KeepBut.of_below hb g none) (.inl rfl)); replace HB := Aside0.mk (below_step (by repeat (first | (with_reducible first | exact HB.out | apply below_alloc | apply pw_below_drewN | apply below_drew1 | refine below_set ?_ (IsS70.ge HI0.out) | refine below_set ?_ GE154.out | refine below_set ?_ GE160.out) | exact HB.out)) hb); replace HO158 := n0_; replace HI0 := n2_; clear n0_ n2_; clear hb ho15; obtain ⟨Ao16, co16, eo16⟩ := Kd.R_slice HO165.out; subst eo16) | ((with_reducible refine gate_callee (f := 38) rfl ?_); refine goesL_ (some 12) rfl rfl Try.func38 (by kernel_rfl) rfl #[.pointer (some ⟨g, 0, none⟩), .slice Ao16 y163.length co16] rfl args_a ?_; (with_reducible refine (spec_l1Pick.calls g s0_0 t162 _ _ y163 t166 t167 w0 _ ?side1 ?side2 ?side3 ?side4 ?side5 A5.out).mono ?_); (case side1 => exact IsS70.a); (case side2 => repeat (first | (with_reducible first | exact HB.out | apply below_alloc | apply pw_below_drewN | apply below_drew1 | refine below_set ?_ (IsS70.ge HI0.out) | refine below_set ?_ GE154.out | refine below_set ?_ GE160.out) | exact HB.out)); (case side3 => repeat (first | exact (Kd.R_reads' HO165.out).2.2 | (with_reducible refine Kd.C_alloc ?_ _) | (with_reducible refine Kd.C_drewN ?_ _) | (with_reducible refine Kd.C_drew ?_))); (case side4 => exact (Kd.R_reads' HO165.out).2.1); (case side5 => exact far_slice (IsS70.own_ne HI0.out HO165.out (by decide))); rintro e w17 ⟨rfl, hi, hb, hk⟩; refine ⟨_, rfl, ?_⟩; have n0_ := Aside0.mk (KeepBut.blk hk (g' := gb154) blk_c NB154_0.out (by simp)); replace HO158 := Aside0.mk (Kd.R_mono (Kd.R_keep (IsS70.apart (show IsS70 w0 _ g s0_0 t162 from IsS70.a) (R_a HO158.out) (by decide)) hk (fun _ h => h.2)) (fun _ h => h.1)); replace BK160 := Aside0.mk (KeepBut.blk hk (g' := gb160) blk_c NB160_0.out (by simp)); replace HO165 := Aside0.mk (Kd.R_mono (Kd.R_keep (IsS70.apart (show IsS70 w0 _ g s0_0 t162 from IsS70.a) (R_a HO165.out) (by decide)) hk (fun _ h => h.2)) (fun _ h => h.1)); replace HK := Aside0.mk (KeepBut.trans (by repeat (first | (with_reducible first | exact HK.out | apply KeepBut.set_ | apply keep_drewN | apply keep_drew | apply keep_alloc | refine keep_far ?_ GW154.out _ | refine keep_far ?_ GW160.out _) | exact HK.out)) hk (.inl rfl)); replace HB := Aside0.mk (hb); replace HI0 := Aside0.mk (hi); replace BK154 := n0_; clear n0_; (try clear hb); (try clear hb2); (try clear hk); (try clear hi); obtain ⟨hcz18_0, hcz18_1, hfz18_0, hfz18_1⟩ := bc2_ BK160.out; have hnb19 := NB154_0.out; have hnc19 := NB0_154.out; obtain ⟨hcz20_0, hcz20_1, hfz20_0, hfz20_1⟩ := bc2_ BK154.out))
  refine bodyPost_ret (results_cell_row rfl _ _ gb154 26 #[.int .i64 t166, .slice Ao12 t156.length co12] (0, 0) _ rfl blk_a Try.underlying26 rfl (by kernel_rfl)) rfl ?_; exact ⟨_, eq_a, by (with_reducible repeat (first | apply Kd.R_alloc | apply Kd.R_drewN | apply Kd.R_drew)); exact Kd.R_mono (Kd.R_far (p := ⟨gb154, 1, none⟩) (Kd.R_far (p := ⟨gb154, 0, none⟩) (Kd.R_far (p := ⟨gb160, 0, none⟩) (Kd.R_types (Kd.R_types HO158.out BK160.out (by decide)) BK154.out (by decide)) (fun _ hk => hk.1.2) (.int .i64 t166)) (fun _ hk => hk.2) (.int .i64 t166)) (fun _ hk => hk.2) (.slice Ao12 t156.length co12)) (fun _ hk => trivial), IsS70.a, by repeat (first | (with_reducible first | exact HB.out | apply below_alloc | apply pw_below_drewN | apply below_drew1 | refine below_set ?_ (IsS70.ge HI0.out) | refine below_set ?_ GE154.out | refine below_set ?_ GE160.out) | exact HB.out), by repeat (first | (with_reducible first | exact HK.out | apply KeepBut.set_ | apply keep_drewN | apply keep_drew | apply keep_alloc | refine keep_far ?_ GW154.out _ | refine keep_far ?_ GW160.out _) | exact HK.out)⟩
 ·
  rw [if_neg c4] at H; have c4b0 : (t161 == 0) = false := beq_eq_false_iff_ne.mpr c4; have c4b1 : (t161 != 0) = true := bne_iff_ne.mpr c4
  by_cases c21 : t161 = 1
  ·
   rw [if_pos c21] at H; have c21b0 : (t161 == 1) = true := beq_iff_eq.mpr c21; have c21b1 : (t161 != 1) = false := bne_eq_false_iff_eq.mpr c21; clear c21; obtain ⟨y168, hy168⟩ : ∃ y_ : List Int, y_ = (([0, (-1), t155, wrap64 (t155 + 1)] : List Int)) := ⟨_, rfl⟩; replace H : ((spec_l1Pick.f s0_0 t162 y168).bind fun bt171 => (if t156.length < 17592186044416 then (some (t155, (t156 ++ [bt171.1]), bt171.2)) else (none))) = some (r1, r2, r3) := by first | (rw [hy168]; with_reducible exact H) | (have H2_ := (Option.bind_some _ _).symm.trans H; rw [hy168]; with_reducible exact H2_) | (have H2_ := (Option.bind_some _ _).symm.trans H; with_reducible exact H2_) | with_reducible exact H | (rw [hy168]; exact H) | exact H
   have Ny168 := Aside0.mk hy168; clear hy168; replace H := Option.bind_eq_some_iff.mp H; obtain ⟨⟨t171, t172⟩, A220, H⟩ := H; replace H : (if t156.length < 17592186044416 then (some (t155, (t156 ++ [t171]), t172)) else (none)) = some (r1, r2, r3) := H; have A22 := Aside0.mk A220; clear A220
   by_cases c23 : t156.length < 17592186044416
   ·
    rw [if_pos c23] at H; have LMc23 := Aside0.mk c23; clear c23; obtain ⟨y173, hy173⟩ : ∃ y_ : List Int, y_ = (t156 ++ [t171]) := ⟨_, rfl⟩; replace H : (some (t155, y173, t172)) = some (r1, r2, r3) := by first | (rw [hy173]; with_reducible exact H) | (have H2_ := (Option.bind_some _ _).symm.trans H; rw [hy173]; with_reducible exact H2_) | (have H2_ := (Option.bind_some _ _).symm.trans H; with_reducible exact H2_) | with_reducible exact H | (rw [hy173]; exact H) | exact H
    have Ny173 := Aside0.mk hy173; clear hy173; simp only [Option.some.injEq, Prod.mk.injEq] at H; obtain ⟨rfl, rfl, rfl⟩ := H
    go_enter Try.func37, Try.ntmps37
    try go_wp2_with (first | ((with_reducible refine gate_dst (N := 2) rfl ?_); refine box_event ?hg (N := 2) ?hd (cs := #[.int .i64 0, .slice none 0 0]) (t := 26) ?hr ?_; (case hd => rfl); (case hg => rfl); (case hr => first | (go_simp; done) | (go_simp; rfl)); intro gb154 hg w24 hbox hb; have n0_ := Aside0.mk (IsS70.below (IsS70.a) hb); have n1_ := Aside0.mk (KeepBut.trans (by repeat (first | (with_reducible first | exact HK.out | apply KeepBut.set_ | apply keep_drewN | apply keep_drew | apply keep_alloc) | exact HK.out)) (KeepBut.of_below hb g none) (.inl rfl)); replace HB := Aside0.mk (below_step (by repeat (first | (with_reducible first | exact HB.out | apply below_alloc | apply pw_below_drewN | apply below_drew1 | refine below_set ?_ (IsS70.ge HI0.out)) | exact HB.out)) hb); have BK154 := Aside0.mk (hbox); have GW154 := Aside0.mk ((by rw [hg]; exact (keep_size (w := w) (g := g) (row := none) (by repeat (first | (with_reducible first | exact HK.out | apply KeepBut.set_ | apply keep_drewN | apply keep_drew | apply keep_alloc) | exact HK.out))) : w.heap.size ≤ gb154)); have GE154 := Aside0.mk ((Nat.le_trans HW0.out (by rw [hg]; exact (keep_size (w := w) (g := g) (row := none) (by repeat (first | (with_reducible first | exact HK.out | apply KeepBut.set_ | apply keep_drewN | apply keep_drew | apply keep_alloc) | exact HK.out))) : w.heap.size ≤ gb154) : w0.heap.size ≤ gb154)); have NB0_154 := Aside0.mk ((by rw [hg]; exact Nat.ne_of_lt (IsS70.lt (show IsS70 w0 _ g s0_0 s0_1 from IsS70.a)) : g ≠ gb154)); have NB154_0 := Aside0.mk ((by rw [hg]; exact Nat.ne_of_gt (IsS70.lt (show IsS70 w0 _ g s0_0 s0_1 from IsS70.a)) : gb154 ≠ g)); replace HI0 := n0_; replace HK := n1_; clear n0_ n1_; clear hb hbox hg) | ((with_reducible refine gate_callee (f := 47) rfl ?_); refine goesL_ (some 5) rfl rfl Try.func47 (by kernel_rfl) rfl #[.pointer (some ⟨g, 0, none⟩)] rfl args_a ?_; (with_reducible refine (spec_l6Draw.calls k g s0_0 s0_1 t155 t156 t159 w0 _ ?side1 ?side2 A2.out).mono ?_); (case side1 => exact IsS70.a); (case side2 => repeat (first | (with_reducible first | exact HB.out | apply below_alloc | apply pw_below_drewN | apply below_drew1 | refine below_set ?_ (IsS70.ge HI0.out) | refine below_set ?_ GE154.out) | exact HB.out)); rintro e w25 ⟨v157, rfl, ho0, hi, hb, hk⟩; refine ⟨_, rfl, ?_⟩; replace BK154 := Aside0.mk (KeepBut.blk hk (g' := gb154) blk_c NB154_0.out (by simp)); have HO158 := Aside0.mk (Kd.R_lower ho0 (keep_size (w := w) (g := g) (row := none) (by repeat (first | (with_reducible first | exact HK.out | apply KeepBut.set_ | apply keep_drewN | apply keep_drew | apply keep_alloc | refine keep_far ?_ GW154.out _) | exact HK.out)))); replace HK := Aside0.mk (KeepBut.trans (by repeat (first | (with_reducible first | exact HK.out | apply KeepBut.set_ | apply keep_drewN | apply keep_drew | apply keep_alloc | refine keep_far ?_ GW154.out _) | exact HK.out)) hk (.inl rfl)); replace HB := Aside0.mk (hb); replace HI0 := Aside0.mk (hi); (try clear hb); (try clear hb2); (try clear hk); (try clear hi); (try clear ho0)) | ((with_reducible refine gate_dst (N := 3) rfl ?_); refine box_event ?hg (N := 3) ?hd (cs := #[.int .i64 0, .slice none 0 0]) (t := 26) ?hr ?_; (case hd => rfl); (case hg => rfl); (case hr => first | (go_simp; done) | (go_simp; rfl)); intro gb160 hg w26 hbox hb; replace HO158 := Aside0.mk (Kd.R_below (R_a HO158.out) hb); have n1_ := Aside0.mk (IsS70.below (IsS70.a) hb); have n2_ := Aside0.mk (blk_below (g := gb154) blk_c hb); have n3_ := Aside0.mk (KeepBut.trans (by repeat (first | (with_reducible first | exact HK.out | apply KeepBut.set_ | apply keep_drewN | apply keep_drew | apply keep_alloc | refine keep_far ?_ GW154.out _) | exact HK.out)) (KeepBut.of_below hb g none) (.inl rfl)); replace HB := Aside0.mk (below_step (by repeat (first | (with_reducible first | exact HB.out | apply below_alloc | apply pw_below_drewN | apply below_drew1 | refine below_set ?_ (IsS70.ge HI0.out) | refine below_set ?_ GE154.out) | exact HB.out)) hb); have BK160 := Aside0.mk (hbox); have GW160 := Aside0.mk ((by rw [hg]; exact (keep_size (w := w) (g := g) (row := none) (by repeat (first | (with_reducible first | exact HK.out | apply KeepBut.set_ | apply keep_drewN | apply keep_drew | apply keep_alloc | refine keep_far ?_ GW154.out _) | exact HK.out))) : w.heap.size ≤ gb160)); have GE160 := Aside0.mk ((Nat.le_trans HW0.out (by rw [hg]; exact (keep_size (w := w) (g := g) (row := none) (by repeat (first | (with_reducible first | exact HK.out | apply KeepBut.set_ | apply keep_drewN | apply keep_drew | apply keep_alloc | refine keep_far ?_ GW154.out _) | exact HK.out))) : w.heap.size ≤ gb160) : w0.heap.size ≤ gb160)); have NB154_160 := Aside0.mk (bne_ (g := gb154) hg); have NB160_154 := Aside0.mk (bne_ (g := gb154) hg).symm; have NB0_160 := Aside0.mk ((by rw [hg]; exact Nat.ne_of_lt (IsS70.lt (show IsS70 w0 _ g s0_0 t159 from IsS70.a)) : g ≠ gb160)); have NB160_0 := Aside0.mk ((by rw [hg]; exact Nat.ne_of_gt (IsS70.lt (show IsS70 w0 _ g s0_0 t159 from IsS70.a)) : gb160 ≠ g)); replace HI0 := n1_; replace BK154 := n2_; replace HK := n3_; clear n1_ n2_ n3_; clear hb hbox hg; have hnb27 := NB160_154.out; have hnc27 := NB154_160.out; have hnb28 := NB160_0.out; have hnc28 := NB0_160.out; obtain ⟨hcz29_0, hcz29_1, hfz29_0, hfz29_1⟩ := bc2_ BK160.out; obtain ⟨Ao30, co30, eo30⟩ := Kd.R_slice HO158.out; subst eo30) | ((with_reducible refine gate_callee (f := 39) rfl ?_); refine goesL_ (some 7) rfl rfl Try.func39 (by kernel_rfl) rfl #[.pointer (some ⟨g, 0, none⟩), .int .i64 12] rfl args_a ?_; (with_reducible refine (spec_l1Next.calls g s0_0 t159 12 t161 t162 w0 _ ?side1 ?side2 A3.out).mono ?_); (case side1 => exact IsS70.a); (case side2 => repeat (first | (with_reducible first | exact HB.out | apply below_alloc | apply pw_below_drewN | apply below_drew1 | refine below_set ?_ (IsS70.ge HI0.out) | refine below_set ?_ GE154.out | refine below_set ?_ GE160.out) | exact HB.out)); rintro e w31 ⟨rfl, hi, hb, hk⟩; refine ⟨_, rfl, ?_⟩; have n0_ := Aside0.mk (KeepBut.blk hk (g' := gb154) blk_c NB154_0.out (by simp)); replace HO158 := Aside0.mk (Kd.R_mono (Kd.R_keep (IsS70.apart (show IsS70 w0 _ g s0_0 t159 from IsS70.a) (by (with_reducible repeat (first | apply Kd.R_alloc | apply Kd.R_drewN | apply Kd.R_drew)); exact (Kd.R_mono (Kd.R_far (p := ⟨gb160, 1, none⟩) (Kd.R_far (p := ⟨gb160, 0, none⟩) (Kd.R_types HO158.out BK160.out (by decide)) (fun _ hk => hk.2) (.int .i64 t155)) (fun _ hk => hk.2) (.slice Ao30 t156.length co30)) (fun _ h_ => h_.1))) (by decide)) hk (fun _ h => h.2)) (fun _ h => h.1)); replace BK160 := Aside0.mk (KeepBut.blk hk (g' := gb160) (o := .cells #[.int .i64 t155, .slice Ao30 t156.length co30] 26 (0, 0)) blk_a NB160_0.out (by simp)); replace HK := Aside0.mk (KeepBut.trans (by repeat (first | (with_reducible first | exact HK.out | apply KeepBut.set_ | apply keep_drewN | apply keep_drew | apply keep_alloc | refine keep_far ?_ GW154.out _ | refine keep_far ?_ GW160.out _) | exact HK.out)) hk (.inl rfl)); replace HB := Aside0.mk (hb); replace HI0 := Aside0.mk (hi); replace BK154 := n0_; clear n0_; (try clear hb); (try clear hb2); (try clear hk); (try clear hi)))
    replace HO158 := Aside0.mk (Kd.R_drew HO158.out); replace BK154 := Aside0.mk (blk_drew BK154.out); replace BK160 := Aside0.mk (blk_drew BK160.out); replace HI0 := Aside0.mk (IsS70.drew HI0.out); replace HK := Aside0.mk (keep_drew HK.out); replace HB := Aside0.mk (below_drew1 HB.out); refine start_ (n := 14) (S := fun w' => w'.cell? ⟨gb160, 0, none⟩ = some (.int .i64 t155) ∧ w'.cell? ⟨gb160, 1, none⟩ = some (.slice Ao30 t156.length co30)) (ds := [13]) #[Z',Z',Z',Z',Z',Z',Z',Z',Z',Z',Z',Z',Z',Z'] (by kernel_rfl) rfl rfl ⟨(blk_cell BK160.out 0).trans rfl, (blk_cell BK160.out 1).trans rfl⟩ (fun hHeld => ?_); refine with_tabW spec_l6Bent.tab6 spec_l6Bent.bits6 (fun HT_ HW_ => ?_); generalize w31.drew = w32 at HO158 BK154 BK160 HI0 HK HB hHeld ⊢; refine pure_ (i := 0) (N := some 16) (v := ?_) (a' := ?_) #[Y',Z',Z',Z',Z',Z',Z',Z',Z',Z',Z',Z',Z',Z'] rfl rfl (any_of HT_.out (by kernel_rfl)) (fun _ _ _ h => h) (Or.inl ⟨by rfl, ?_⟩) ?_ ?_; rotate_left
    ·
     intro w'
     go_simp
     with_reducible rfl
    rotate_left
    ·
     simp only [Act.put, List.setIfInBounds_toArray, List.set_cons_zero, List.set_cons_succ, i64_w, i32_w]; rfl
    refine pure_ (i := 2) (N := some 18) (v := ?_) (a' := ?_) #[Y',Z',Y',Z',Z',Z',Z',Z',Z',Z',Z',Z',Z',Z'] rfl rfl (any_of HT_.out (by kernel_rfl)) (fun _ _ _ h => h) (Or.inl ⟨by rfl, ?_⟩) ?_ ?_; rotate_left
    ·
     intro w'
     go_simp
     with_reducible rfl
    rotate_left
    ·
     simp only [Act.put, List.setIfInBounds_toArray, List.set_cons_zero, List.set_cons_succ, i64_w, i32_w]; rfl
    refine pure_ (i := 3) (N := some 19) (v := ?_) (a' := ?_) #[Y',Z',Y',Y',Z',Z',Z',Z',Z',Z',Z',Z',Z',Z'] rfl rfl (any_of HT_.out (by kernel_rfl)) (fun _ _ _ h => h) (Or.inl ⟨by rfl, ?_⟩) ?_ ?_; rotate_left
    ·
     intro w'
     go_simp
     with_reducible rfl
    rotate_left
    ·
     simp only [Act.put, List.setIfInBounds_toArray, List.set_cons_zero, List.set_cons_succ, i64_w, i32_w]; rfl
    refine pure_ (i := 5) (N := some 21) (v := ?_) (a' := ?_) #[Y',Z',Y',Y',Z',Y',Z',Z',Z',Z',Z',Z',Z',Z'] rfl rfl (any_of HT_.out (by kernel_rfl)) (fun _ _ _ h => h) (Or.inl ⟨by rfl, ?_⟩) ?_ ?_; rotate_left
    ·
     intro w'
     go_simp
     with_reducible rfl
    rotate_left
    ·
     simp only [Act.put, List.setIfInBounds_toArray, List.set_cons_zero, List.set_cons_succ, i64_w, i32_w]; rfl
    refine take_ (i := 1) (N := some 17) (v := ?_) (a' := ?_) #[Y',Y',Y',Y',Z',Y',Z',Z',Z',Z',Z',Z',Z',Z'] rfl rfl (take_ofW HT_.out HW_.out (by kernel_rfl)) (fun _ _ _ h => h) (Or.inl ⟨by rfl, ?_⟩) hHeld ?_ ?_; rotate_left
    ·
     rintro w' ⟨s0, s1⟩
     go_simp
     with_reducible rfl
    rotate_left
    ·
     simp only [Act.put, List.setIfInBounds_toArray, List.set_cons_zero, List.set_cons_succ, i64_w, i32_w]; rfl
    refine take_ (i := 4) (N := some 20) (v := ?_) (a' := ?_) #[Y',Y',Y',Y',Y',Y',Z',Z',Z',Z',Z',Z',Z',Z'] rfl rfl (take_ofW HT_.out HW_.out (by kernel_rfl)) (fun _ _ _ h => h) (Or.inl ⟨by rfl, ?_⟩) hHeld ?_ ?_; rotate_left
    ·
     rintro w' ⟨s0, s1⟩
     go_simp
     with_reducible rfl
    rotate_left
    ·
     simp only [Act.put, List.setIfInBounds_toArray, List.set_cons_zero, List.set_cons_succ, i64_w, i32_w]; rfl
    refine take_ (i := 6) (N := some 22) (v := ?_) (a' := ?_) #[Y',Y',Y',Y',Y',Y',Y',Z',Z',Z',Z',Z',Z',Z'] rfl rfl (take_ofW HT_.out HW_.out (by kernel_rfl)) (fun _ _ _ h => h) (Or.inl ⟨by rfl, ?_⟩) hHeld ?_ ?_; rotate_left
    ·
     rintro w' ⟨s0, s1⟩
     go_simp
     with_reducible rfl
    rotate_left
    ·
     simp only [Act.put, List.setIfInBounds_toArray, List.set_cons_zero, List.set_cons_succ, i64_w, i32_w]; rfl
    refine pure_ (i := 7) (N := some 23) (v := ?_) (a' := ?_) #[Y',Y',Y',Y',Y',Y',Y',Y',Z',Z',Z',Z',Z',Z'] rfl rfl (any_of HT_.out (by kernel_rfl)) (fun _ _ _ h => h) (Or.inl ⟨by rfl, ?_⟩) ?_ ?_; rotate_left
    ·
     intro w'
     go_simp
     with_reducible rfl
    rotate_left
    ·
     simp only [Act.put, List.setIfInBounds_toArray, List.set_cons_zero, List.set_cons_succ, i64_w, i32_w]; rfl
    refine one_ (i := 8) (N := some 24) #[Y',Y',Y',Y',Y',Y',Y',Y',Y',Z',Z',Z',Z',Z'] rfl rfl (one_of HT_.out (by kernel_rfl)) (by decide) (fun K hK => ?_); refine Kd.R_lit_step (Kd.int .i64) _ 2 ?hg (N := 24) ?hd (xs := ([0, (-1), t155, wrap64 (t155 + 1)] : List Int)) (inner := [.int .i64 0, .int .i64 (-1), .int .i64 t155, .int .i64 (wrap64 (t155 + 1))]) (ok := fun _ => True) (okp := fun _ => True) ?hr ?hp (fun _ hk => hk) trivial (Below.refl _ _) (Nat.le_refl _) (by simp) ?_; (case hd => rfl); (case hg => rfl); (case hr => first | (go_simp; done) | (go_simp; rfl)); (case hp => exact (Reps.one (show Kd.M (Kd.int .i64) _ _ _ 0 [.int .i64 0] from rfl) (Reps.one (show Kd.M (Kd.int .i64) _ _ _ (-1) [.int .i64 (-1)] from rfl) (Reps.one (show Kd.M (Kd.int .i64) _ _ _ t155 [.int .i64 t155] from rfl) (Reps.one (show Kd.M (Kd.int .i64) _ _ _ (wrap64 (t155 + 1)) [.int .i64 (wrap64 (t155 + 1))] from rfl) (Reps.none _ _)))))); intro v169 w33 ho34 hb hg_ hnew_; clear hg_ hnew_; (first | rw [← Ny168.out] at ho34 | (simp only [Int.reduceToNat] at ho34; rw [← Ny168.out] at ho34)); have n0_ := Aside0.mk (Kd.R_elder' (R_a HO158.out) (Kd.R_base ho34) hb); have HO170 := Aside0.mk (Kd.R_lower (Kd.R_new' ho34 (Kd.R_lt (R_a HO158.out))) (keep_size (w := w) (g := g) (row := none) (by repeat (first | (with_reducible first | exact HK.out | apply KeepBut.set_ | apply keep_drewN | apply keep_drew | apply keep_alloc | refine keep_far ?_ GW154.out _ | refine keep_far ?_ GW160.out _) | exact HK.out)))); have n2_ := Aside0.mk (IsS70.below (IsS70.a) hb); replace BK154 := Aside0.mk (blk_below (g := gb154) blk_c hb); replace BK160 := Aside0.mk (blk_below (g := gb160) blk_c hb); replace HK := Aside0.mk (KeepBut.trans (by repeat (first | (with_reducible first | exact HK.out | apply KeepBut.set_ | apply keep_drewN | apply keep_drew | apply keep_alloc | refine keep_far ?_ GW154.out _ | refine keep_far ?_ GW160.out _) | exact HK.out)) (KeepBut.of_below hb g none) (.inl rfl)); replace HB := Aside0.mk (below_step (by repeat (first | (with_reducible first | exact HB.out | apply below_alloc | apply pw_below_drewN | apply below_drew1 | refine below_set ?_ (IsS70.ge HI0.out) | refine below_set ?_ GE154.out | refine below_set ?_ GE160.out) | exact HB.out)) hb); replace HO158 := n0_; replace HI0 := n2_; clear n0_ n2_ hb ho34; obtain ⟨Ao35, co35, eo35⟩ := Kd.R_slice HO170.out; (first | subst eo35 | (injection eo35 with f1_ f2_ f3_; have f4_ := f1_.symm; have f5_ := f3_.symm; clear f1_ f2_ f3_; subst f4_; subst f5_)); refine hK.out _ _ ⟨(blk_cell BK160.out 0).trans rfl, (blk_cell BK160.out 1).trans rfl⟩ (fun hHeld => ?_); clear hK K; refine norm_ (a' := ?_) ?_ ?_; rotate_left
    ·
     show Act.put _ (some 24) _ = _; simp only [Act.put, List.setIfInBounds_toArray, List.set_cons_zero, List.set_cons_succ, i64_w, i32_w]; rfl
    refine one_ (i := 9) (N := some 25) #[Y',Y',Y',Y',Y',Y',Y',Y',Y',Y',Z',Z',Z',Z'] rfl rfl (one_of HT_.out (by kernel_rfl)) (by decide) (fun K hK => ?_); refine goes_ Try.func38 (by kernel_rfl) rfl #[.pointer (some ⟨g, 0, none⟩), .slice Ao35 y168.length co35] (by rfl) rfl rfl args_a ?_
    with_reducible refine (spec_l1Pick.calls g s0_0 t162 _ _ y168 t171 t172 w0 _ ?side1 ?side2 ?side3 ?side4 ?side5 A22.out).mono ?_
    (case side1 => exact IsS70.a); (case side2 => repeat (first | (with_reducible first | exact HB.out | apply below_alloc | apply pw_below_drewN | apply below_drew1 | refine below_set ?_ (IsS70.ge HI0.out) | refine below_set ?_ GE154.out | refine below_set ?_ GE160.out) | exact HB.out)); (case side3 => repeat (first | exact (Kd.R_reads' HO170.out).2.2 | (with_reducible refine Kd.C_alloc ?_ _) | (with_reducible refine Kd.C_drewN ?_ _) | (with_reducible refine Kd.C_drew ?_))); (case side4 => exact (Kd.R_reads' HO170.out).2.1); (case side5 => exact far_slice (IsS70.own_ne HI0.out HO170.out (by decide))); rintro e w36 ⟨rfl, hi, hb, hk⟩; refine ⟨_, rfl, ?_⟩; have n0_ := Aside0.mk (KeepBut.blk hk (g' := gb154) blk_c NB154_0.out (by simp)); replace HO158 := Aside0.mk (Kd.R_mono (Kd.R_keep (IsS70.apart (show IsS70 w0 _ g s0_0 t162 from IsS70.a) (R_a HO158.out) (by decide)) hk (fun _ h => h.2)) (fun _ h => h.1)); replace BK160 := Aside0.mk (KeepBut.blk hk (g' := gb160) blk_c NB160_0.out (by simp)); replace HO170 := Aside0.mk (Kd.R_mono (Kd.R_keep (IsS70.apart (show IsS70 w0 _ g s0_0 t162 from IsS70.a) (R_a HO170.out) (by decide)) hk (fun _ h => h.2)) (fun _ h => h.1)); replace HK := Aside0.mk (KeepBut.trans (by repeat (first | (with_reducible first | exact HK.out | apply KeepBut.set_ | apply keep_drewN | apply keep_drew | apply keep_alloc | refine keep_far ?_ GW154.out _ | refine keep_far ?_ GW160.out _) | exact HK.out)) hk (.inl rfl)); replace HB := Aside0.mk (hb); replace HI0 := Aside0.mk (hi); replace BK154 := n0_; clear n0_; (try clear hb); (try clear hb2); (try clear hk); (try clear hi); refine hK.out _ _ ⟨(blk_cell BK160.out 0).trans rfl, (blk_cell BK160.out 1).trans rfl⟩ (fun hHeld => ?_); clear hK K; refine norm_ (a' := ?_) ?_ ?_; rotate_left
    ·
     show Act.put _ (some 25) _ = _; simp only [Act.put, List.setIfInBounds_toArray, List.set_cons_zero, List.set_cons_succ, i64_w, i32_w]; rfl
    refine one_ (i := 10) (N := some 26) #[Y',Y',Y',Y',Y',Y',Y',Y',Y',Y',Y',Z',Z',Z'] rfl rfl (one_of HT_.out (by kernel_rfl)) (by decide) (fun K hK => ?_); refine value_ (w1 := ?_) (v := ?_) (by rfl) rfl ?_ ?_; rotate_left 2
    ·
     go_simp
     constructor
     ·
      rfl
     ·
      rfl
    refine hK.out _ _ ⟨(blk_cell (blk_alloc BK160.out _) 0).trans rfl, (blk_cell (blk_alloc BK160.out _) 1).trans rfl⟩ (fun hHeld => ?_); clear hK K; refine norm_ (a' := ?_) ?_ ?_; rotate_left
    ·
     show Act.put _ (some 26) _ = _; simp only [Act.put, List.setIfInBounds_toArray, List.set_cons_zero, List.set_cons_succ, i64_w, i32_w]; rfl
    refine one_ (i := 11) (N := some 27) #[Y',Y',Y',Y',Y',Y',Y',Y',Y',Y',Y',Y',Z',Z'] rfl rfl (one_of HT_.out (by kernel_rfl)) (by decide) (fun K hK => ?_); refine Kd.R_append_step (Kd.int .i64) w.heap.size (by rfl) (.tmp 17) (.tmp 26) 24 2 (.int .i64 0) 8 rfl Try.underlying24 info2 rfl (by decide) (by omega) (.slice Ao30 t156.length co30) t156 t171 [.int .i64 t171] (fun k_ => some k_ ≠ (.slice Ao35 y168.length co35 : Value).ownBlock) (fun _ => False) rfl rfl ?aP (fun _ hk => hk.elim) ?aF ?aO (Below.refl _ _) ?aS ?aL ?_; (case aP => exact rfl); (case aF => exact (fun k_ hk => Kd.fresh' (Kd.R_lt (R_a HO170.out)) k_ hk)); (case aO => exact (by (with_reducible repeat (first | apply Kd.R_alloc | apply Kd.R_drewN | apply Kd.R_drew)); exact Kd.R_mono HO158.out (fun _ hk => hk.2))); (case aS => exact (keep_size (w := w) (g := g) (row := none) (by repeat (first | (with_reducible first | exact HK.out | apply KeepBut.set_ | apply keep_drewN | apply keep_drew | apply keep_alloc | refine keep_far ?_ GW154.out _ | refine keep_far ?_ GW160.out _) | exact HK.out)))); (case aL => have := LMc23.out; omega); intro v174 w37 ho hb hg hat; rw [← Ny173.out] at ho; have n0_ := Aside0.mk (IsS70.grown (show IsS70 w0 _ g s0_0 t172 from IsS70.a) hg (IsS70.own_ne HI0.out HO158.out (by decide))); replace BK154 := Aside0.mk (blk_grown (g := gb154) blk_c hg (Kd.R_ne HO158.out BK154.out (by decide))); replace BK160 := Aside0.mk (blk_grown (g := gb160) blk_c hg (Kd.R_ne HO158.out BK160.out (by decide))); replace HO170 := Aside0.mk (Kd.R_after (ok := (fun _ => True)) (R_a HO170.out) hg hat); replace HB := Aside0.mk (below_weaken (by repeat (first | (with_reducible first | exact HB.out | apply below_alloc | apply pw_below_drewN | apply below_drew1 | refine below_set ?_ (IsS70.ge HI0.out) | refine below_set ?_ GE154.out | refine below_set ?_ GE160.out) | exact HB.out)) HL.out hb); replace HK := Aside0.mk (KeepBut.trans (by repeat (first | (with_reducible first | exact HK.out | apply KeepBut.set_ | apply keep_drewN | apply keep_drew | apply keep_alloc | refine keep_far ?_ GW154.out _ | refine keep_far ?_ GW160.out _) | exact HK.out)) (KeepBut.of_grown hg g) (Kd.R_base2 HO158.out)); have HO175 := Aside0.mk (ho); replace HI0 := n0_; clear HO158 n0_ ho hb hg hat; obtain ⟨Ao38, co38, eo38⟩ := Kd.R_slice HO175.out; (first | subst eo38 | (injection eo38 with f1_ f2_ f3_; have f4_ := f1_.symm; have f5_ := f3_.symm; clear f1_ f2_ f3_; subst f4_; subst f5_)); refine hK.out _ _ ⟨(blk_cell BK160.out 0).trans rfl, (blk_cell BK160.out 1).trans rfl⟩ (fun hHeld => ?_); clear hK K; refine norm_ (a' := ?_) ?_ ?_; rotate_left
    ·
     show Act.put _ (some 27) _ = _; simp only [Act.put, List.setIfInBounds_toArray, List.set_cons_zero, List.set_cons_succ, i64_w, i32_w]; rfl
    refine pure_ (i := 12) (N := some 28) (v := ?_) (a' := ?_) #[Y',Y',Y',Y',Y',Y',Y',Y',Y',Y',Y',Y',Y',Z'] rfl rfl (any_of HT_.out (by kernel_rfl)) (fun _ _ _ h => h) (Or.inl ⟨by rfl, ?_⟩) ?_ ?_; rotate_left
    ·
     intro w'
     go_simp
     with_reducible rfl
    rotate_left
    ·
     simp only [Act.put, List.setIfInBounds_toArray, List.set_cons_zero, List.set_cons_succ, i64_w, i32_w]; rfl
    refine last_ (i := 13) (N := none) #[Y',Y',Y',Y',Y',Y',Y',Y',Y',Y',Y',Y',Y',Y'] rfl rfl (one_of HT_.out (by kernel_rfl)) (by decide) (fun K hK => ?_); have hs39 : w37.cell? ⟨gb160, 1, none⟩ = some (.slice Ao30 t156.length co30) := (blk_cell BK160.out 1).trans rfl; have hfs39 := blk_frozen BK160.out 1; have hns39_0 := NB154_160.out; have hms39_0 := NB160_154.out; refine skip_ (w1 := ?_) (by rfl) rfl ?_ ?_; rotate_left
    ·
     go_simp
     rfl
    refine hK.out _ _ ?_; clear hK K; refine done_ (done_of HT_.out (by kernel_rfl)) ?_; obtain ⟨hcz40_0, hcz40_1, hfz40_0, hfz40_1⟩ := bc2_ BK160.out; have hnb41 := NB154_0.out; have hnc41 := NB0_154.out; obtain ⟨hcz42_0, hcz42_1, hfz42_0, hfz42_1⟩ := bc2_ BK154.out
    try go_wp2
    refine bodyPost_ret (results_cell_row rfl _ _ gb154 26 #[.int .i64 t155, .slice Ao38 y173.length co38] (0, 0) _ rfl blk_a Try.underlying26 rfl (by kernel_rfl)) rfl ?_; exact ⟨_, eq_a, by (with_reducible repeat (first | apply Kd.R_alloc | apply Kd.R_drewN | apply Kd.R_drew)); exact Kd.R_mono (Kd.R_far (p := ⟨gb154, 1, none⟩) (Kd.R_far (p := ⟨gb154, 0, none⟩) (Kd.R_far (p := ⟨gb160, 1, none⟩) (Kd.R_types (Kd.R_types HO175.out BK160.out (by decide)) BK154.out (by decide)) (fun _ hk => hk.1.2) (.slice Ao38 y173.length co38)) (fun _ hk => hk.2) (.int .i64 t155)) (fun _ hk => hk.2) (.slice Ao38 y173.length co38)) (fun _ hk => trivial), IsS70.a, by repeat (first | (with_reducible first | exact HB.out | apply below_alloc | apply pw_below_drewN | apply below_drew1 | refine below_set ?_ (IsS70.ge HI0.out) | refine below_set ?_ GE154.out | refine below_set ?_ GE160.out) | exact HB.out), by repeat (first | (with_reducible first | exact HK.out | apply KeepBut.set_ | apply keep_drewN | apply keep_drew | apply keep_alloc | refine keep_far ?_ GW154.out _ | refine keep_far ?_ GW160.out _) | exact HK.out)⟩
   ·
    rw [if_neg c23] at H; exact absurd H (by simp)
  ·
   rw [if_neg c21] at H; have c21b0 : (t161 == 1) = false := beq_eq_false_iff_ne.mpr c21; have c21b1 : (t161 != 1) = true := bne_iff_ne.mpr c21
   by_cases c43 : t161 = 2
   ·
    rw [if_pos c43] at H; have c43b0 : (t161 == 2) = true := beq_iff_eq.mpr c43; have c43b1 : (t161 != 2) = false := bne_eq_false_iff_eq.mpr c43; clear c43; simp only [Option.some.injEq, Prod.mk.injEq] at H; obtain ⟨rfl, rfl, rfl⟩ := H
    go_enter Try.func37, Try.ntmps37
    go_wp2_with (first | ((with_reducible refine gate_dst (N := 2) rfl ?_); refine box_event ?hg (N := 2) ?hd (cs := #[.int .i64 0, .slice none 0 0]) (t := 26) ?hr ?_; (case hd => rfl); (case hg => rfl); (case hr => first | (go_simp; done) | (go_simp; rfl)); intro gb154 hg w44 hbox hb; have n0_ := Aside0.mk (IsS70.below (IsS70.a) hb); have n1_ := Aside0.mk (KeepBut.trans (by repeat (first | (with_reducible first | exact HK.out | apply KeepBut.set_ | apply keep_drewN | apply keep_drew | apply keep_alloc) | exact HK.out)) (KeepBut.of_below hb g none) (.inl rfl)); replace HB := Aside0.mk (below_step (by repeat (first | (with_reducible first | exact HB.out | apply below_alloc | apply pw_below_drewN | apply below_drew1 | refine below_set ?_ (IsS70.ge HI0.out)) | exact HB.out)) hb); have BK154 := Aside0.mk (hbox); have GW154 := Aside0.mk ((by rw [hg]; exact (keep_size (w := w) (g := g) (row := none) (by repeat (first | (with_reducible first | exact HK.out | apply KeepBut.set_ | apply keep_drewN | apply keep_drew | apply keep_alloc) | exact HK.out))) : w.heap.size ≤ gb154)); have GE154 := Aside0.mk ((Nat.le_trans HW0.out (by rw [hg]; exact (keep_size (w := w) (g := g) (row := none) (by repeat (first | (with_reducible first | exact HK.out | apply KeepBut.set_ | apply keep_drewN | apply keep_drew | apply keep_alloc) | exact HK.out))) : w.heap.size ≤ gb154) : w0.heap.size ≤ gb154)); have NB0_154 := Aside0.mk ((by rw [hg]; exact Nat.ne_of_lt (IsS70.lt (show IsS70 w0 _ g s0_0 s0_1 from IsS70.a)) : g ≠ gb154)); have NB154_0 := Aside0.mk ((by rw [hg]; exact Nat.ne_of_gt (IsS70.lt (show IsS70 w0 _ g s0_0 s0_1 from IsS70.a)) : gb154 ≠ g)); replace HI0 := n0_; replace HK := n1_; clear n0_ n1_; clear hb hbox hg) | ((with_reducible refine gate_callee (f := 47) rfl ?_); refine goesL_ (some 5) rfl rfl Try.func47 (by kernel_rfl) rfl #[.pointer (some ⟨g, 0, none⟩)] rfl args_a ?_; (with_reducible refine (spec_l6Draw.calls k g s0_0 s0_1 t155 t156 t159 w0 _ ?side1 ?side2 A2.out).mono ?_); (case side1 => exact IsS70.a); (case side2 => repeat (first | (with_reducible first | exact HB.out | apply below_alloc | apply pw_below_drewN | apply below_drew1 | refine below_set ?_ (IsS70.ge HI0.out) | refine below_set ?_ GE154.out) | exact HB.out)); rintro e w45 ⟨v157, rfl, ho0, hi, hb, hk⟩; refine ⟨_, rfl, ?_⟩; replace BK154 := Aside0.mk (KeepBut.blk hk (g' := gb154) blk_c NB154_0.out (by simp)); have HO158 := Aside0.mk (Kd.R_lower ho0 (keep_size (w := w) (g := g) (row := none) (by repeat (first | (with_reducible first | exact HK.out | apply KeepBut.set_ | apply keep_drewN | apply keep_drew | apply keep_alloc | refine keep_far ?_ GW154.out _) | exact HK.out)))); replace HK := Aside0.mk (KeepBut.trans (by repeat (first | (with_reducible first | exact HK.out | apply KeepBut.set_ | apply keep_drewN | apply keep_drew | apply keep_alloc | refine keep_far ?_ GW154.out _) | exact HK.out)) hk (.inl rfl)); replace HB := Aside0.mk (hb); replace HI0 := Aside0.mk (hi); (try clear hb); (try clear hb2); (try clear hk); (try clear hi); (try clear ho0)) | ((with_reducible refine gate_dst (N := 3) rfl ?_); refine box_event ?hg (N := 3) ?hd (cs := #[.int .i64 0, .slice none 0 0]) (t := 26) ?hr ?_; (case hd => rfl); (case hg => rfl); (case hr => first | (go_simp; done) | (go_simp; rfl)); intro gb160 hg w46 hbox hb; replace HO158 := Aside0.mk (Kd.R_below (R_a HO158.out) hb); have n1_ := Aside0.mk (IsS70.below (IsS70.a) hb); have n2_ := Aside0.mk (blk_below (g := gb154) blk_c hb); have n3_ := Aside0.mk (KeepBut.trans (by repeat (first | (with_reducible first | exact HK.out | apply KeepBut.set_ | apply keep_drewN | apply keep_drew | apply keep_alloc | refine keep_far ?_ GW154.out _) | exact HK.out)) (KeepBut.of_below hb g none) (.inl rfl)); replace HB := Aside0.mk (below_step (by repeat (first | (with_reducible first | exact HB.out | apply below_alloc | apply pw_below_drewN | apply below_drew1 | refine below_set ?_ (IsS70.ge HI0.out) | refine below_set ?_ GE154.out) | exact HB.out)) hb); have BK160 := Aside0.mk (hbox); have GW160 := Aside0.mk ((by rw [hg]; exact (keep_size (w := w) (g := g) (row := none) (by repeat (first | (with_reducible first | exact HK.out | apply KeepBut.set_ | apply keep_drewN | apply keep_drew | apply keep_alloc | refine keep_far ?_ GW154.out _) | exact HK.out))) : w.heap.size ≤ gb160)); have GE160 := Aside0.mk ((Nat.le_trans HW0.out (by rw [hg]; exact (keep_size (w := w) (g := g) (row := none) (by repeat (first | (with_reducible first | exact HK.out | apply KeepBut.set_ | apply keep_drewN | apply keep_drew | apply keep_alloc | refine keep_far ?_ GW154.out _) | exact HK.out))) : w.heap.size ≤ gb160) : w0.heap.size ≤ gb160)); have NB154_160 := Aside0.mk (bne_ (g := gb154) hg); have NB160_154 := Aside0.mk (bne_ (g := gb154) hg).symm; have NB0_160 := Aside0.mk ((by rw [hg]; exact Nat.ne_of_lt (IsS70.lt (show IsS70 w0 _ g s0_0 t159 from IsS70.a)) : g ≠ gb160)); have NB160_0 := Aside0.mk ((by rw [hg]; exact Nat.ne_of_gt (IsS70.lt (show IsS70 w0 _ g s0_0 t159 from IsS70.a)) : gb160 ≠ g)); replace HI0 := n1_; replace BK154 := n2_; replace HK := n3_; clear n1_ n2_ n3_; clear hb hbox hg; have hnb47 := NB160_154.out; have hnc47 := NB154_160.out; have hnb48 := NB160_0.out; have hnc48 := NB0_160.out; obtain ⟨hcz49_0, hcz49_1, hfz49_0, hfz49_1⟩ := bc2_ BK160.out; obtain ⟨Ao50, co50, eo50⟩ := Kd.R_slice HO158.out; subst eo50) | ((with_reducible refine gate_callee (f := 39) rfl ?_); refine goesL_ (some 7) rfl rfl Try.func39 (by kernel_rfl) rfl #[.pointer (some ⟨g, 0, none⟩), .int .i64 12] rfl args_a ?_; (with_reducible refine (spec_l1Next.calls g s0_0 t159 12 t161 t162 w0 _ ?side1 ?side2 A3.out).mono ?_); (case side1 => exact IsS70.a); (case side2 => repeat (first | (with_reducible first | exact HB.out | apply below_alloc | apply pw_below_drewN | apply below_drew1 | refine below_set ?_ (IsS70.ge HI0.out) | refine below_set ?_ GE154.out | refine below_set ?_ GE160.out) | exact HB.out)); rintro e w51 ⟨rfl, hi, hb, hk⟩; refine ⟨_, rfl, ?_⟩; have n0_ := Aside0.mk (KeepBut.blk hk (g' := gb154) blk_c NB154_0.out (by simp)); replace HO158 := Aside0.mk (Kd.R_mono (Kd.R_keep (IsS70.apart (show IsS70 w0 _ g s0_0 t159 from IsS70.a) (by (with_reducible repeat (first | apply Kd.R_alloc | apply Kd.R_drewN | apply Kd.R_drew)); exact (Kd.R_mono (Kd.R_far (p := ⟨gb160, 1, none⟩) (Kd.R_far (p := ⟨gb160, 0, none⟩) (Kd.R_types HO158.out BK160.out (by decide)) (fun _ hk => hk.2) (.int .i64 t155)) (fun _ hk => hk.2) (.slice Ao50 t156.length co50)) (fun _ h_ => h_.1))) (by decide)) hk (fun _ h => h.2)) (fun _ h => h.1)); replace BK160 := Aside0.mk (KeepBut.blk hk (g' := gb160) (o := .cells #[.int .i64 t155, .slice Ao50 t156.length co50] 26 (0, 0)) blk_a NB160_0.out (by simp)); replace HK := Aside0.mk (KeepBut.trans (by repeat (first | (with_reducible first | exact HK.out | apply KeepBut.set_ | apply keep_drewN | apply keep_drew | apply keep_alloc | refine keep_far ?_ GW154.out _ | refine keep_far ?_ GW160.out _) | exact HK.out)) hk (.inl rfl)); replace HB := Aside0.mk (hb); replace HI0 := Aside0.mk (hi); replace BK154 := n0_; clear n0_; (try clear hb); (try clear hb2); (try clear hk); (try clear hi); obtain ⟨hcz52_0, hcz52_1, hfz52_0, hfz52_1⟩ := bc2_ BK160.out; have hnb53 := NB154_0.out; have hnc53 := NB0_154.out; obtain ⟨hcz54_0, hcz54_1, hfz54_0, hfz54_1⟩ := bc2_ BK154.out))
    refine bodyPost_ret (results_cell_row rfl _ _ gb154 26 #[.int .i64 t155, .slice none 0 0] (0, 0) _ rfl blk_a Try.underlying26 rfl (by kernel_rfl)) rfl ?_; exact ⟨_, eq_a, by first | exact Kd.R_nil _ _ _ _ _ | exact Kd.N_nil _ _ _ _ _ | exact Kd.V_nil _ _ _ _ _ | exact Kd.Q_nil _ _ _ _ _ | exact Kd.S_nil _ _ _ _ _, IsS70.a, by repeat (first | (with_reducible first | exact HB.out | apply below_alloc | apply pw_below_drewN | apply below_drew1 | refine below_set ?_ (IsS70.ge HI0.out) | refine below_set ?_ GE154.out | refine below_set ?_ GE160.out) | exact HB.out), by repeat (first | (with_reducible first | exact HK.out | apply KeepBut.set_ | apply keep_drewN | apply keep_drew | apply keep_alloc | refine keep_far ?_ GW154.out _ | refine keep_far ?_ GW160.out _) | exact HK.out)⟩
   ·
    rw [if_neg c43] at H; have c43b0 : (t161 == 2) = false := beq_eq_false_iff_ne.mpr c43; have c43b1 : (t161 != 2) = true := bne_iff_ne.mpr c43; simp only [Option.some.injEq, Prod.mk.injEq] at H; obtain ⟨rfl, rfl, rfl⟩ := H
    go_enter Try.func37, Try.ntmps37
    go_wp2_with (first | ((with_reducible refine gate_dst (N := 2) rfl ?_); refine box_event ?hg (N := 2) ?hd (cs := #[.int .i64 0, .slice none 0 0]) (t := 26) ?hr ?_; (case hd => rfl); (case hg => rfl); (case hr => first | (go_simp; done) | (go_simp; rfl)); intro gb154 hg w55 hbox hb; have n0_ := Aside0.mk (IsS70.below (IsS70.a) hb); have n1_ := Aside0.mk (KeepBut.trans (by repeat (first | (with_reducible first | exact HK.out | apply KeepBut.set_ | apply keep_drewN | apply keep_drew | apply keep_alloc) | exact HK.out)) (KeepBut.of_below hb g none) (.inl rfl)); replace HB := Aside0.mk (below_step (by repeat (first | (with_reducible first | exact HB.out | apply below_alloc | apply pw_below_drewN | apply below_drew1 | refine below_set ?_ (IsS70.ge HI0.out)) | exact HB.out)) hb); have BK154 := Aside0.mk (hbox); have GW154 := Aside0.mk ((by rw [hg]; exact (keep_size (w := w) (g := g) (row := none) (by repeat (first | (with_reducible first | exact HK.out | apply KeepBut.set_ | apply keep_drewN | apply keep_drew | apply keep_alloc) | exact HK.out))) : w.heap.size ≤ gb154)); have GE154 := Aside0.mk ((Nat.le_trans HW0.out (by rw [hg]; exact (keep_size (w := w) (g := g) (row := none) (by repeat (first | (with_reducible first | exact HK.out | apply KeepBut.set_ | apply keep_drewN | apply keep_drew | apply keep_alloc) | exact HK.out))) : w.heap.size ≤ gb154) : w0.heap.size ≤ gb154)); have NB0_154 := Aside0.mk ((by rw [hg]; exact Nat.ne_of_lt (IsS70.lt (show IsS70 w0 _ g s0_0 s0_1 from IsS70.a)) : g ≠ gb154)); have NB154_0 := Aside0.mk ((by rw [hg]; exact Nat.ne_of_gt (IsS70.lt (show IsS70 w0 _ g s0_0 s0_1 from IsS70.a)) : gb154 ≠ g)); replace HI0 := n0_; replace HK := n1_; clear n0_ n1_; clear hb hbox hg) | ((with_reducible refine gate_callee (f := 47) rfl ?_); refine goesL_ (some 5) rfl rfl Try.func47 (by kernel_rfl) rfl #[.pointer (some ⟨g, 0, none⟩)] rfl args_a ?_; (with_reducible refine (spec_l6Draw.calls k g s0_0 s0_1 t155 t156 t159 w0 _ ?side1 ?side2 A2.out).mono ?_); (case side1 => exact IsS70.a); (case side2 => repeat (first | (with_reducible first | exact HB.out | apply below_alloc | apply pw_below_drewN | apply below_drew1 | refine below_set ?_ (IsS70.ge HI0.out) | refine below_set ?_ GE154.out) | exact HB.out)); rintro e w56 ⟨v157, rfl, ho0, hi, hb, hk⟩; refine ⟨_, rfl, ?_⟩; replace BK154 := Aside0.mk (KeepBut.blk hk (g' := gb154) blk_c NB154_0.out (by simp)); have HO158 := Aside0.mk (Kd.R_lower ho0 (keep_size (w := w) (g := g) (row := none) (by repeat (first | (with_reducible first | exact HK.out | apply KeepBut.set_ | apply keep_drewN | apply keep_drew | apply keep_alloc | refine keep_far ?_ GW154.out _) | exact HK.out)))); replace HK := Aside0.mk (KeepBut.trans (by repeat (first | (with_reducible first | exact HK.out | apply KeepBut.set_ | apply keep_drewN | apply keep_drew | apply keep_alloc | refine keep_far ?_ GW154.out _) | exact HK.out)) hk (.inl rfl)); replace HB := Aside0.mk (hb); replace HI0 := Aside0.mk (hi); (try clear hb); (try clear hb2); (try clear hk); (try clear hi); (try clear ho0)) | ((with_reducible refine gate_dst (N := 3) rfl ?_); refine box_event ?hg (N := 3) ?hd (cs := #[.int .i64 0, .slice none 0 0]) (t := 26) ?hr ?_; (case hd => rfl); (case hg => rfl); (case hr => first | (go_simp; done) | (go_simp; rfl)); intro gb160 hg w57 hbox hb; replace HO158 := Aside0.mk (Kd.R_below (R_a HO158.out) hb); have n1_ := Aside0.mk (IsS70.below (IsS70.a) hb); have n2_ := Aside0.mk (blk_below (g := gb154) blk_c hb); have n3_ := Aside0.mk (KeepBut.trans (by repeat (first | (with_reducible first | exact HK.out | apply KeepBut.set_ | apply keep_drewN | apply keep_drew | apply keep_alloc | refine keep_far ?_ GW154.out _) | exact HK.out)) (KeepBut.of_below hb g none) (.inl rfl)); replace HB := Aside0.mk (below_step (by repeat (first | (with_reducible first | exact HB.out | apply below_alloc | apply pw_below_drewN | apply below_drew1 | refine below_set ?_ (IsS70.ge HI0.out) | refine below_set ?_ GE154.out) | exact HB.out)) hb); have BK160 := Aside0.mk (hbox); have GW160 := Aside0.mk ((by rw [hg]; exact (keep_size (w := w) (g := g) (row := none) (by repeat (first | (with_reducible first | exact HK.out | apply KeepBut.set_ | apply keep_drewN | apply keep_drew | apply keep_alloc | refine keep_far ?_ GW154.out _) | exact HK.out))) : w.heap.size ≤ gb160)); have GE160 := Aside0.mk ((Nat.le_trans HW0.out (by rw [hg]; exact (keep_size (w := w) (g := g) (row := none) (by repeat (first | (with_reducible first | exact HK.out | apply KeepBut.set_ | apply keep_drewN | apply keep_drew | apply keep_alloc | refine keep_far ?_ GW154.out _) | exact HK.out))) : w.heap.size ≤ gb160) : w0.heap.size ≤ gb160)); have NB154_160 := Aside0.mk (bne_ (g := gb154) hg); have NB160_154 := Aside0.mk (bne_ (g := gb154) hg).symm; have NB0_160 := Aside0.mk ((by rw [hg]; exact Nat.ne_of_lt (IsS70.lt (show IsS70 w0 _ g s0_0 t159 from IsS70.a)) : g ≠ gb160)); have NB160_0 := Aside0.mk ((by rw [hg]; exact Nat.ne_of_gt (IsS70.lt (show IsS70 w0 _ g s0_0 t159 from IsS70.a)) : gb160 ≠ g)); replace HI0 := n1_; replace BK154 := n2_; replace HK := n3_; clear n1_ n2_ n3_; clear hb hbox hg; have hnb58 := NB160_154.out; have hnc58 := NB154_160.out; have hnb59 := NB160_0.out; have hnc59 := NB0_160.out; obtain ⟨hcz60_0, hcz60_1, hfz60_0, hfz60_1⟩ := bc2_ BK160.out; obtain ⟨Ao61, co61, eo61⟩ := Kd.R_slice HO158.out; subst eo61) | ((with_reducible refine gate_callee (f := 39) rfl ?_); refine goesL_ (some 7) rfl rfl Try.func39 (by kernel_rfl) rfl #[.pointer (some ⟨g, 0, none⟩), .int .i64 12] rfl args_a ?_; (with_reducible refine (spec_l1Next.calls g s0_0 t159 12 t161 t162 w0 _ ?side1 ?side2 A3.out).mono ?_); (case side1 => exact IsS70.a); (case side2 => repeat (first | (with_reducible first | exact HB.out | apply below_alloc | apply pw_below_drewN | apply below_drew1 | refine below_set ?_ (IsS70.ge HI0.out) | refine below_set ?_ GE154.out | refine below_set ?_ GE160.out) | exact HB.out)); rintro e w62 ⟨rfl, hi, hb, hk⟩; refine ⟨_, rfl, ?_⟩; have n0_ := Aside0.mk (KeepBut.blk hk (g' := gb154) blk_c NB154_0.out (by simp)); replace HO158 := Aside0.mk (Kd.R_mono (Kd.R_keep (IsS70.apart (show IsS70 w0 _ g s0_0 t159 from IsS70.a) (by (with_reducible repeat (first | apply Kd.R_alloc | apply Kd.R_drewN | apply Kd.R_drew)); exact (Kd.R_mono (Kd.R_far (p := ⟨gb160, 1, none⟩) (Kd.R_far (p := ⟨gb160, 0, none⟩) (Kd.R_types HO158.out BK160.out (by decide)) (fun _ hk => hk.2) (.int .i64 t155)) (fun _ hk => hk.2) (.slice Ao61 t156.length co61)) (fun _ h_ => h_.1))) (by decide)) hk (fun _ h => h.2)) (fun _ h => h.1)); replace BK160 := Aside0.mk (KeepBut.blk hk (g' := gb160) (o := .cells #[.int .i64 t155, .slice Ao61 t156.length co61] 26 (0, 0)) blk_a NB160_0.out (by simp)); replace HK := Aside0.mk (KeepBut.trans (by repeat (first | (with_reducible first | exact HK.out | apply KeepBut.set_ | apply keep_drewN | apply keep_drew | apply keep_alloc | refine keep_far ?_ GW154.out _ | refine keep_far ?_ GW160.out _) | exact HK.out)) hk (.inl rfl)); replace HB := Aside0.mk (hb); replace HI0 := Aside0.mk (hi); replace BK154 := n0_; clear n0_; (try clear hb); (try clear hb2); (try clear hk); (try clear hi); obtain ⟨hcz63_0, hcz63_1, hfz63_0, hfz63_1⟩ := bc2_ BK160.out; have hnb64 := NB154_0.out; have hnc64 := NB0_154.out; obtain ⟨hcz65_0, hcz65_1, hfz65_0, hfz65_1⟩ := bc2_ BK154.out))
    refine bodyPost_ret (results_cell_row rfl _ _ gb154 26 #[.int .i64 t155, .slice Ao61 t156.length co61] (0, 0) _ rfl blk_a Try.underlying26 rfl (by kernel_rfl)) rfl ?_; exact ⟨_, eq_a, by (with_reducible repeat (first | apply Kd.R_alloc | apply Kd.R_drewN | apply Kd.R_drew)); exact Kd.R_mono (Kd.R_far (p := ⟨gb154, 1, none⟩) (Kd.R_far (p := ⟨gb154, 0, none⟩) (Kd.R_types HO158.out BK154.out (by decide)) (fun _ hk => hk.2) (.int .i64 t155)) (fun _ hk => hk.2) (.slice Ao61 t156.length co61)) (fun _ hk => trivial), IsS70.a, by repeat (first | (with_reducible first | exact HB.out | apply below_alloc | apply pw_below_drewN | apply below_drew1 | refine below_set ?_ (IsS70.ge HI0.out) | refine below_set ?_ GE154.out | refine below_set ?_ GE160.out) | exact HB.out), by repeat (first | (with_reducible first | exact HK.out | apply KeepBut.set_ | apply keep_drewN | apply keep_drew | apply keep_alloc | refine keep_far ?_ GW154.out _ | refine keep_far ?_ GW160.out _) | exact HK.out)⟩

/-! ### spec_DrawTakeCounter: function 8 -/
def spec_DrawTakeCounter.f (k : Nat) (l0 : List Int) : Option (Int × List Int × Int) := (spec_l1Source.f l0).bind fun bt177 => ((spec_l6Bent.f k bt177.1 bt177.2).bind fun bt180 => ((spec_l1Next.f bt177.1 bt180.2.2 30).bind fun bt186 => ((spec_l1Pick.f bt177.1 bt186.2 (([wrap64 (bt180.1 + 1), bt180.1, wrap64 (bt180.1 - 1), wrap64 (bt180.1 - 15), wrap64 (bt180.1 - 16), wrap64 (bt180.1 + 20), bt186.1, (-1), 1000000001] : List Int))).bind fun bt191 => (some (bt180.1, bt180.2.1, bt191.1)))))
theorem spec_DrawTakeCounter.mono : ∀ a0 k, LeO (spec_DrawTakeCounter.f k a0) (spec_DrawTakeCounter.f (k + 1) a0) := by
 intro a0 k
 unfold spec_DrawTakeCounter.f
 repeat' first
   | (with_reducible exact spec_l6Bent.mono _ _ _)
   | (with_reducible exact LeO.refl _)
   | (with_reducible exact LeO.none _)
   | (with_reducible refine LeO.ite ?_ ?_)
   | (with_reducible refine LeO.bind ?_ (fun _ => ?_))
   | exact spec_l6Bent.mono _ _ _
   | exact LeO.none _
   | refine LeO.ite ?_ ?_
   | refine LeO.bind ?_ (fun _ => ?_)
def spec_DrawTakeCounter.T3 : Bool × List (List Nat × List Nat) := (true, [([], []), ([], []), ([], []), ([2], [2]), ([3], [3]), ([], []), ([5], [5]), ([], []), ([7], [7]), ([8], [8]), ([], []), ([10], [10]), ([11], [11]), ([], []), ([13], [13]), ([14], [14]), ([], []), ([16], [16]), ([17], [17]), ([], []), ([19], [19]), ([4, 6, 9, 12, 15, 18, 20], [4, 6, 9, 12, 15, 18, 20]), ([1, 21, 20], [1, 21]), ([0, 22, 0], [0]), ([22, 23, 0, 1, 2, 3, 4, 5, 6, 7, 8, 9, 10, 11, 12, 13, 14, 15, 16, 17, 18, 19, 20, 21, 22, 23], [22])])
def spec_DrawTakeCounter.B3 : List Nat := [0, 0, 0, 4, 12, 0, 32, 0, 128, 384, 0, 1024, 3072, 0, 8192, 24576, 0, 65536, 196608, 0, 524288, 2097148, 4194302, 8388607, 16777215]
theorem spec_DrawTakeCounter.tab3 : rtab .any (opsOf Try.f8 3) = spec_DrawTakeCounter.T3 := by kernel_rfl
theorem spec_DrawTakeCounter.bits3 : waitsOk spec_DrawTakeCounter.T3.2 spec_DrawTakeCounter.B3 = true := by kernel_rfl
set_option maxHeartbeats 8000000 in
set_option maxRecDepth 100000 in
theorem spec_DrawTakeCounter.calls (k : Nat) (A0 : Option Addr) (c0 : Nat) (l0 : List Int) (r1 : Int) (r2 : List Int) (r3 : Int) (w : World) (hr0 : Kd.C (Kd.int .u8) w A0 l0.length l0) (hc0 : l0.length ≤ c0) (h : spec_DrawTakeCounter.f k l0 = some (r1, r2, r3)) :
  Calls Try.prog 8 #[.slice A0 l0.length c0] w fun e w' => ∃ v1_ : Value, e = .returned (.tuple #[.agg #[.int .i64 r1, v1_], .int .i64 r3]) ∧ Kd.R (Kd.int .i64) 2 w' w.heap.size (fun _ => True) v1_ r2 ∧ Below w.heap.size w w' := by
 have hu26 := Try.underlying26
 have HR0 := Aside0.mk hr0
 have HC0 := Aside0.mk hc0
 clear hr0 hc0
 have HB := Aside0.mk (Below.refl w.heap.size w)
 have H : ((spec_l1Source.f l0).bind fun bt177 => ((spec_l6Bent.f k bt177.1 bt177.2).bind fun bt180 => ((spec_l1Next.f bt177.1 bt180.2.2 30).bind fun bt186 => ((spec_l1Pick.f bt177.1 bt186.2 (([wrap64 (bt180.1 + 1), bt180.1, wrap64 (bt180.1 - 1), wrap64 (bt180.1 - 15), wrap64 (bt180.1 - 16), wrap64 (bt180.1 + 20), bt186.1, (-1), 1000000001] : List Int))).bind fun bt191 => (some (bt180.1, bt180.2.1, bt191.1)))))) = some (r1, r2, r3) := h
 clear h
 replace H := Option.bind_eq_some_iff.mp H
 obtain ⟨⟨t177, t178⟩, A20, H⟩ := H
 replace H : ((spec_l6Bent.f k t177 t178).bind fun bt180 => ((spec_l1Next.f t177 bt180.2.2 30).bind fun bt186 => ((spec_l1Pick.f t177 bt186.2 (([wrap64 (bt180.1 + 1), bt180.1, wrap64 (bt180.1 - 1), wrap64 (bt180.1 - 15), wrap64 (bt180.1 - 16), wrap64 (bt180.1 + 20), bt186.1, (-1), 1000000001] : List Int))).bind fun bt191 => (some (bt180.1, bt180.2.1, bt191.1))))) = some (r1, r2, r3) := H
 have A2 := Aside0.mk A20
 clear A20
 replace H := Option.bind_eq_some_iff.mp H
 obtain ⟨⟨t180, t181, t184⟩, A30, H⟩ := H
 replace H : ((spec_l1Next.f t177 t184 30).bind fun bt186 => ((spec_l1Pick.f t177 bt186.2 (([wrap64 (t180 + 1), t180, wrap64 (t180 - 1), wrap64 (t180 - 15), wrap64 (t180 - 16), wrap64 (t180 + 20), bt186.1, (-1), 1000000001] : List Int))).bind fun bt191 => (some (t180, t181, bt191.1)))) = some (r1, r2, r3) := H
 have A3 := Aside0.mk A30
 clear A30
 replace H := Option.bind_eq_some_iff.mp H
 obtain ⟨⟨t186, t187⟩, A40, H⟩ := H
 replace H : ((spec_l1Pick.f t177 t187 (([wrap64 (t180 + 1), t180, wrap64 (t180 - 1), wrap64 (t180 - 15), wrap64 (t180 - 16), wrap64 (t180 + 20), t186, (-1), 1000000001] : List Int))).bind fun bt191 => (some (t180, t181, bt191.1))) = some (r1, r2, r3) := H
 have A4 := Aside0.mk A40
 clear A40
 obtain ⟨y188, hy188⟩ : ∃ y_ : List Int, y_ = (([wrap64 (t180 + 1), t180, wrap64 (t180 - 1), wrap64 (t180 - 15), wrap64 (t180 - 16), wrap64 (t180 + 20), t186, (-1), 1000000001] : List Int)) := ⟨_, rfl⟩
 replace H : ((spec_l1Pick.f t177 t187 y188).bind fun bt191 => (some (t180, t181, bt191.1))) = some (r1, r2, r3) := by first | (rw [hy188]; with_reducible exact H) | (have H2_ := (Option.bind_some _ _).symm.trans H; rw [hy188]; with_reducible exact H2_) | (have H2_ := (Option.bind_some _ _).symm.trans H; with_reducible exact H2_) | with_reducible exact H | (rw [hy188]; exact H) | exact H
 have Ny188 := Aside0.mk hy188
 clear hy188
 replace H := Option.bind_eq_some_iff.mp H
 obtain ⟨⟨t191, t192⟩, A50, H⟩ := H
 replace H : (some (t180, t181, t191)) = some (r1, r2, r3) := H
 have A5 := Aside0.mk A50
 clear A50
 simp only [Option.some.injEq, Prod.mk.injEq] at H
 obtain ⟨rfl, rfl, rfl⟩ := H
 go_enter Try.func8, Try.ntmps8
 try go_wp2_with (first | ((with_reducible refine gate_dst (N := 2) rfl ?_); refine box_event ?hg (N := 2) ?hd (cs := #[.int .i64 0, .slice none 0 0]) (t := 26) ?hr ?_; (case hd => rfl); (case hg => rfl); (case hr => first | (go_simp; done) | (go_simp; rfl)); intro gb176 hg w6 hbox hb; have n0_ := Aside0.mk (below_step below_a hb); have BK176 := Aside0.mk (hbox); have GW176 := Aside0.mk (bsz_ (w := w) hg); have GE176 := Aside0.mk (bsz_ (w := w) hg); replace HB := n0_; clear n0_; clear hb hbox hg) | ((with_reducible refine gate_callee (f := 36) rfl ?_); refine goesL_ (some 7) rfl rfl Try.func36 (by kernel_rfl) rfl #[.slice A0 l0.length c0] rfl args_a ?_; (with_reducible refine (spec_l1Source.calls _ _ l0 t177 t178 w _ ?side1 ?side2 ?side3 A2.out).mono ?_); (case side1 => exact below_a); (case side2 => exact HR0.out); (case side3 => exact HC0.out); rintro e w7 ⟨g179, rfl, hi, hb, hb2⟩; refine ⟨_, rfl, ?_⟩; have n0_ := Aside0.mk (blk_below (g := gb176) blk_c hb2); replace HB := Aside0.mk (hb); have HI179 := Aside0.mk (hi); have NB179_176 := Aside0.mk (IsS70.ne_blk hi (blk_below (g := gb176) blk_c hb2) (by decide)); have NB176_179 := Aside0.mk (Ne.symm (IsS70.ne_blk hi (blk_below (g := gb176) blk_c hb2) (by decide))); replace BK176 := n0_; clear n0_; (try clear hb); (try clear hb2); (try clear hk); (try clear hi)) | ((with_reducible refine gate_callee (f := 37) rfl ?_); refine goesL_ (some 9) rfl rfl Try.func37 (by kernel_rfl) rfl #[.pointer (some ⟨g179, 0, none⟩)] rfl args_a ?_; (with_reducible refine (spec_l6Bent.calls k g179 t177 t178 t180 t181 t184 w _ ?side1 ?side2 A3.out).mono ?_); (case side1 => exact IsS70.a); (case side2 => repeat (first | (with_reducible first | exact HB.out | apply below_alloc | apply pw_below_drewN | apply below_drew1 | refine below_set ?_ (IsS70.ge HI179.out) | refine below_set ?_ GE176.out) | exact HB.out)); rintro e w8 ⟨v182, rfl, ho0, hi, hb, hk⟩; refine ⟨_, rfl, ?_⟩; replace BK176 := Aside0.mk (KeepBut.blk hk (g' := gb176) blk_c NB176_179.out (by simp)); have HO183 := Aside0.mk (Kd.R_lower ho0 (below_size (by repeat (first | (with_reducible first | exact HB.out | apply below_alloc | apply pw_below_drewN | apply below_drew1 | refine below_set ?_ (IsS70.ge HI179.out) | refine below_set ?_ GE176.out) | exact HB.out)))); replace HB := Aside0.mk (hb); replace HI179 := Aside0.mk (hi); (try clear hb); (try clear hb2); (try clear hk); (try clear hi); (try clear ho0)) | ((with_reducible refine gate_dst (N := 5) rfl ?_); refine box_event ?hg (N := 5) ?hd (cs := #[.int .i64 0, .slice none 0 0]) (t := 26) ?hr ?_; (case hd => rfl); (case hg => rfl); (case hr => first | (go_simp; done) | (go_simp; rfl)); intro gb185 hg w9 hbox hb; replace HO183 := Aside0.mk (Kd.R_below (R_a HO183.out) hb); have n1_ := Aside0.mk (blk_below (g := gb176) blk_c hb); have n2_ := Aside0.mk (IsS70.below (IsS70.a) hb); have n3_ := Aside0.mk (below_step (by repeat (first | (with_reducible first | exact HB.out | apply below_alloc | apply pw_below_drewN | apply below_drew1 | refine below_set ?_ (IsS70.ge HI179.out) | refine below_set ?_ GE176.out) | exact HB.out)) hb); have BK185 := Aside0.mk (hbox); have GW185 := Aside0.mk ((by rw [hg]; exact (below_size (by repeat (first | (with_reducible first | exact HB.out | apply below_alloc | apply pw_below_drewN | apply below_drew1 | refine below_set ?_ (IsS70.ge HI179.out) | refine below_set ?_ GE176.out) | exact HB.out))) : w.heap.size ≤ gb185)); have GE185 := Aside0.mk ((by rw [hg]; exact (below_size (by repeat (first | (with_reducible first | exact HB.out | apply below_alloc | apply pw_below_drewN | apply below_drew1 | refine below_set ?_ (IsS70.ge HI179.out) | refine below_set ?_ GE176.out) | exact HB.out))) : w.heap.size ≤ gb185)); have NB176_185 := Aside0.mk (bne_ (g := gb176) hg); have NB185_176 := Aside0.mk (bne_ (g := gb176) hg).symm; have NB179_185 := Aside0.mk ((by rw [hg]; exact Nat.ne_of_lt (IsS70.lt (show IsS70 w _ g179 t177 t184 from IsS70.a)) : g179 ≠ gb185)); have NB185_179 := Aside0.mk ((by rw [hg]; exact Nat.ne_of_gt (IsS70.lt (show IsS70 w _ g179 t177 t184 from IsS70.a)) : gb185 ≠ g179)); replace BK176 := n1_; replace HI179 := n2_; replace HB := n3_; clear n1_ n2_ n3_; clear hb hbox hg; have hnb10 := NB185_176.out; have hnc10 := NB176_185.out; have hnb11 := NB185_179.out; have hnc11 := NB179_185.out; obtain ⟨hcz12_0, hcz12_1, hfz12_0, hfz12_1⟩ := bc2_ BK185.out; obtain ⟨Ao13, co13, eo13⟩ := Kd.R_slice HO183.out; subst eo13))
 generalize hW_ : ((w9.setCell ⟨gb185, 0, none⟩ (.int .i64 t180)).setCell ⟨gb185, 1, none⟩ (.slice Ao13 t181.length co13)) = w14 at ⊢
 have n0_ : Aside0 (Kd.R (Kd.int .i64) 2 w14 w.heap.size (fun _ => True) (.slice Ao13 t181.length co13) t181) := hW_ ▸ ⟨by (with_reducible repeat (first | apply Kd.R_alloc | apply Kd.R_drewN | apply Kd.R_drew)); exact Kd.R_mono (Kd.R_far (p := ⟨gb185, 1, none⟩) (Kd.R_far (p := ⟨gb185, 0, none⟩) (Kd.R_types HO183.out BK185.out (by decide)) (fun _ hk => hk.2) (.int .i64 t180)) (fun _ hk => hk.2) (.slice Ao13 t181.length co13)) (fun _ hk => trivial)⟩
 have n1_ : Aside0 (w14.heap[gb176]? = some (.cells #[.int .i64 0, .slice none 0 0] 26 (0, 0))) := hW_ ▸ ⟨blk_a⟩
 have n2_ : Aside0 (w14.heap[gb185]? = some (.cells #[.int .i64 t180, .slice Ao13 t181.length co13] 26 (0, 0))) := hW_ ▸ ⟨blk_a⟩
 have n3_ : Aside0 (IsS70 w w14 g179 t177 t184) := hW_ ▸ ⟨IsS70.a⟩
 have n4_ : Aside0 (Below w.heap.size w w14) := hW_ ▸ ⟨by repeat (first | (with_reducible first | exact HB.out | apply below_alloc | apply pw_below_drewN | apply below_drew1 | refine below_set ?_ (IsS70.ge HI179.out) | refine below_set ?_ GE176.out | refine below_set ?_ GE185.out) | exact HB.out)⟩
 (try clear HO183)
 (try clear BK176)
 (try clear BK185)
 (try clear HI179)
 (try clear HB)
 clear hW_
 have HO183 := n0_
 have BK176 := n1_
 have BK185 := n2_
 have HI179 := n3_
 have HB := n4_
 clear n0_ n1_ n2_ n3_ n4_
 replace HO183 := Aside0.mk (Kd.R_drew HO183.out)
 replace BK176 := Aside0.mk (blk_drew BK176.out)
 replace BK185 := Aside0.mk (blk_drew BK185.out)
 replace HI179 := Aside0.mk (IsS70.drew HI179.out)
 replace HB := Aside0.mk (below_drew1 HB.out)
 refine start_ (n := 25) (S := fun w' => w'.cell? ⟨gb185, 0, none⟩ = some (.int .i64 t180) ∧ w'.cell? ⟨gb185, 1, none⟩ = some (.slice Ao13 t181.length co13)) (ds := []) #[Z',Z',Z',Z',Z',Z',Z',Z',Z',Z',Z',Z',Z',Z',Z',Z',Z',Z',Z',Z',Z',Z',Z',Z',Z'] (by kernel_rfl) rfl rfl ⟨(blk_cell BK185.out 0).trans rfl, (blk_cell BK185.out 1).trans rfl⟩ (fun hHeld => ?_); refine with_tabW spec_DrawTakeCounter.tab3 spec_DrawTakeCounter.bits3 (fun HT_ HW_ => ?_)
 generalize w14.drew = w15 at HO183 BK176 BK185 HI179 HB hHeld ⊢
 refine pure_ (i := 1) (N := some 11) (v := ?_) (a' := ?_) #[Z',Y',Z',Z',Z',Z',Z',Z',Z',Z',Z',Z',Z',Z',Z',Z',Z',Z',Z',Z',Z',Z',Z',Z',Z'] rfl rfl (any_of HT_.out (by kernel_rfl)) (fun _ _ _ h => h) (Or.inl ⟨by rfl, ?_⟩) ?_ ?_
 rotate_left
 ·
  intro w'
  go_simp
  with_reducible rfl
 rotate_left
 ·
  simp only [Act.put, List.setIfInBounds_toArray, List.set_cons_zero, List.set_cons_succ, i64_w, i32_w]; rfl
 refine pure_ (i := 2) (N := some 12) (v := ?_) (a' := ?_) #[Z',Y',Y',Z',Z',Z',Z',Z',Z',Z',Z',Z',Z',Z',Z',Z',Z',Z',Z',Z',Z',Z',Z',Z',Z'] rfl rfl (any_of HT_.out (by kernel_rfl)) (fun _ _ _ h => h) (Or.inl ⟨by rfl, ?_⟩) ?_ ?_
 rotate_left
 ·
  intro w'
  go_simp
  with_reducible rfl
 rotate_left
 ·
  simp only [Act.put, List.setIfInBounds_toArray, List.set_cons_zero, List.set_cons_succ, i64_w, i32_w]; rfl
 refine pure_ (i := 5) (N := some 15) (v := ?_) (a' := ?_) #[Z',Y',Y',Z',Z',Y',Z',Z',Z',Z',Z',Z',Z',Z',Z',Z',Z',Z',Z',Z',Z',Z',Z',Z',Z'] rfl rfl (any_of HT_.out (by kernel_rfl)) (fun _ _ _ h => h) (Or.inl ⟨by rfl, ?_⟩) ?_ ?_
 rotate_left
 ·
  intro w'
  go_simp
  with_reducible rfl
 rotate_left
 ·
  simp only [Act.put, List.setIfInBounds_toArray, List.set_cons_zero, List.set_cons_succ, i64_w, i32_w]; rfl
 refine pure_ (i := 7) (N := some 17) (v := ?_) (a' := ?_) #[Z',Y',Y',Z',Z',Y',Z',Y',Z',Z',Z',Z',Z',Z',Z',Z',Z',Z',Z',Z',Z',Z',Z',Z',Z'] rfl rfl (any_of HT_.out (by kernel_rfl)) (fun _ _ _ h => h) (Or.inl ⟨by rfl, ?_⟩) ?_ ?_
 rotate_left
 ·
  intro w'
  go_simp
  with_reducible rfl
 rotate_left
 ·
  simp only [Act.put, List.setIfInBounds_toArray, List.set_cons_zero, List.set_cons_succ, i64_w, i32_w]; rfl
 refine pure_ (i := 10) (N := some 20) (v := ?_) (a' := ?_) #[Z',Y',Y',Z',Z',Y',Z',Y',Z',Z',Y',Z',Z',Z',Z',Z',Z',Z',Z',Z',Z',Z',Z',Z',Z'] rfl rfl (any_of HT_.out (by kernel_rfl)) (fun _ _ _ h => h) (Or.inl ⟨by rfl, ?_⟩) ?_ ?_
 rotate_left
 ·
  intro w'
  go_simp
  with_reducible rfl
 rotate_left
 ·
  simp only [Act.put, List.setIfInBounds_toArray, List.set_cons_zero, List.set_cons_succ, i64_w, i32_w]; rfl
 refine pure_ (i := 13) (N := some 23) (v := ?_) (a' := ?_) #[Z',Y',Y',Z',Z',Y',Z',Y',Z',Z',Y',Z',Z',Y',Z',Z',Z',Z',Z',Z',Z',Z',Z',Z',Z'] rfl rfl (any_of HT_.out (by kernel_rfl)) (fun _ _ _ h => h) (Or.inl ⟨by rfl, ?_⟩) ?_ ?_
 rotate_left
 ·
  intro w'
  go_simp
  with_reducible rfl
 rotate_left
 ·
  simp only [Act.put, List.setIfInBounds_toArray, List.set_cons_zero, List.set_cons_succ, i64_w, i32_w]; rfl
 refine pure_ (i := 16) (N := some 26) (v := ?_) (a' := ?_) #[Z',Y',Y',Z',Z',Y',Z',Y',Z',Z',Y',Z',Z',Y',Z',Z',Y',Z',Z',Z',Z',Z',Z',Z',Z'] rfl rfl (any_of HT_.out (by kernel_rfl)) (fun _ _ _ h => h) (Or.inl ⟨by rfl, ?_⟩) ?_ ?_
 rotate_left
 ·
  intro w'
  go_simp
  with_reducible rfl
 rotate_left
 ·
  simp only [Act.put, List.setIfInBounds_toArray, List.set_cons_zero, List.set_cons_succ, i64_w, i32_w]; rfl
 refine pure_ (i := 19) (N := some 29) (v := ?_) (a' := ?_) #[Z',Y',Y',Z',Z',Y',Z',Y',Z',Z',Y',Z',Z',Y',Z',Z',Y',Z',Z',Y',Z',Z',Z',Z',Z'] rfl rfl (any_of HT_.out (by kernel_rfl)) (fun _ _ _ h => h) (Or.inl ⟨by rfl, ?_⟩) ?_ ?_
 rotate_left
 ·
  intro w'
  go_simp
  with_reducible rfl
 rotate_left
 ·
  simp only [Act.put, List.setIfInBounds_toArray, List.set_cons_zero, List.set_cons_succ, i64_w, i32_w]; rfl
 refine take_ (i := 0) (N := some 10) (v := ?_) (a' := ?_) #[Y',Y',Y',Z',Z',Y',Z',Y',Z',Z',Y',Z',Z',Y',Z',Z',Y',Z',Z',Y',Z',Z',Z',Z',Z'] rfl rfl (take_ofW HT_.out HW_.out (by kernel_rfl)) (fun _ _ _ h => h) (Or.inl ⟨by rfl, ?_⟩) hHeld ?_ ?_
 rotate_left
 ·
  rintro w' ⟨s0, s1⟩
  go_simp
  with_reducible rfl
 rotate_left
 ·
  simp only [Act.put, List.setIfInBounds_toArray, List.set_cons_zero, List.set_cons_succ, i64_w, i32_w]; rfl
 refine take_ (i := 3) (N := some 13) (v := ?_) (a' := ?_) #[Y',Y',Y',Y',Z',Y',Z',Y',Z',Z',Y',Z',Z',Y',Z',Z',Y',Z',Z',Y',Z',Z',Z',Z',Z'] rfl rfl (take_ofW HT_.out HW_.out (by kernel_rfl)) (fun _ _ _ h => h) (Or.inl ⟨by rfl, ?_⟩) hHeld ?_ ?_
 rotate_left
 ·
  rintro w' ⟨s0, s1⟩
  go_simp
  with_reducible rfl
 rotate_left
 ·
  simp only [Act.put, List.setIfInBounds_toArray, List.set_cons_zero, List.set_cons_succ, i64_w, i32_w]; rfl
 refine pure_ (i := 4) (N := some 14) (v := ?_) (a' := ?_) #[Y',Y',Y',Y',Y',Y',Z',Y',Z',Z',Y',Z',Z',Y',Z',Z',Y',Z',Z',Y',Z',Z',Z',Z',Z'] rfl rfl (any_of HT_.out (by kernel_rfl)) (fun _ _ _ h => h) (Or.inl ⟨by rfl, ?_⟩) ?_ ?_
 rotate_left
 ·
  intro w'
  go_simp
  with_reducible rfl
 rotate_left
 ·
  simp only [Act.put, List.setIfInBounds_toArray, List.set_cons_zero, List.set_cons_succ, i64_w, i32_w]; rfl
 refine take_ (i := 6) (N := some 16) (v := ?_) (a' := ?_) #[Y',Y',Y',Y',Y',Y',Y',Y',Z',Z',Y',Z',Z',Y',Z',Z',Y',Z',Z',Y',Z',Z',Z',Z',Z'] rfl rfl (take_ofW HT_.out HW_.out (by kernel_rfl)) (fun _ _ _ h => h) (Or.inl ⟨by rfl, ?_⟩) hHeld ?_ ?_
 rotate_left
 ·
  rintro w' ⟨s0, s1⟩
  go_simp
  with_reducible rfl
 rotate_left
 ·
  simp only [Act.put, List.setIfInBounds_toArray, List.set_cons_zero, List.set_cons_succ, i64_w, i32_w]; rfl
 refine take_ (i := 8) (N := some 18) (v := ?_) (a' := ?_) #[Y',Y',Y',Y',Y',Y',Y',Y',Y',Z',Y',Z',Z',Y',Z',Z',Y',Z',Z',Y',Z',Z',Z',Z',Z'] rfl rfl (take_ofW HT_.out HW_.out (by kernel_rfl)) (fun _ _ _ h => h) (Or.inl ⟨by rfl, ?_⟩) hHeld ?_ ?_
 rotate_left
 ·
  rintro w' ⟨s0, s1⟩
  go_simp
  with_reducible rfl
 rotate_left
 ·
  simp only [Act.put, List.setIfInBounds_toArray, List.set_cons_zero, List.set_cons_succ, i64_w, i32_w]; rfl
 refine pure_ (i := 9) (N := some 19) (v := ?_) (a' := ?_) #[Y',Y',Y',Y',Y',Y',Y',Y',Y',Y',Y',Z',Z',Y',Z',Z',Y',Z',Z',Y',Z',Z',Z',Z',Z'] rfl rfl (any_of HT_.out (by kernel_rfl)) (fun _ _ _ h => h) (Or.inl ⟨by rfl, ?_⟩) ?_ ?_
 rotate_left
 ·
  intro w'
  go_simp
  with_reducible rfl
 rotate_left
 ·
  simp only [Act.put, List.setIfInBounds_toArray, List.set_cons_zero, List.set_cons_succ, i64_w, i32_w]; rfl
 refine take_ (i := 11) (N := some 21) (v := ?_) (a' := ?_) #[Y',Y',Y',Y',Y',Y',Y',Y',Y',Y',Y',Y',Z',Y',Z',Z',Y',Z',Z',Y',Z',Z',Z',Z',Z'] rfl rfl (take_ofW HT_.out HW_.out (by kernel_rfl)) (fun _ _ _ h => h) (Or.inl ⟨by rfl, ?_⟩) hHeld ?_ ?_
 rotate_left
 ·
  rintro w' ⟨s0, s1⟩
  go_simp
  with_reducible rfl
 rotate_left
 ·
  simp only [Act.put, List.setIfInBounds_toArray, List.set_cons_zero, List.set_cons_succ, i64_w, i32_w]; rfl
 refine pure_ (i := 12) (N := some 22) (v := ?_) (a' := ?_) #[Y',Y',Y',Y',Y',Y',Y',Y',Y',Y',Y',Y',Y',Y',Z',Z',Y',Z',Z',Y',Z',Z',Z',Z',Z'] rfl rfl (any_of HT_.out (by kernel_rfl)) (fun _ _ _ h => h) (Or.inl ⟨by rfl, ?_⟩) ?_ ?_
 rotate_left
 ·
  intro w'
  go_simp
  with_reducible rfl
 rotate_left
 ·
  simp only [Act.put, List.setIfInBounds_toArray, List.set_cons_zero, List.set_cons_succ, i64_w, i32_w]; rfl
 refine take_ (i := 14) (N := some 24) (v := ?_) (a' := ?_) #[Y',Y',Y',Y',Y',Y',Y',Y',Y',Y',Y',Y',Y',Y',Y',Z',Y',Z',Z',Y',Z',Z',Z',Z',Z'] rfl rfl (take_ofW HT_.out HW_.out (by kernel_rfl)) (fun _ _ _ h => h) (Or.inl ⟨by rfl, ?_⟩) hHeld ?_ ?_
 rotate_left
 ·
  rintro w' ⟨s0, s1⟩
  go_simp
  with_reducible rfl
 rotate_left
 ·
  simp only [Act.put, List.setIfInBounds_toArray, List.set_cons_zero, List.set_cons_succ, i64_w, i32_w]; rfl
 refine pure_ (i := 15) (N := some 25) (v := ?_) (a' := ?_) #[Y',Y',Y',Y',Y',Y',Y',Y',Y',Y',Y',Y',Y',Y',Y',Y',Y',Z',Z',Y',Z',Z',Z',Z',Z'] rfl rfl (any_of HT_.out (by kernel_rfl)) (fun _ _ _ h => h) (Or.inl ⟨by rfl, ?_⟩) ?_ ?_
 rotate_left
 ·
  intro w'
  go_simp
  with_reducible rfl
 rotate_left
 ·
  simp only [Act.put, List.setIfInBounds_toArray, List.set_cons_zero, List.set_cons_succ, i64_w, i32_w]; rfl
 refine take_ (i := 17) (N := some 27) (v := ?_) (a' := ?_) #[Y',Y',Y',Y',Y',Y',Y',Y',Y',Y',Y',Y',Y',Y',Y',Y',Y',Y',Z',Y',Z',Z',Z',Z',Z'] rfl rfl (take_ofW HT_.out HW_.out (by kernel_rfl)) (fun _ _ _ h => h) (Or.inl ⟨by rfl, ?_⟩) hHeld ?_ ?_
 rotate_left
 ·
  rintro w' ⟨s0, s1⟩
  go_simp
  with_reducible rfl
 rotate_left
 ·
  simp only [Act.put, List.setIfInBounds_toArray, List.set_cons_zero, List.set_cons_succ, i64_w, i32_w]; rfl
 refine pure_ (i := 18) (N := some 28) (v := ?_) (a' := ?_) #[Y',Y',Y',Y',Y',Y',Y',Y',Y',Y',Y',Y',Y',Y',Y',Y',Y',Y',Y',Y',Z',Z',Z',Z',Z'] rfl rfl (any_of HT_.out (by kernel_rfl)) (fun _ _ _ h => h) (Or.inl ⟨by rfl, ?_⟩) ?_ ?_
 rotate_left
 ·
  intro w'
  go_simp
  with_reducible rfl
 rotate_left
 ·
  simp only [Act.put, List.setIfInBounds_toArray, List.set_cons_zero, List.set_cons_succ, i64_w, i32_w]; rfl
 refine one_ (i := 20) (N := some 30) #[Y',Y',Y',Y',Y',Y',Y',Y',Y',Y',Y',Y',Y',Y',Y',Y',Y',Y',Y',Y',Y',Z',Z',Z',Z'] rfl rfl (one_of HT_.out (by kernel_rfl)) (by decide) (fun K hK => ?_)
 refine goes_ Try.func39 (by kernel_rfl) rfl #[.pointer (some ⟨g179, 0, none⟩), .int .i64 30] (by rfl) rfl rfl args_a ?_
 with_reducible refine (spec_l1Next.calls g179 t177 t184 30 t186 t187 w _ ?side1 ?side2 A4.out).mono ?_
 (case side1 => exact IsS70.a)
 (case side2 => repeat (first | (with_reducible first | exact HB.out | apply below_alloc | apply pw_below_drewN | apply below_drew1 | refine below_set ?_ (IsS70.ge HI179.out) | refine below_set ?_ GE176.out | refine below_set ?_ GE185.out) | exact HB.out))
 rintro e w16 ⟨rfl, hi, hb, hk⟩
 refine ⟨_, rfl, ?_⟩
 have n0_ := Aside0.mk (KeepBut.blk hk (g' := gb176) blk_c NB176_179.out (by simp))
 replace HO183 := Aside0.mk (Kd.R_mono (Kd.R_keep (IsS70.apart (show IsS70 w _ g179 t177 t184 from IsS70.a) (R_a HO183.out) (by decide)) hk (fun _ h => h.2)) (fun _ h => h.1))
 replace BK185 := Aside0.mk (KeepBut.blk hk (g' := gb185) blk_c NB185_179.out (by simp))
 replace HB := Aside0.mk (hb)
 replace HI179 := Aside0.mk (hi)
 replace BK176 := n0_
 clear n0_
 (try clear hb)
 (try clear hb2)
 (try clear hk)
 (try clear hi)
 refine hK.out _ _ ⟨(blk_cell BK185.out 0).trans rfl, (blk_cell BK185.out 1).trans rfl⟩ (fun hHeld => ?_)
 clear hK K
 refine norm_ (a' := ?_) ?_ ?_
 rotate_left
 ·
  show Act.put _ (some 30) _ = _; simp only [Act.put, List.setIfInBounds_toArray, List.set_cons_zero, List.set_cons_succ, i64_w, i32_w]; rfl
 refine one_ (i := 21) (N := some 31) #[Y',Y',Y',Y',Y',Y',Y',Y',Y',Y',Y',Y',Y',Y',Y',Y',Y',Y',Y',Y',Y',Y',Z',Z',Z'] rfl rfl (one_of HT_.out (by kernel_rfl)) (by decide) (fun K hK => ?_)
 refine Kd.R_lit_step (Kd.int .i64) _ 2 ?hg (N := 31) ?hd (xs := ([wrap64 (t180 + 1), t180, wrap64 (t180 - 1), wrap64 (t180 - 15), wrap64 (t180 - 16), wrap64 (t180 + 20), t186, (-1), 1000000001] : List Int)) (inner := [.int .i64 (wrap64 (t180 + 1)), .int .i64 t180, .int .i64 (wrap64 (t180 - 1)), .int .i64 (wrap64 (t180 - 15)), .int .i64 (wrap64 (t180 - 16)), .int .i64 (wrap64 (t180 + 20)), .int .i64 t186, .int .i64 (-1), .int .i64 1000000001]) (ok := fun _ => True) (okp := fun _ => True) ?hr ?hp (fun _ hk => hk) trivial (Below.refl _ _) (Nat.le_refl _) (by simp) ?_; (case hd => rfl); (case hg => rfl); (case hr => first | (go_simp; done) | (go_simp; rfl)); (case hp => exact (Reps.one (show Kd.M (Kd.int .i64) _ _ _ (wrap64 (t180 + 1)) [.int .i64 (wrap64 (t180 + 1))] from rfl) (Reps.one (show Kd.M (Kd.int .i64) _ _ _ t180 [.int .i64 t180] from rfl) (Reps.one (show Kd.M (Kd.int .i64) _ _ _ (wrap64 (t180 - 1)) [.int .i64 (wrap64 (t180 - 1))] from rfl) (Reps.one (show Kd.M (Kd.int .i64) _ _ _ (wrap64 (t180 - 15)) [.int .i64 (wrap64 (t180 - 15))] from rfl) (Reps.one (show Kd.M (Kd.int .i64) _ _ _ (wrap64 (t180 - 16)) [.int .i64 (wrap64 (t180 - 16))] from rfl) (Reps.one (show Kd.M (Kd.int .i64) _ _ _ (wrap64 (t180 + 20)) [.int .i64 (wrap64 (t180 + 20))] from rfl) (Reps.one (show Kd.M (Kd.int .i64) _ _ _ t186 [.int .i64 t186] from rfl) (Reps.one (show Kd.M (Kd.int .i64) _ _ _ (-1) [.int .i64 (-1)] from rfl) (Reps.one (show Kd.M (Kd.int .i64) _ _ _ 1000000001 [.int .i64 1000000001] from rfl) (Reps.none _ _)))))))))))
 intro v189 w17 ho18 hb hg_ hnew_
 clear hg_ hnew_
 (first | rw [← Ny188.out] at ho18 | (simp only [Int.reduceToNat] at ho18; rw [← Ny188.out] at ho18))
 have n0_ := Aside0.mk (Kd.R_elder' (R_a HO183.out) (Kd.R_base ho18) hb)
 have HO190 := Aside0.mk (Kd.R_lower (Kd.R_new' ho18 (Kd.R_lt (R_a HO183.out))) (below_size (by repeat (first | (with_reducible first | exact HB.out | apply below_alloc | apply pw_below_drewN | apply below_drew1 | refine below_set ?_ (IsS70.ge HI179.out) | refine below_set ?_ GE176.out | refine below_set ?_ GE185.out) | exact HB.out))))
 replace BK176 := Aside0.mk (blk_below (g := gb176) blk_c hb)
 have n3_ := Aside0.mk (IsS70.below (IsS70.a) hb)
 replace BK185 := Aside0.mk (blk_below (g := gb185) blk_c hb)
 replace HB := Aside0.mk (below_step (by repeat (first | (with_reducible first | exact HB.out | apply below_alloc | apply pw_below_drewN | apply below_drew1 | refine below_set ?_ (IsS70.ge HI179.out) | refine below_set ?_ GE176.out | refine below_set ?_ GE185.out) | exact HB.out)) hb)
 replace HO183 := n0_
 replace HI179 := n3_
 clear n0_ n3_
 clear hb ho18
 obtain ⟨Ao19, co19, eo19⟩ := Kd.R_slice HO190.out
 (first | subst eo19 | (injection eo19 with f1_ f2_ f3_; have f4_ := f1_.symm; have f5_ := f3_.symm; clear f1_ f2_ f3_; subst f4_; subst f5_))
 refine hK.out _ _ ⟨(blk_cell BK185.out 0).trans rfl, (blk_cell BK185.out 1).trans rfl⟩ (fun hHeld => ?_)
 clear hK K
 refine norm_ (a' := ?_) ?_ ?_
 rotate_left
 ·
  show Act.put _ (some 31) _ = _; simp only [Act.put, List.setIfInBounds_toArray, List.set_cons_zero, List.set_cons_succ, i64_w, i32_w]; rfl
 refine one_ (i := 22) (N := some 32) #[Y',Y',Y',Y',Y',Y',Y',Y',Y',Y',Y',Y',Y',Y',Y',Y',Y',Y',Y',Y',Y',Y',Y',Z',Z'] rfl rfl (one_of HT_.out (by kernel_rfl)) (by decide) (fun K hK => ?_)
 refine goes_ Try.func38 (by kernel_rfl) rfl #[.pointer (some ⟨g179, 0, none⟩), .slice Ao19 y188.length co19] (by rfl) rfl rfl args_a ?_
 with_reducible refine (spec_l1Pick.calls g179 t177 t187 _ _ y188 t191 t192 w _ ?side1 ?side2 ?side3 ?side4 ?side5 A5.out).mono ?_
 (case side1 => exact IsS70.a)
 (case side2 => repeat (first | (with_reducible first | exact HB.out | apply below_alloc | apply pw_below_drewN | apply below_drew1 | refine below_set ?_ (IsS70.ge HI179.out) | refine below_set ?_ GE176.out | refine below_set ?_ GE185.out) | exact HB.out))
 (case side3 => repeat (first | exact (Kd.R_reads' HO190.out).2.2 | (with_reducible refine Kd.C_alloc ?_ _) | (with_reducible refine Kd.C_drewN ?_ _) | (with_reducible refine Kd.C_drew ?_)))
 (case side4 => exact (Kd.R_reads' HO190.out).2.1)
 (case side5 => exact far_slice (IsS70.own_ne HI179.out HO190.out (by decide)))
 rintro e w20 ⟨rfl, hi, hb, hk⟩
 refine ⟨_, rfl, ?_⟩
 have n0_ := Aside0.mk (KeepBut.blk hk (g' := gb176) blk_c NB176_179.out (by simp))
 replace HO183 := Aside0.mk (Kd.R_mono (Kd.R_keep (IsS70.apart (show IsS70 w _ g179 t177 t187 from IsS70.a) (R_a HO183.out) (by decide)) hk (fun _ h => h.2)) (fun _ h => h.1))
 replace BK185 := Aside0.mk (KeepBut.blk hk (g' := gb185) blk_c NB185_179.out (by simp))
 replace HO190 := Aside0.mk (Kd.R_mono (Kd.R_keep (IsS70.apart (show IsS70 w _ g179 t177 t187 from IsS70.a) (R_a HO190.out) (by decide)) hk (fun _ h => h.2)) (fun _ h => h.1))
 replace HB := Aside0.mk (hb)
 replace HI179 := Aside0.mk (hi)
 replace BK176 := n0_
 clear n0_
 (try clear hb)
 (try clear hb2)
 (try clear hk)
 (try clear hi)
 refine hK.out _ _ ⟨(blk_cell BK185.out 0).trans rfl, (blk_cell BK185.out 1).trans rfl⟩ (fun hHeld => ?_)
 clear hK K
 refine norm_ (a' := ?_) ?_ ?_
 rotate_left
 ·
  show Act.put _ (some 32) _ = _; simp only [Act.put, List.setIfInBounds_toArray, List.set_cons_zero, List.set_cons_succ, i64_w, i32_w]; rfl
 refine one_ (i := 23) (N := none) #[Y',Y',Y',Y',Y',Y',Y',Y',Y',Y',Y',Y',Y',Y',Y',Y',Y',Y',Y',Y',Y',Y',Y',Y',Z'] rfl rfl (one_of HT_.out (by kernel_rfl)) (by decide) (fun K hK => ?_)
 have hs21 : w20.cell? ⟨gb176, 0, none⟩ = some (.int .i64 0) := (blk_cell BK176.out 0).trans rfl
 have hfs21 := blk_frozen BK176.out 0
 have hns21_1 := NB185_176.out
 have hms21_1 := NB176_185.out
 have hs22 : w20.cell? ⟨gb176, 1, none⟩ = some (.slice none 0 0) := (blk_cell BK176.out 1).trans rfl
 have hfs22 := blk_frozen BK176.out 1
 have hns22_1 := NB185_176.out
 have hms22_1 := NB176_185.out
 refine skip_ (w1 := ?_) (by rfl) rfl ?_ ?_
 rotate_left
 ·
  go_simp
  rfl
 refine hK.out _ _ ⟨((cell_far (p := ⟨gb176, _, none⟩) NB185_176.out _).trans (((cell_far (p := ⟨gb176, _, none⟩) NB185_176.out _).trans (hHeld.1)))), ((cell_far (p := ⟨gb176, _, none⟩) NB185_176.out _).trans (((cell_far (p := ⟨gb176, _, none⟩) NB185_176.out _).trans (hHeld.2))))⟩ (fun hHeld => ?_)
 clear hK K
 refine pure_ (i := 24) (N := some 3) (v := ?_) (a' := ?_) #[Y',Y',Y',Y',Y',Y',Y',Y',Y',Y',Y',Y',Y',Y',Y',Y',Y',Y',Y',Y',Y',Y',Y',Y',Y'] rfl rfl (any_of HT_.out (by kernel_rfl)) (fun _ _ _ h => h) (Or.inl ⟨by rfl, ?_⟩) ?_ ?_
 rotate_left
 ·
  intro w'
  go_simp
  with_reducible rfl
 rotate_left
 ·
  simp only [Act.put, List.setIfInBounds_toArray, List.set_cons_zero, List.set_cons_succ, i64_w, i32_w]; rfl
 refine done_ (done_of HT_.out (by kernel_rfl)) ?_
 try go_wp2
 refine bodyPost_ret (results_ct rfl _ _ gb176 26 #[.int .i64 t180, .slice Ao13 t181.length co13] (0, 0) _ rfl blk_a Try.underlying26 rfl (by kernel_rfl)) rfl ?_
 exact ⟨_, eq_a, by (with_reducible repeat (first | apply Kd.R_alloc | apply Kd.R_drewN | apply Kd.R_drew)); exact Kd.R_mono (Kd.R_far (p := ⟨gb176, 1, none⟩) (Kd.R_far (p := ⟨gb176, 0, none⟩) (Kd.R_types HO183.out BK176.out (by decide)) (fun _ hk => hk.2) (.int .i64 t180)) (fun _ hk => hk.2) (.slice Ao13 t181.length co13)) (fun _ hk => trivial), by repeat (first | (with_reducible first | exact HB.out | apply below_alloc | apply pw_below_drewN | apply below_drew1 | refine below_set ?_ (IsS70.ge HI179.out) | refine below_set ?_ GE176.out | refine below_set ?_ GE185.out) | exact HB.out)⟩

/-! ### impl_in: function 40 -/
def impl_in.f (a0 : Int) (a1 : Int) (a2 : Int) : Option (Bool) := if a0 ≥ a1 then (some (decide (a0 ≤ a2))) else (some false)
set_option maxHeartbeats 8000000 in
set_option maxRecDepth 100000 in
theorem impl_in.calls (a0 : Int) (a1 : Int) (a2 : Int) (r : Bool) (w : World) (h : impl_in.f a0 a1 a2 = some r) :
  Calls Try.prog 40 #[.int .i64 a0, .int .i64 a1, .int .i64 a2] w fun e w' => e = .returned (.bool r) ∧ Drawn0 w w' := by
 have H : (if a0 ≥ a1 then (some (decide (a0 ≤ a2))) else (some false)) = some r := h
 clear h
 by_cases c4 : a0 ≥ a1
 ·
  rw [if_pos c4] at H; have c4b0 : decide (a1 ≤ a0) = true := decide_eq_true c4; clear c4; obtain rfl := Option.some.inj H
  go_enter Try.func40, Try.ntmps40
  go_wp2
  go_ret
  exact ⟨eq_b, by repeat (first | exact Drawn0.refl _ | apply Drawn0.step)⟩
 ·
  rw [if_neg c4] at H; have c4b0 : decide (a1 ≤ a0) = false := decide_eq_false c4; clear c4; obtain rfl := Option.some.inj H
  go_enter Try.func40, Try.ntmps40
  go_wp2
  go_ret
  exact ⟨eq_b, by repeat (first | exact Drawn0.refl _ | apply Drawn0.step)⟩

end Go.Proofs.Ytbnibakamdhpdaa.MFnWindows
