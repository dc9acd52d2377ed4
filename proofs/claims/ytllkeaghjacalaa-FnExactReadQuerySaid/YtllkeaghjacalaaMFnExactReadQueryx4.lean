-- Laid by a program of this session (the kit's print, turned where it falls short; the texts of functions that it does not take are proved by hand).
import Derived.Test.YtllkeaghjacalaaMFnExactReadQueryx0
import Derived.Test.YtllkeaghjacalaaMFnExactReadQueryx2
import Derived.Test.YtllkeaghjacalaaMFnExactReadQueryx3
namespace Go.Proofs.Ytllkeaghjacalaa.MFnExactReadQuery
open Go.RowKit Go.Proofs.YtllkeaghjacalaaW.PrintWords Go.Proofs.YtllkeaghjacalaaW.PrintLast Go.Proofs.YtllkeaghjacalaaW.PrintMore
attribute [local go_sem] max2_int min2_int max_two min_two max_three min_three max_four min_four   -- for this text's walks alone
set_option linter.unusedVariables false
set_option linter.unusedSimpArgs false

attribute [local go_sem] isSome_setCell
/-! ### spec_l10Ask: function 59 -/
def spec_l10Ask.j0 : Nat → List Int → Bool → List ByteArray → Int → Option (Int × List ByteArray × Int × Bool)
 | 0, _, _, _, _ => none
 | k + 1, x0, x21, x161000, x161001 => if x21 = true then (some (0, ([] : List ByteArray), 0, false)) else ((spec_l1Read.f k x0 0 2).bind fun t161 => ((spec_l1Read.f k x0 x161001 2).bind fun t162 => ((spec_l10Query.f k t161 x161000 t162).bind fun t164 => (some (t161, x161000, t162, ((strOfNums t164).toList == (strOfNums x0).toList))))))
def spec_l10Ask.f (k : Nat) (l0 : List Int) : Option (Int × List ByteArray × Int × Bool) := (spec_l10Read.f k l0 12).bind fun bt155 => (if bt155.2.2 = 0 then (spec_l10Ask.j0 k l0 ((wrap64 (bt155.2.1 + 4)) != (l0.length : Int)) bt155.1 bt155.2.1) else (spec_l10Ask.j0 k l0 true bt155.1 bt155.2.1))
theorem spec_l10Ask.mono_l : ∀ k, (∀ y0 y1 y2 y3, LeO (spec_l10Ask.j0 k y0 y1 y2 y3) (spec_l10Ask.j0 (k + 1) y0 y1 y2 y3))
 | 0 => fun _ _ _ _ r h => by simp [spec_l10Ask.j0] at h
 | k + 1 => by
  have ih0 := spec_l10Ask.mono_l k
  ·
   intro y0 y1 y2 y3
   unfold spec_l10Ask.j0
   repeat' first
   | (with_reducible exact ih0 _ _ _ _)
   | (with_reducible exact spec_l10Query.mono _ _ _ _)
   | (with_reducible exact spec_l10Read.mono _ _ _)
   | (with_reducible exact spec_l1Read.mono _ _ _ _)
   | (with_reducible exact LeO.refl _)
   | (with_reducible exact LeO.none _)
   | (with_reducible refine LeO.ite ?_ ?_)
   | (with_reducible refine LeO.bind ?_ (fun _ => ?_))
   | exact ih0 _ _ _ _
   | exact spec_l10Query.mono _ _ _ _
   | exact spec_l10Read.mono _ _ _
   | exact spec_l1Read.mono _ _ _ _
   | exact LeO.none _
   | refine LeO.ite ?_ ?_
   | refine LeO.bind ?_ (fun _ => ?_)
theorem spec_l10Ask.mono : ∀ a0 k, LeO (spec_l10Ask.f k a0) (spec_l10Ask.f (k + 1) a0) := by
 intro a0 k
 have ih0 := spec_l10Ask.mono_l k
 unfold spec_l10Ask.f
 repeat' first
   | (with_reducible exact ih0 _ _ _ _)
   | (with_reducible exact spec_l10Query.mono _ _ _ _)
   | (with_reducible exact spec_l10Read.mono _ _ _)
   | (with_reducible exact spec_l1Read.mono _ _ _ _)
   | (with_reducible exact LeO.refl _)
   | (with_reducible exact LeO.none _)
   | (with_reducible refine LeO.ite ?_ ?_)
   | (with_reducible refine LeO.bind ?_ (fun _ => ?_))
   | exact ih0 _ _ _ _
   | exact spec_l10Query.mono _ _ _ _
   | exact spec_l10Read.mono _ _ _
   | exact spec_l1Read.mono _ _ _ _
   | exact LeO.none _
   | refine LeO.ite ?_ ?_
   | refine LeO.bind ?_ (fun _ => ?_)
def spec_l10Ask.T4 : Bool × List (List Nat × List Nat) := (true, [([], []), ([0], [0]), ([], []), ([2], [2]), ([], []), ([], []), ([5], [5]), ([4, 6, 1], [4, 6]), ([1, 3, 7], [1, 3, 7]), ([], []), ([9, 8, 7, 0, 1, 2, 3, 4, 5, 6, 7, 8, 9], [8, 9])])
def spec_l10Ask.B4 : List Nat := [0, 1, 0, 4, 0, 0, 32, 115, 255, 0, 1023]
theorem spec_l10Ask.tab4 : rtab .any (opsOf Try.f59 4) = spec_l10Ask.T4 := by kernel_rfl
theorem spec_l10Ask.bits4 : waitsOk spec_l10Ask.T4.2 spec_l10Ask.B4 = true := by kernel_rfl
def spec_l10Ask.T5 : Bool × List (List Nat × List Nat) := (true, [([], []), ([], []), ([1], [1]), ([], []), ([3], [3]), ([2, 4], [2, 4]), ([0, 1, 0], [0]), ([5, 6, 0, 1, 2, 3, 4, 5, 6], [5])])
def spec_l10Ask.B5 : List Nat := [0, 0, 2, 0, 8, 30, 3, 127]
theorem spec_l10Ask.tab5 : rtab .any (opsOf Try.f59 5) = spec_l10Ask.T5 := by kernel_rfl
theorem spec_l10Ask.bits5 : waitsOk spec_l10Ask.T5.2 spec_l10Ask.B5 = true := by kernel_rfl
set_option maxHeartbeats 8000000 in
set_option maxRecDepth 100000 in
theorem spec_l10Ask.calls (k : Nat) (A0 : Option Addr) (c0 : Nat) (l0 : List Int) (r1 : Int) (r2 : List ByteArray) (r3 : Int) (r4 : Bool) (w : World) (hr0 : Kd.C (Kd.int .u8) w A0 l0.length l0) (hc0 : l0.length ≤ c0) (h : spec_l10Ask.f k l0 = some (r1, r2, r3, r4)) :
  Calls Try.prog 59 #[.slice A0 l0.length c0] w fun e w' => ∃ v1_ : Value, e = .returned (.tuple #[.agg #[.int .i64 r1, v1_, .int .i64 r3], .bool r4]) ∧ Kd.R Kd.string 9 w' w.heap.size (fun _ => True) v1_ r2 ∧ Below w.heap.size w w' := by
 have hu52 := Try.underlying52
 have hu34 := Try.underlying34
 have HR0 := Aside0.mk hr0
 have HC0 := Aside0.mk hc0
 clear hr0 hc0
 have HB := Aside0.mk (Below.refl w.heap.size w)
 have H : ((spec_l10Read.f k l0 12).bind fun bt155 => (if bt155.2.2 = 0 then (spec_l10Ask.j0 k l0 ((wrap64 (bt155.2.1 + 4)) != (l0.length : Int)) bt155.1 bt155.2.1) else (spec_l10Ask.j0 k l0 true bt155.1 bt155.2.1))) = some (r1, r2, r3, r4) := h
 clear h
 replace H := Option.bind_eq_some_iff.mp H
 obtain ⟨⟨t155, t158, t159⟩, A20, H⟩ := H
 replace H : (if t159 = 0 then (spec_l10Ask.j0 k l0 ((wrap64 (t158 + 4)) != (l0.length : Int)) t155 t158) else (spec_l10Ask.j0 k l0 true t155 t158)) = some (r1, r2, r3, r4) := H
 have A2 := Aside0.mk A20
 clear A20
 have HC3 := Aside0.mk H
 clear H
 go_enter Try.func59, Try.ntmps59
 go_upto_region 2 with (first | ((with_reducible refine gate_dst (N := 2) rfl ?_); (try (refine gate_guard (by rfl) ?_; dsimp only)); refine box_event ?hg (N := 2) ?hd (cs := #[.int .i64 0, .slice none 0 0, .int .i64 0]) (t := 52) ?hr ?_; (case hd => rfl); (case hg => rfl); (case hr => first | (go_simp; done) | (go_simp; rfl)); intro gb154 hg w4 hbox hb; have n0_ := Aside0.mk (below_step below_a hb); have BK154 := Aside0.mk (hbox); have GW154 := Aside0.mk (bsz_ (w := w) hg); have GE154 := Aside0.mk (bsz_ (w := w) hg); replace HB := n0_; clear n0_; clear hb hbox hg) | ((with_reducible refine gate_callee (f := 46) rfl ?_); refine goesL_ (some 9) rfl rfl Try.func46 (by kernel_rfl) rfl #[.slice A0 l0.length c0, .int .i64 12] rfl args_a ?_; (with_reducible refine (spec_l10Read.calls k _ _ l0 12 t155 t158 t159 _ ?side1 ?side2 A2.out).mono ?_); (case side1 => repeat (first | exact (Kd.C_below HR0.out HB.out) | (with_reducible refine Kd.C_alloc ?_ _) | (with_reducible refine Kd.C_drewN ?_ _) | (with_reducible refine Kd.C_drew ?_))); (case side2 => exact HC0.out); rintro e w5 ⟨v156, rfl, ho0, hb⟩; refine ⟨_, rfl, ?_⟩; have HO157 := Aside0.mk (Kd.R_lower ho0 (below_size below_a)); replace BK154 := Aside0.mk (blk_below (g := gb154) blk_c hb); replace HB := Aside0.mk (below_step below_a hb); (try clear hb); (try clear hb2); (try clear hk); (try clear hi); (try clear ho0)) | ((with_reducible refine gate_dst (N := 4) rfl ?_); (try (refine gate_guard (by rfl) ?_; dsimp only)); refine box_event ?hg (N := 4) ?hd (cs := #[.slice none 0 0, .int .i64 0]) (t := 34) ?hr ?_; (case hd => rfl); (case hg => rfl); (case hr => first | (go_simp; done) | (go_simp; rfl)); intro gb160 hg w6 hbox hb; replace HO157 := Aside0.mk (Kd.R_below (R_a HO157.out) hb); have n1_ := Aside0.mk (blk_below (g := gb154) blk_c hb); have n2_ := Aside0.mk (below_step below_a hb); have BK160 := Aside0.mk (hbox); have GW160 := Aside0.mk (bsz_ (w := w) hg); have GE160 := Aside0.mk (bsz_ (w := w) hg); have NB154_160 := Aside0.mk (bne_ (g := gb154) hg); have NB160_154 := Aside0.mk (bne_ (g := gb154) hg).symm; replace BK154 := n1_; replace HB := n2_; clear n1_ n2_; clear hb hbox hg; obtain ⟨Ao7, co7, eo7⟩ := Kd.R_slice HO157.out; subst eo7; have hnb8 := NB160_154.out; have hnc8 := NB154_160.out; obtain ⟨hcz9_0, hcz9_1, hfz9_0, hfz9_1⟩ := bc2_ BK160.out))
 (try simp only [Act.put, List.setIfInBounds_toArray, List.set_cons_zero, List.set_cons_succ])
 go_cut [21] (fun v21 wc => ∃ (kq : Nat) (x21_2 : Bool), v21 = .bool x21_2 ∧ Aside0 (spec_l10Ask.j0 kq l0 x21_2 t155 t158 = some (r1, r2, r3, r4)) ∧ Aside0 (kq ≤ k) ∧ Aside0 (Kd.R Kd.string 9 wc w.heap.size (fun _ => True) (.slice Ao7 t155.length co7) t155) ∧ Aside0 (wc.heap[gb154]? = some (.cells #[.int .i64 0, (.slice none 0 0), .int .i64 0] 52 (0, 0))) ∧ Aside0 (wc.heap[gb160]? = some (.cells #[(.slice Ao7 t155.length co7), .int .i64 t158] 34 (0, 0))) ∧ Aside0 (Below w.heap.size w wc))
 case first =>
  have H := HC3.out; clear HC3
  by_cases c10 : t159 = 0
  ·
   rw [if_pos c10] at H; have c10b0 : (t159 == 0) = true := beq_iff_eq.mpr c10; have c10b1 : (t159 != 0) = false := bne_eq_false_iff_eq.mpr c10; clear c10; (first | rw [c10b0] | (simp only [i64_w, i32_w]; rw [c10b0]) | skip); have H' := Aside0.mk H; clear H; have hnb11 := NB160_154.out; have hnc11 := NB154_160.out; obtain ⟨hcz12_0, hcz12_1, hfz12_0, hfz12_1⟩ := bc2_ BK160.out
   go_wp2
   go_meet
   case rel => exact ⟨_, (((wrap64 (t158 + 4)) != (l0.length : Int))), eq_b, H', ⟨by first | omega | exact Nat.le_refl _⟩, ⟨by (with_reducible repeat (first | apply Kd.R_alloc | apply Kd.R_drewN | apply Kd.R_drew)); exact Kd.R_mono (Kd.R_far (p := ⟨gb160, 1, none⟩) (Kd.R_far (p := ⟨gb160, 0, none⟩) (Kd.R_types HO157.out BK160.out (by decide)) (fun _ hk => hk.2) (.slice Ao7 t155.length co7)) (fun _ hk => hk.2) (.int .i64 t158)) (fun _ hk => trivial)⟩, ⟨blk_a⟩, ⟨blk_a⟩, ⟨below_a⟩⟩
  ·
   rw [if_neg c10] at H; have c10b0 : (t159 == 0) = false := beq_eq_false_iff_ne.mpr c10; have c10b1 : (t159 != 0) = true := bne_iff_ne.mpr c10; (first | rw [c10b0] | (simp only [i64_w, i32_w]; rw [c10b0]) | skip); have H' := Aside0.mk H; clear H
   go_wp2
   go_meet
   case rel => exact ⟨_, (true), eq_b, H', ⟨by first | omega | exact Nat.le_refl _⟩, ⟨by (with_reducible repeat (first | apply Kd.R_alloc | apply Kd.R_drewN | apply Kd.R_drew)); exact Kd.R_mono (Kd.R_far (p := ⟨gb160, 1, none⟩) (Kd.R_far (p := ⟨gb160, 0, none⟩) (Kd.R_types HO157.out BK160.out (by decide)) (fun _ hk => hk.2) (.slice Ao7 t155.length co7)) (fun _ hk => hk.2) (.int .i64 t158)) (fun _ hk => trivial)⟩, ⟨blk_a⟩, ⟨blk_a⟩, ⟨below_a⟩⟩
 case rest =>
  clear HC3
  try clear c1
  try clear p2
  try clear c4
  try clear c5
  try clear p6
  try clear c8
  try clear c10 c10b0 c10b1
  try clear c11
  try clear hcz12_0 hcz12_1
  try clear hcz9_0 hcz9_1
  try clear hfz12_0 hfz12_1
  try clear hfz9_0 hfz9_1
  obtain ⟨kq, x21_2, rfl, HA, HJ2, HO_161000, BK154, BK160, HB⟩ := hcut
  cases kq with
  | zero => exact absurd HA.out (by simp [spec_l10Ask.j0])
  | succ kj2 =>
   have H := HA.out; clear HA; simp only [spec_l10Ask.j0] at H
   by_cases c13 : x21_2 = true
   ·
    subst c13; have H1 : (some (0, ([] : List ByteArray), 0, false)) = some (r1, r2, r3, r4) := by rw [if_pos rfl] at H; exact H
    clear H; have H := H1; clear H1; simp only [Option.some.injEq, Prod.mk.injEq] at H; obtain ⟨rfl, rfl, rfl, rfl⟩ := H; have hnb14 := NB154_160.out; have hnc14 := NB160_154.out; obtain ⟨hcz15_0, hcz15_1, hcz15_2, hfz15_0, hfz15_1, hfz15_2⟩ := bc3_ BK154.out
    go_wp2
    refine bodyPost_ret (results_ct rfl _ _ gb154 52 #[.int .i64 0, .slice none 0 0, .int .i64 0] (0, 0) _ rfl blk_a Try.underlying52 rfl (by kernel_rfl)) rfl ?_; exact ⟨_, eq_a, by first | exact Kd.R_nil _ _ _ _ _ | exact Kd.N_nil _ _ _ _ _ | exact Kd.V_nil _ _ _ _ _ | exact Kd.Q_nil _ _ _ _ _ | exact Kd.S_nil _ _ _ _ _, below_a⟩
   ·
    replace c13 := Bool.eq_false_iff.mpr c13; subst c13; have H1 : ((spec_l1Read.f kj2 l0 0 2).bind fun t161 => ((spec_l1Read.f kj2 l0 t158 2).bind fun t162 => ((spec_l10Query.f kj2 t161 t155 t162).bind fun t164 => (some (t161, t155, t162, ((strOfNums t164).toList == (strOfNums l0).toList)))))) = some (r1, r2, r3, r4) := by rw [if_neg (show ¬ (false = true) by decide)] at H; exact H
    clear H; have H := H1; clear H1; replace H := Option.bind_eq_some_iff.mp H; obtain ⟨t161, A160, H⟩ := H; replace H : ((spec_l1Read.f kj2 l0 t158 2).bind fun t162 => ((spec_l10Query.f kj2 t161 t155 t162).bind fun t164 => (some (t161, t155, t162, ((strOfNums t164).toList == (strOfNums l0).toList))))) = some (r1, r2, r3, r4) := H; have A16 := Aside0.mk A160; clear A160; replace H := Option.bind_eq_some_iff.mp H; obtain ⟨t162, A170, H⟩ := H; replace H : ((spec_l10Query.f kj2 t161 t155 t162).bind fun t164 => (some (t161, t155, t162, ((strOfNums t164).toList == (strOfNums l0).toList)))) = some (r1, r2, r3, r4) := H; have A17 := Aside0.mk A170; clear A170; replace H := Option.bind_eq_some_iff.mp H; obtain ⟨t164, A180, H⟩ := H; replace H : (some (t161, t155, t162, ((strOfNums t164).toList == (strOfNums l0).toList))) = some (r1, r2, r3, r4) := H; have A18 := Aside0.mk A180; clear A180; simp only [Option.some.injEq, Prod.mk.injEq] at H; obtain ⟨rfl, rfl, rfl, rfl⟩ := H
    try go_wp2
    replace HO_161000 := Aside0.mk (Kd.R_drew HO_161000.out); replace BK154 := Aside0.mk (blk_drew BK154.out); replace BK160 := Aside0.mk (blk_drew BK160.out); replace HB := Aside0.mk (below_drew1 HB.out); refine start_ (n := 11) (S := fun w' => w'.cell? ⟨gb160, 0, none⟩ = some (.slice Ao7 t155.length co7) ∧ w'.cell? ⟨gb160, 1, none⟩ = some (.int .i64 t158)) (ds := []) #[Z',Z',Z',Z',Z',Z',Z',Z',Z',Z',Z'] (by kernel_rfl) rfl rfl ⟨(blk_cell BK160.out 0).trans rfl, (blk_cell BK160.out 1).trans rfl⟩ (fun hHeld => ?_); refine with_tabW spec_l10Ask.tab4 spec_l10Ask.bits4 (fun HT_ HW_ => ?_); generalize wc.drew = w19 at HO_161000 BK154 BK160 HB hHeld ⊢; refine pure_ (i := 0) (N := some 23) (v := ?_) (a' := ?_) #[Y',Z',Z',Z',Z',Z',Z',Z',Z',Z',Z'] rfl rfl (any_of HT_.out (by kernel_rfl)) (fun _ _ _ h => h) (Or.inl ⟨by rfl, ?_⟩) ?_ ?_; rotate_left
    ·
     intro w'
     go_simp
     with_reducible rfl
    rotate_left
    ·
     simp only [Act.put, List.setIfInBounds_toArray, List.set_cons_zero, List.set_cons_succ, i64_w, i32_w]; rfl
    refine pure_ (i := 2) (N := some 25) (v := ?_) (a' := ?_) #[Y',Z',Y',Z',Z',Z',Z',Z',Z',Z',Z'] rfl rfl (any_of HT_.out (by kernel_rfl)) (fun _ _ _ h => h) (Or.inl ⟨by rfl, ?_⟩) ?_ ?_; rotate_left
    ·
     intro w'
     go_simp
     with_reducible rfl
    rotate_left
    ·
     simp only [Act.put, List.setIfInBounds_toArray, List.set_cons_zero, List.set_cons_succ, i64_w, i32_w]; rfl
    refine pure_ (i := 4) (N := some 27) (v := ?_) (a' := ?_) #[Y',Z',Y',Z',Y',Z',Z',Z',Z',Z',Z'] rfl rfl (any_of HT_.out (by kernel_rfl)) (fun _ _ _ h => h) (Or.inl ⟨by rfl, ?_⟩) ?_ ?_; rotate_left
    ·
     intro w'
     go_simp
     with_reducible rfl
    rotate_left
    ·
     simp only [Act.put, List.setIfInBounds_toArray, List.set_cons_zero, List.set_cons_succ, i64_w, i32_w]; rfl
    refine pure_ (i := 5) (N := some 28) (v := ?_) (a' := ?_) #[Y',Z',Y',Z',Y',Y',Z',Z',Z',Z',Z'] rfl rfl (any_of HT_.out (by kernel_rfl)) (fun _ _ _ h => h) (Or.inl ⟨by rfl, ?_⟩) ?_ ?_; rotate_left
    ·
     intro w'
     go_simp
     with_reducible rfl
    rotate_left
    ·
     simp only [Act.put, List.setIfInBounds_toArray, List.set_cons_zero, List.set_cons_succ, i64_w, i32_w]; rfl
    refine take_ (i := 3) (N := some 26) (v := ?_) (a' := ?_) #[Y',Z',Y',Y',Y',Y',Z',Z',Z',Z',Z'] rfl rfl (take_ofW HT_.out HW_.out (by kernel_rfl)) (fun _ _ _ h => h) (Or.inl ⟨by rfl, ?_⟩) hHeld ?_ ?_; rotate_left
    ·
     rintro w' ⟨s0, s1⟩
     go_simp
     with_reducible rfl
    rotate_left
    ·
     simp only [Act.put, List.setIfInBounds_toArray, List.set_cons_zero, List.set_cons_succ, i64_w, i32_w]; rfl
    refine take_ (i := 6) (N := some 29) (v := ?_) (a' := ?_) #[Y',Z',Y',Y',Y',Y',Y',Z',Z',Z',Z'] rfl rfl (take_ofW HT_.out HW_.out (by kernel_rfl)) (fun _ _ _ h => h) (Or.inl ⟨by rfl, ?_⟩) hHeld ?_ ?_; rotate_left
    ·
     rintro w' ⟨s0, s1⟩
     go_simp
     with_reducible rfl
    rotate_left
    ·
     simp only [Act.put, List.setIfInBounds_toArray, List.set_cons_zero, List.set_cons_succ, i64_w, i32_w]; rfl
    refine join_ (σ := Nat) 1 #[Y',Y',Y',Y',Y',Y',Y',Y',Y',Y',Z'] (fun s_ => [(24, .int .i64 t161), (30, .int .i64 t162), (6, .pointer (some ⟨s_, 0, none⟩)), (31, .agg #[.int .i64 t161, .slice Ao7 t155.length co7, .int .i64 t162])]) (fun s_ w' => (w'.cell? ⟨gb160, 0, none⟩ = some (.slice Ao7 t155.length co7) ∧ w'.cell? ⟨gb160, 1, none⟩ = some (.int .i64 t158)) ∧ (Kd.R Kd.string 9 w' w.heap.size (fun _ => True) (.slice Ao7 t155.length co7) t155) ∧ (w'.heap[gb154]? = some (.cells #[.int .i64 0, .slice none 0 0, .int .i64 0] 52 (0, 0))) ∧ (w'.heap[gb160]? = some (.cells #[.slice Ao7 t155.length co7, .int .i64 t158] 34 (0, 0))) ∧ (w'.heap[s_]? = some (.cells #[.int .i64 0, .slice none 0 0, .int .i64 0] 52 (0, 0))) ∧ (w.heap.size ≤ s_) ∧ (w.heap.size ≤ s_) ∧ (gb154 ≠ s_) ∧ (s_ ≠ gb154) ∧ (gb160 ≠ s_) ∧ (s_ ≠ gb160) ∧ (Below w.heap.size w w')) ?_ ?_; rotate_left
    ·
     intro hCont; refine two_ (i := 1) (j := 9) (Ni := some 24) (Nj := some 6) #[Y',Y',Y',Y',Y',Y',Y',Z',Z',Z',Z'] #[Y',Z',Y',Y',Y',Y',Y',Z',Z',Y',Z'] rfl rfl rfl rfl (two_of HT_.out (by kernel_rfl)) (by decide) (by decide) (fun K hK => ?_) (fun K hK => ?_)
     ·
      refine goes_ Try.func68 (by kernel_rfl) rfl #[.slice A0 l0.length c0, .int .i64 0, .int .i64 2] (by rfl) rfl rfl args_a ?_
      with_reducible refine (spec_l1Read.calls kj2 _ _ l0 0 2 t161 _ ?side1 ?side2 A16.out).mono ?_
      (case side1 => repeat (first | exact (Kd.C_below HR0.out HB.out) | (with_reducible refine Kd.C_alloc ?_ _) | (with_reducible refine Kd.C_drewN ?_ _) | (with_reducible refine Kd.C_drew ?_))); (case side2 => exact HC0.out); rintro e w' ⟨rfl, ⟨nd, rfl⟩⟩; refine ⟨_, rfl, ?_⟩; refine hK.out _ _ ⟨(blk_cell BK160.out 0).trans rfl, (blk_cell BK160.out 1).trans rfl⟩ (fun hHeld => ?_); clear hK K; refine norm_ (a' := ?_) ?_ ?_; rotate_left
      ·
       show Act.put _ (some 24) _ = _; simp only [Act.put, List.setIfInBounds_toArray, List.set_cons_zero, List.set_cons_succ, i64_w, i32_w]; rfl
      refine two_ (i := 7) (j := 9) (Ni := some 30) (Nj := some 6) #[Y',Y',Y',Y',Y',Y',Y',Y',Z',Z',Z'] #[Y',Y',Y',Y',Y',Y',Y',Z',Z',Y',Z'] rfl rfl rfl rfl (two_of HT_.out (by kernel_rfl)) (by decide) (by decide) (fun K hK => ?_) (fun K hK => ?_)
      ·
       refine goes_ Try.func68 (by kernel_rfl) rfl #[.slice A0 l0.length c0, .int .i64 t158, .int .i64 2] (by rfl) rfl rfl args_a ?_
       with_reducible refine (spec_l1Read.calls kj2 _ _ l0 t158 2 t162 _ ?side1 ?side2 A17.out).mono ?_
       (case side1 => repeat (first | exact (Kd.C_below HR0.out below_a) | (with_reducible refine Kd.C_alloc ?_ _) | (with_reducible refine Kd.C_drewN ?_ _) | (with_reducible refine Kd.C_drew ?_))); (case side2 => exact HC0.out); rintro e w' ⟨rfl, ⟨nd, rfl⟩⟩; refine ⟨_, rfl, ?_⟩; refine hK.out _ _ ⟨(blk_cell BK160.out 0).trans rfl, (blk_cell BK160.out 1).trans rfl⟩ (fun hHeld => ?_); clear hK K; refine norm_ (a' := ?_) ?_ ?_; rotate_left
       ·
        show Act.put _ (some 30) _ = _; simp only [Act.put, List.setIfInBounds_toArray, List.set_cons_zero, List.set_cons_succ, i64_w, i32_w]; rfl
       refine pure_ (i := 8) (N := some 31) (v := ?_) (a' := ?_) #[Y',Y',Y',Y',Y',Y',Y',Y',Y',Z',Z'] rfl rfl (any_of HT_.out (by kernel_rfl)) (fun _ _ _ h => h) (Or.inl ⟨by rfl, ?_⟩) ?_ ?_; rotate_left
       ·
        intro w'
        go_simp
        with_reducible rfl
       rotate_left
       ·
        simp only [Act.put, List.setIfInBounds_toArray, List.set_cons_zero, List.set_cons_succ, i64_w, i32_w]; rfl
       refine one_ (i := 9) (N := some 6) #[Y',Y',Y',Y',Y',Y',Y',Y',Y',Y',Z'] rfl rfl (one_of HT_.out (by kernel_rfl)) (by decide) (fun K hK => ?_); refine box_step ?hg (N := 6) ?hd (cs := #[.int .i64 0, .slice none 0 0, .int .i64 0]) (t := 52) ?hr ?_; (case hd => rfl); (case hg => rfl); (case hr => first | (go_simp; done) | (go_simp; rfl)); intro gb163 hg w20 hbox hb; replace HO_161000 := Aside0.mk (Kd.R_below (R_a HO_161000.out) hb); have n1_ := Aside0.mk (blk_below (g := gb154) blk_c hb); have n2_ := Aside0.mk (blk_below (g := gb160) blk_c hb); have n3_ := Aside0.mk (below_step below_a hb); have BK163 := Aside0.mk (hbox); have GW163 := Aside0.mk (bsz_ (w := w) hg); have GE163 := Aside0.mk (bsz_ (w := w) hg); have NB154_163 := Aside0.mk (bne_ (g := gb154) hg); have NB163_154 := Aside0.mk (bne_ (g := gb154) hg).symm; have NB160_163 := Aside0.mk (bne_ (g := gb160) hg); have NB163_160 := Aside0.mk (bne_ (g := gb160) hg).symm; replace BK154 := n1_; replace BK160 := n2_; replace HB := n3_; clear n1_ n2_ n3_ hb hbox hg; refine hK.out _ _ ⟨(blk_cell BK160.out 0).trans rfl, (blk_cell BK160.out 1).trans rfl⟩ (fun hHeld => ?_); clear hK K; refine norm_ (a' := ?_) ?_ ?_; rotate_left
       ·
        show Act.put _ (some 6) _ = _; simp only [Act.put, List.setIfInBounds_toArray, List.set_cons_zero, List.set_cons_succ, i64_w, i32_w]; rfl
       exact norm_ (by simp only [putAll, Act.put, List.setIfInBounds_toArray, List.set_cons_zero, List.set_cons_succ]) (hCont (gb163) _ ⟨hHeld, (R_a HO_161000.out), blk_a, blk_a, blk_a, GW163.out, GE163.out, NB154_163.out, NB163_154.out, NB160_163.out, NB163_160.out, below_a⟩)
      ·
       refine box_step ?hg (N := 6) ?hd (cs := #[.int .i64 0, .slice none 0 0, .int .i64 0]) (t := 52) ?hr ?_; (case hd => rfl); (case hg => rfl); (case hr => first | (go_simp; done) | (go_simp; rfl)); intro gb163 hg w20 hbox hb; replace HO_161000 := Aside0.mk (Kd.R_below (R_a HO_161000.out) hb); have n1_ := Aside0.mk (blk_below (g := gb154) blk_c hb); have n2_ := Aside0.mk (blk_below (g := gb160) blk_c hb); have n3_ := Aside0.mk (below_step below_a hb); have BK163 := Aside0.mk (hbox); have GW163 := Aside0.mk (bsz_ (w := w) hg); have GE163 := Aside0.mk (bsz_ (w := w) hg); have NB154_163 := Aside0.mk (bne_ (g := gb154) hg); have NB163_154 := Aside0.mk (bne_ (g := gb154) hg).symm; have NB160_163 := Aside0.mk (bne_ (g := gb160) hg); have NB163_160 := Aside0.mk (bne_ (g := gb160) hg).symm; replace BK154 := n1_; replace BK160 := n2_; replace HB := n3_; clear n1_ n2_ n3_ hb hbox hg; refine hK.out _ _ ⟨(blk_cell BK160.out 0).trans rfl, (blk_cell BK160.out 1).trans rfl⟩ (fun hHeld => ?_); clear hK K; refine norm_ (a' := ?_) ?_ ?_; rotate_left
       ·
        show Act.put _ (some 6) _ = _; simp only [Act.put, List.setIfInBounds_toArray, List.set_cons_zero, List.set_cons_succ, i64_w, i32_w]; rfl
       refine one_ (i := 7) (N := some 30) #[Y',Y',Y',Y',Y',Y',Y',Y',Z',Y',Z'] rfl rfl (one_of HT_.out (by kernel_rfl)) (by decide) (fun K hK => ?_); refine goes_ Try.func68 (by kernel_rfl) rfl #[.slice A0 l0.length c0, .int .i64 t158, .int .i64 2] (by rfl) rfl rfl args_a ?_
       with_reducible refine (spec_l1Read.calls kj2 _ _ l0 t158 2 t162 _ ?side1 ?side2 A17.out).mono ?_
       (case side1 => repeat (first | exact (Kd.C_below HR0.out HB.out) | (with_reducible refine Kd.C_alloc ?_ _) | (with_reducible refine Kd.C_drewN ?_ _) | (with_reducible refine Kd.C_drew ?_))); (case side2 => exact HC0.out); rintro e w' ⟨rfl, ⟨nd, rfl⟩⟩; refine ⟨_, rfl, ?_⟩; refine hK.out _ _ ⟨(blk_cell BK160.out 0).trans rfl, (blk_cell BK160.out 1).trans rfl⟩ (fun hHeld => ?_); clear hK K; refine norm_ (a' := ?_) ?_ ?_; rotate_left
       ·
        show Act.put _ (some 30) _ = _; simp only [Act.put, List.setIfInBounds_toArray, List.set_cons_zero, List.set_cons_succ, i64_w, i32_w]; rfl
       refine pure_ (i := 8) (N := some 31) (v := ?_) (a' := ?_) #[Y',Y',Y',Y',Y',Y',Y',Y',Y',Y',Z'] rfl rfl (any_of HT_.out (by kernel_rfl)) (fun _ _ _ h => h) (Or.inl ⟨by rfl, ?_⟩) ?_ ?_; rotate_left
       ·
        intro w'
        go_simp
        with_reducible rfl
       rotate_left
       ·
        simp only [Act.put, List.setIfInBounds_toArray, List.set_cons_zero, List.set_cons_succ, i64_w, i32_w]; rfl
       exact norm_ (by simp only [putAll, Act.put, List.setIfInBounds_toArray, List.set_cons_zero, List.set_cons_succ]) (hCont (gb163) _ ⟨hHeld, (R_a HO_161000.out), blk_a, blk_a, blk_a, GW163.out, GE163.out, NB154_163.out, NB163_154.out, NB160_163.out, NB163_160.out, below_a⟩)
     ·
      refine box_step ?hg (N := 6) ?hd (cs := #[.int .i64 0, .slice none 0 0, .int .i64 0]) (t := 52) ?hr ?_; (case hd => rfl); (case hg => rfl); (case hr => first | (go_simp; done) | (go_simp; rfl)); intro gb163 hg w20 hbox hb; replace HO_161000 := Aside0.mk (Kd.R_below (R_a HO_161000.out) hb); have n1_ := Aside0.mk (blk_below (g := gb154) blk_c hb); have n2_ := Aside0.mk (blk_below (g := gb160) blk_c hb); have n3_ := Aside0.mk (below_step below_a hb); have BK163 := Aside0.mk (hbox); have GW163 := Aside0.mk (bsz_ (w := w) hg); have GE163 := Aside0.mk (bsz_ (w := w) hg); have NB154_163 := Aside0.mk (bne_ (g := gb154) hg); have NB163_154 := Aside0.mk (bne_ (g := gb154) hg).symm; have NB160_163 := Aside0.mk (bne_ (g := gb160) hg); have NB163_160 := Aside0.mk (bne_ (g := gb160) hg).symm; replace BK154 := n1_; replace BK160 := n2_; replace HB := n3_; clear n1_ n2_ n3_ hb hbox hg; refine hK.out _ _ ⟨(blk_cell BK160.out 0).trans rfl, (blk_cell BK160.out 1).trans rfl⟩ (fun hHeld => ?_); clear hK K; refine norm_ (a' := ?_) ?_ ?_; rotate_left
      ·
       show Act.put _ (some 6) _ = _; simp only [Act.put, List.setIfInBounds_toArray, List.set_cons_zero, List.set_cons_succ, i64_w, i32_w]; rfl
      refine one_ (i := 1) (N := some 24) #[Y',Y',Y',Y',Y',Y',Y',Z',Z',Y',Z'] rfl rfl (one_of HT_.out (by kernel_rfl)) (by decide) (fun K hK => ?_); refine goes_ Try.func68 (by kernel_rfl) rfl #[.slice A0 l0.length c0, .int .i64 0, .int .i64 2] (by rfl) rfl rfl args_a ?_
      with_reducible refine (spec_l1Read.calls kj2 _ _ l0 0 2 t161 _ ?side1 ?side2 A16.out).mono ?_
      (case side1 => repeat (first | exact (Kd.C_below HR0.out HB.out) | (with_reducible refine Kd.C_alloc ?_ _) | (with_reducible refine Kd.C_drewN ?_ _) | (with_reducible refine Kd.C_drew ?_))); (case side2 => exact HC0.out); rintro e w' ⟨rfl, ⟨nd, rfl⟩⟩; refine ⟨_, rfl, ?_⟩; refine hK.out _ _ ⟨(blk_cell BK160.out 0).trans rfl, (blk_cell BK160.out 1).trans rfl⟩ (fun hHeld => ?_); clear hK K; refine norm_ (a' := ?_) ?_ ?_; rotate_left
      ·
       show Act.put _ (some 24) _ = _; simp only [Act.put, List.setIfInBounds_toArray, List.set_cons_zero, List.set_cons_succ, i64_w, i32_w]; rfl
      refine one_ (i := 7) (N := some 30) #[Y',Y',Y',Y',Y',Y',Y',Y',Z',Y',Z'] rfl rfl (one_of HT_.out (by kernel_rfl)) (by decide) (fun K hK => ?_); refine goes_ Try.func68 (by kernel_rfl) rfl #[.slice A0 l0.length c0, .int .i64 t158, .int .i64 2] (by rfl) rfl rfl args_a ?_
      with_reducible refine (spec_l1Read.calls kj2 _ _ l0 t158 2 t162 _ ?side1 ?side2 A17.out).mono ?_
      (case side1 => repeat (first | exact (Kd.C_below HR0.out below_a) | (with_reducible refine Kd.C_alloc ?_ _) | (with_reducible refine Kd.C_drewN ?_ _) | (with_reducible refine Kd.C_drew ?_))); (case side2 => exact HC0.out); rintro e w' ⟨rfl, ⟨nd, rfl⟩⟩; refine ⟨_, rfl, ?_⟩; refine hK.out _ _ ⟨(blk_cell BK160.out 0).trans rfl, (blk_cell BK160.out 1).trans rfl⟩ (fun hHeld => ?_); clear hK K; refine norm_ (a' := ?_) ?_ ?_; rotate_left
      ·
       show Act.put _ (some 30) _ = _; simp only [Act.put, List.setIfInBounds_toArray, List.set_cons_zero, List.set_cons_succ, i64_w, i32_w]; rfl
      refine pure_ (i := 8) (N := some 31) (v := ?_) (a' := ?_) #[Y',Y',Y',Y',Y',Y',Y',Y',Y',Y',Z'] rfl rfl (any_of HT_.out (by kernel_rfl)) (fun _ _ _ h => h) (Or.inl ⟨by rfl, ?_⟩) ?_ ?_; rotate_left
      ·
       intro w'
       go_simp
       with_reducible rfl
      rotate_left
      ·
       simp only [Act.put, List.setIfInBounds_toArray, List.set_cons_zero, List.set_cons_succ, i64_w, i32_w]; rfl
      exact norm_ (by simp only [putAll, Act.put, List.setIfInBounds_toArray, List.set_cons_zero, List.set_cons_succ]) (hCont (gb163) _ ⟨hHeld, (R_a HO_161000.out), blk_a, blk_a, blk_a, GW163.out, GE163.out, NB154_163.out, NB163_154.out, NB160_163.out, NB163_160.out, below_a⟩)
    rintro gb163 w21 ⟨hS_, h0_, h1_, h2_, h3_, h4_, h5_, h6_, h7_, h8_, h9_, h10_⟩
    try dsimp only at hS_ h0_ h1_ h2_ h3_ h4_ h5_ h6_ h7_ h8_ h9_ h10_
    clear HO_161000 BK154 BK160 HB; have HO_161000 := Aside0.mk h0_; have BK154 := Aside0.mk h1_; have BK160 := Aside0.mk h2_; have BK163 := Aside0.mk h3_; have GW163 := Aside0.mk h4_; have GE163 := Aside0.mk h5_; have NB154_163 := Aside0.mk h6_; have NB163_154 := Aside0.mk h7_; have NB160_163 := Aside0.mk h8_; have NB163_160 := Aside0.mk h9_; have HB := Aside0.mk h10_; clear h0_ h1_ h2_ h3_ h4_ h5_ h6_ h7_ h8_ h9_ h10_; have hHeld : w21.cell? ⟨gb160, 0, none⟩ = some (.slice Ao7 t155.length co7) ∧ w21.cell? ⟨gb160, 1, none⟩ = some (.int .i64 t158) := hS_; refine norm_ (a' := ?_) ?_ ?_; rotate_left
    ·
     simp only [putAll, Act.put, List.setIfInBounds_toArray, List.set_cons_zero, List.set_cons_succ]; rfl
    refine one_ (i := 10) (N := none) #[Y',Y',Y',Y',Y',Y',Y',Y',Y',Y',Y'] rfl rfl (one_of HT_.out (by kernel_rfl)) (by decide) (fun K hK => ?_); have hs22 : w21.cell? ⟨gb163, 0, none⟩ = some (.int .i64 0) := (blk_cell BK163.out 0).trans rfl; have hfs22 := blk_frozen BK163.out 0; have hns22_0 := NB154_163.out; have hns22_1 := NB160_163.out; have hms22_0 := NB163_154.out; have hms22_1 := NB163_160.out; have hs23 : w21.cell? ⟨gb163, 1, none⟩ = some (.slice none 0 0) := (blk_cell BK163.out 1).trans rfl; have hfs23 := blk_frozen BK163.out 1; have hns23_0 := NB154_163.out; have hns23_1 := NB160_163.out; have hms23_0 := NB163_154.out; have hms23_1 := NB163_160.out; have hs24 : w21.cell? ⟨gb163, 2, none⟩ = some (.int .i64 0) := (blk_cell BK163.out 2).trans rfl; have hfs24 := blk_frozen BK163.out 2; have hns24_0 := NB154_163.out; have hns24_1 := NB160_163.out; have hms24_0 := NB163_154.out; have hms24_1 := NB163_160.out; refine skip_ (w1 := ?_) (by rfl) rfl ?_ ?_; rotate_left
    ·
     go_simp
     rfl
    refine hK.out _ _ ⟨((cell_far (p := ⟨gb163, _, none⟩) NB160_163.out _).trans (((cell_far (p := ⟨gb163, _, none⟩) NB160_163.out _).trans (((cell_far (p := ⟨gb163, _, none⟩) NB160_163.out _).trans (hHeld.1)))))), ((cell_far (p := ⟨gb163, _, none⟩) NB160_163.out _).trans (((cell_far (p := ⟨gb163, _, none⟩) NB160_163.out _).trans (((cell_far (p := ⟨gb163, _, none⟩) NB160_163.out _).trans (hHeld.2))))))⟩ (fun hHeld => ?_); clear hK K; refine done_ (done_of HT_.out (by kernel_rfl)) ?_
    try go_wp2
    generalize hW_ : (((w21.setCell ⟨gb163, 0, none⟩ (.int .i64 t161)).setCell ⟨gb163, 1, none⟩ (.slice Ao7 t155.length co7)).setCell ⟨gb163, 2, none⟩ (.int .i64 t162)) = w25 at ⊢; have n0_ : Aside0 (Kd.R Kd.string 9 w25 w.heap.size (fun _ => True) (.slice Ao7 t155.length co7) t155) := hW_ ▸ ⟨by (with_reducible repeat (first | apply Kd.R_alloc | apply Kd.R_drewN | apply Kd.R_drew)); exact Kd.R_mono (Kd.R_far (p := ⟨gb163, 2, none⟩) (Kd.R_far (p := ⟨gb163, 1, none⟩) (Kd.R_far (p := ⟨gb163, 0, none⟩) (Kd.R_types HO_161000.out BK163.out (by decide)) (fun _ hk => hk.2) (.int .i64 t161)) (fun _ hk => hk.2) (.slice Ao7 t155.length co7)) (fun _ hk => hk.2) (.int .i64 t162)) (fun _ hk => trivial)⟩; have n1_ : Aside0 (w25.heap[gb154]? = some (.cells #[.int .i64 0, .slice none 0 0, .int .i64 0] 52 (0, 0))) := hW_ ▸ ⟨blk_a⟩; have n2_ : Aside0 (w25.heap[gb160]? = some (.cells #[.slice Ao7 t155.length co7, .int .i64 t158] 34 (0, 0))) := hW_ ▸ ⟨blk_a⟩; have n3_ : Aside0 (w25.heap[gb163]? = some (.cells #[.int .i64 t161, .slice Ao7 t155.length co7, .int .i64 t162] 52 (0, 0))) := hW_ ▸ ⟨blk_a⟩; have n4_ : Aside0 (Below w.heap.size w w25) := hW_ ▸ ⟨below_a⟩; (try clear HO_161000); (try clear BK154); (try clear BK160); (try clear BK163); (try clear HB); clear hW_; have HO_161000 := n0_; have BK154 := n1_; have BK160 := n2_; have BK163 := n3_; have HB := n4_; clear n0_ n1_ n2_ n3_ n4_; replace HO_161000 := Aside0.mk (Kd.R_drew HO_161000.out); replace BK154 := Aside0.mk (blk_drew BK154.out); replace BK160 := Aside0.mk (blk_drew BK160.out); replace BK163 := Aside0.mk (blk_drew BK163.out); replace HB := Aside0.mk (below_drew1 HB.out); refine start_ (n := 8) (S := fun w' => w'.cell? ⟨gb163, 0, none⟩ = some (.int .i64 t161) ∧ w'.cell? ⟨gb163, 1, none⟩ = some (.slice Ao7 t155.length co7) ∧ w'.cell? ⟨gb163, 2, none⟩ = some (.int .i64 t162)) (ds := []) #[Z',Z',Z',Z',Z',Z',Z',Z'] (by kernel_rfl) rfl rfl ⟨(blk_cell BK163.out 0).trans rfl, (blk_cell BK163.out 1).trans rfl, (blk_cell BK163.out 2).trans rfl⟩ (fun hHeld => ?_); refine with_tabW spec_l10Ask.tab5 spec_l10Ask.bits5 (fun HT_ HW_ => ?_); generalize w25.drew = w26 at HO_161000 BK154 BK160 BK163 HB hHeld ⊢; refine pure_ (i := 3) (N := some 35) (v := ?_) (a' := ?_) #[Z',Z',Z',Y',Z',Z',Z',Z'] rfl rfl (any_of HT_.out (by kernel_rfl)) (fun _ _ _ h => h) (Or.inl ⟨by rfl, ?_⟩) ?_ ?_; rotate_left
    ·
     intro w'
     go_simp
     with_reducible rfl
    rotate_left
    ·
     simp only [Act.put, List.setIfInBounds_toArray, List.set_cons_zero, List.set_cons_succ, i64_w, i32_w]; rfl
    refine take_ (i := 0) (N := some 32) (v := ?_) (a' := ?_) #[Y',Z',Z',Y',Z',Z',Z',Z'] rfl rfl (take_ofW HT_.out HW_.out (by kernel_rfl)) (fun _ _ _ h => h) (Or.inl ⟨by rfl, ?_⟩) hHeld ?_ ?_; rotate_left
    ·
     rintro w' ⟨s0, s1, s2⟩
     go_simp
     with_reducible rfl
    rotate_left
    ·
     simp only [Act.put, List.setIfInBounds_toArray, List.set_cons_zero, List.set_cons_succ, i64_w, i32_w]; rfl
    refine join_ (σ := Value) 1 #[Y',Y',Y',Y',Y',Y',Y',Z'] (fun s_ => [(33, s_), (34, .string (strOfNums t164)), (36, .string (strOfNums l0)), (37, .bool ((strOfNums t164).toList == (strOfNums l0).toList))]) (fun s_ w' => (w'.cell? ⟨gb163, 0, none⟩ = some (.int .i64 t161) ∧ w'.cell? ⟨gb163, 1, none⟩ = some (.slice Ao7 t155.length co7) ∧ w'.cell? ⟨gb163, 2, none⟩ = some (.int .i64 t162)) ∧ (Kd.R (Kd.int .u8) 5 w' w.heap.size (fun _ => True) s_ t164) ∧ (Kd.R Kd.string 9 w' w.heap.size (fun _ => True) (.slice Ao7 t155.length co7) t155) ∧ (w'.heap[gb154]? = some (.cells #[.int .i64 t161, .slice Ao7 t155.length co7, .int .i64 t162] 52 (0, 0))) ∧ (w'.heap[gb160]? = some (.cells #[.slice Ao7 t155.length co7, .int .i64 t158] 34 (0, 0))) ∧ (w'.heap[gb163]? = some (.cells #[.int .i64 t161, .slice Ao7 t155.length co7, .int .i64 t162] 52 (0, 0))) ∧ (Below w.heap.size w w')) ?_ ?_; rotate_left
    ·
     intro hJ1_2_4_6; refine join_ (σ := Value) 2 #[Y',Y',Y',Y',Y',Y',Z',Z'] (fun s_ => [(33, s_), (34, .string (strOfNums t164)), (36, .string (strOfNums l0)), (37, .bool ((strOfNums t164).toList == (strOfNums l0).toList))]) (fun s_ w' => (w'.cell? ⟨gb163, 0, none⟩ = some (.int .i64 t161) ∧ w'.cell? ⟨gb163, 1, none⟩ = some (.slice Ao7 t155.length co7) ∧ w'.cell? ⟨gb163, 2, none⟩ = some (.int .i64 t162)) ∧ (Kd.R (Kd.int .u8) 5 w' w.heap.size (fun _ => True) s_ t164) ∧ (Kd.R Kd.string 9 w' w.heap.size (fun _ => True) (.slice Ao7 t155.length co7) t155) ∧ (w'.heap[gb154]? = some (.cells #[.int .i64 0, .slice none 0 0, .int .i64 0] 52 (0, 0))) ∧ (w'.heap[gb160]? = some (.cells #[.slice Ao7 t155.length co7, .int .i64 t158] 34 (0, 0))) ∧ (w'.heap[gb163]? = some (.cells #[.int .i64 t161, .slice Ao7 t155.length co7, .int .i64 t162] 52 (0, 0))) ∧ (Below w.heap.size w w')) ?_ ?_; rotate_left
     ·
      intro hJ1_2_4; refine join_ (σ := Value) 3 #[Y',Y',Y',Y',Z',Z',Y',Z'] (fun s_ => [(33, s_), (34, .string (strOfNums t164))]) (fun s_ w' => (w'.cell? ⟨gb163, 0, none⟩ = some (.int .i64 t161) ∧ w'.cell? ⟨gb163, 1, none⟩ = some (.slice Ao7 t155.length co7) ∧ w'.cell? ⟨gb163, 2, none⟩ = some (.int .i64 t162)) ∧ (Kd.R (Kd.int .u8) 5 w' w.heap.size (fun _ => True) s_ t164) ∧ (Kd.R Kd.string 9 w' w.heap.size (fun _ => True) (.slice Ao7 t155.length co7) t155) ∧ (w'.heap[gb154]? = some (.cells #[.int .i64 t161, .slice Ao7 t155.length co7, .int .i64 t162] 52 (0, 0))) ∧ (w'.heap[gb160]? = some (.cells #[.slice Ao7 t155.length co7, .int .i64 t158] 34 (0, 0))) ∧ (w'.heap[gb163]? = some (.cells #[.int .i64 t161, .slice Ao7 t155.length co7, .int .i64 t162] 52 (0, 0))) ∧ (Below w.heap.size w w')) ?_ ?_; rotate_left
      ·
       intro hJ1_2_6; refine join_ (σ := Value) 3 #[Y',Y',Z',Y',Y',Z',Y',Z'] (fun s_ => [(33, s_), (36, .string (strOfNums l0))]) (fun s_ w' => (w'.cell? ⟨gb163, 0, none⟩ = some (.int .i64 t161) ∧ w'.cell? ⟨gb163, 1, none⟩ = some (.slice Ao7 t155.length co7) ∧ w'.cell? ⟨gb163, 2, none⟩ = some (.int .i64 t162)) ∧ (Kd.R (Kd.int .u8) 5 w' w.heap.size (fun _ => True) s_ t164) ∧ (Kd.R Kd.string 9 w' w.heap.size (fun _ => True) (.slice Ao7 t155.length co7) t155) ∧ (w'.heap[gb154]? = some (.cells #[.int .i64 t161, .slice Ao7 t155.length co7, .int .i64 t162] 52 (0, 0))) ∧ (w'.heap[gb160]? = some (.cells #[.slice Ao7 t155.length co7, .int .i64 t158] 34 (0, 0))) ∧ (w'.heap[gb163]? = some (.cells #[.int .i64 t161, .slice Ao7 t155.length co7, .int .i64 t162] 52 (0, 0))) ∧ (Below w.heap.size w w')) ?_ ?_; rotate_left
       ·
        intro hJ1_4_6; refine join_ (σ := Value) 4 #[Y',Y',Y',Y',Z',Z',Z',Z'] (fun s_ => [(33, s_), (34, .string (strOfNums t164))]) (fun s_ w' => (w'.cell? ⟨gb163, 0, none⟩ = some (.int .i64 t161) ∧ w'.cell? ⟨gb163, 1, none⟩ = some (.slice Ao7 t155.length co7) ∧ w'.cell? ⟨gb163, 2, none⟩ = some (.int .i64 t162)) ∧ (Kd.R (Kd.int .u8) 5 w' w.heap.size (fun _ => True) s_ t164) ∧ (Kd.R Kd.string 9 w' w.heap.size (fun _ => True) (.slice Ao7 t155.length co7) t155) ∧ (w'.heap[gb154]? = some (.cells #[.int .i64 0, .slice none 0 0, .int .i64 0] 52 (0, 0))) ∧ (w'.heap[gb160]? = some (.cells #[.slice Ao7 t155.length co7, .int .i64 t158] 34 (0, 0))) ∧ (w'.heap[gb163]? = some (.cells #[.int .i64 t161, .slice Ao7 t155.length co7, .int .i64 t162] 52 (0, 0))) ∧ (Below w.heap.size w w')) ?_ ?_; rotate_left
        ·
         intro hJ1_2; refine join_ (σ := Value) 4 #[Y',Y',Z',Y',Y',Z',Z',Z'] (fun s_ => [(33, s_), (36, .string (strOfNums l0))]) (fun s_ w' => (w'.cell? ⟨gb163, 0, none⟩ = some (.int .i64 t161) ∧ w'.cell? ⟨gb163, 1, none⟩ = some (.slice Ao7 t155.length co7) ∧ w'.cell? ⟨gb163, 2, none⟩ = some (.int .i64 t162)) ∧ (Kd.R (Kd.int .u8) 5 w' w.heap.size (fun _ => True) s_ t164) ∧ (Kd.R Kd.string 9 w' w.heap.size (fun _ => True) (.slice Ao7 t155.length co7) t155) ∧ (w'.heap[gb154]? = some (.cells #[.int .i64 0, .slice none 0 0, .int .i64 0] 52 (0, 0))) ∧ (w'.heap[gb160]? = some (.cells #[.slice Ao7 t155.length co7, .int .i64 t158] 34 (0, 0))) ∧ (w'.heap[gb163]? = some (.cells #[.int .i64 t161, .slice Ao7 t155.length co7, .int .i64 t162] 52 (0, 0))) ∧ (Below w.heap.size w w')) ?_ ?_; rotate_left
         ·
          intro hJ1_4; refine join_ (σ := Value) 4 #[Y',Y',Z',Y',Z',Z',Y',Z'] (fun s_ => [(33, s_)]) (fun s_ w' => (w'.cell? ⟨gb163, 0, none⟩ = some (.int .i64 t161) ∧ w'.cell? ⟨gb163, 1, none⟩ = some (.slice Ao7 t155.length co7) ∧ w'.cell? ⟨gb163, 2, none⟩ = some (.int .i64 t162)) ∧ (Kd.R (Kd.int .u8) 5 w' w.heap.size (fun _ => True) s_ t164) ∧ (Kd.R Kd.string 9 w' w.heap.size (fun _ => True) (.slice Ao7 t155.length co7) t155) ∧ (w'.heap[gb154]? = some (.cells #[.int .i64 t161, .slice Ao7 t155.length co7, .int .i64 t162] 52 (0, 0))) ∧ (w'.heap[gb160]? = some (.cells #[.slice Ao7 t155.length co7, .int .i64 t158] 34 (0, 0))) ∧ (w'.heap[gb163]? = some (.cells #[.int .i64 t161, .slice Ao7 t155.length co7, .int .i64 t162] 52 (0, 0))) ∧ (Below w.heap.size w w')) ?_ ?_; rotate_left
          ·
           intro hJ1_6; refine join_ (σ := Value) 5 #[Y',Y',Z',Y',Z',Z',Z',Z'] (fun s_ => [(33, s_)]) (fun s_ w' => (w'.cell? ⟨gb163, 0, none⟩ = some (.int .i64 t161) ∧ w'.cell? ⟨gb163, 1, none⟩ = some (.slice Ao7 t155.length co7) ∧ w'.cell? ⟨gb163, 2, none⟩ = some (.int .i64 t162)) ∧ (Kd.R (Kd.int .u8) 5 w' w.heap.size (fun _ => True) s_ t164) ∧ (Kd.R Kd.string 9 w' w.heap.size (fun _ => True) (.slice Ao7 t155.length co7) t155) ∧ (w'.heap[gb154]? = some (.cells #[.int .i64 0, .slice none 0 0, .int .i64 0] 52 (0, 0))) ∧ (w'.heap[gb160]? = some (.cells #[.slice Ao7 t155.length co7, .int .i64 t158] 34 (0, 0))) ∧ (w'.heap[gb163]? = some (.cells #[.int .i64 t161, .slice Ao7 t155.length co7, .int .i64 t162] 52 (0, 0))) ∧ (Below w.heap.size w w')) ?_ ?_; rotate_left
           ·
            intro hJ1; refine join_ (σ := Unit) 5 #[Y',Z',Z',Y',Y',Z',Z',Z'] (fun s_ => [(36, .string (strOfNums l0))]) (fun s_ w' => (w'.cell? ⟨gb163, 0, none⟩ = some (.int .i64 t161) ∧ w'.cell? ⟨gb163, 1, none⟩ = some (.slice Ao7 t155.length co7) ∧ w'.cell? ⟨gb163, 2, none⟩ = some (.int .i64 t162)) ∧ (Kd.R Kd.string 9 w' w.heap.size (fun _ => True) (.slice Ao7 t155.length co7) t155) ∧ (w'.heap[gb154]? = some (.cells #[.int .i64 0, .slice none 0 0, .int .i64 0] 52 (0, 0))) ∧ (w'.heap[gb160]? = some (.cells #[.slice Ao7 t155.length co7, .int .i64 t158] 34 (0, 0))) ∧ (w'.heap[gb163]? = some (.cells #[.int .i64 t161, .slice Ao7 t155.length co7, .int .i64 t162] 52 (0, 0))) ∧ (Below w.heap.size w w')) ?_ ?_; rotate_left
            ·
             intro hJ4; refine two_ (i := 1) (j := 4) (Ni := some 33) (Nj := some 36) #[Y',Y',Z',Y',Z',Z',Z',Z'] #[Y',Z',Z',Y',Y',Z',Z',Z'] rfl rfl rfl rfl (two_of HT_.out (by kernel_rfl)) (by decide) (by decide) (fun K hK => ?_) (fun K hK => ?_)
             ·
              refine goes_ Try.func56 (by kernel_rfl) rfl #[.pointer (some (⟨gb163, 0, none⟩))] (by rfl) rfl rfl args_a ?_
              with_reducible refine (spec_l10Query.calls kj2 _ t161 Ao7 co7 t155 t162 t164 _ ?side1 ?side2 ?side3 ?side4 ?side5 A18.out).mono ?_
              (case side1 => repeat (first | exact (Kd.R_reads' HO_161000.out).2.2 | (with_reducible refine Kd.C_alloc ?_ _) | (with_reducible refine Kd.C_drewN ?_ _) | (with_reducible refine Kd.C_drew ?_))); (case side2 => exact (Kd.R_reads' HO_161000.out).2.1); (case side3 => exact (blk_cell blk_a 0).trans rfl); (case side4 => exact (blk_cell blk_a 1).trans rfl); (case side5 => exact (blk_cell blk_a 2).trans rfl); rintro e w27 ⟨v165, rfl, ho0, hb⟩; refine ⟨_, rfl, ?_⟩; replace HO_161000 := Aside0.mk (Kd.R_below (R_a HO_161000.out) hb); have HO166 := Aside0.mk (Kd.R_lower ho0 (below_size below_a)); replace BK154 := Aside0.mk (blk_below (g := gb154) blk_c hb); replace BK160 := Aside0.mk (blk_below (g := gb160) blk_c hb); replace BK163 := Aside0.mk (blk_below (g := gb163) blk_c hb); replace HB := Aside0.mk (below_step below_a hb); (try clear hb); (try clear hb2); (try clear hk); (try clear hi); (try clear ho0); refine hK.out _ _ ⟨(blk_cell BK163.out 0).trans rfl, (blk_cell BK163.out 1).trans rfl, (blk_cell BK163.out 2).trans rfl⟩ (fun hHeld => ?_); clear hK K; refine norm_ (a' := ?_) ?_ ?_; rotate_left
              ·
               show Act.put _ (some 33) _ = _; simp only [Act.put, List.setIfInBounds_toArray, List.set_cons_zero, List.set_cons_succ, i64_w, i32_w]; rfl
              exact norm_ (by first | (simp only [putAll, Act.put, List.setIfInBounds_toArray, List.set_cons_zero, List.set_cons_succ]; done) | (simp only [putAll, Act.put, List.setIfInBounds_toArray, List.set_cons_zero, List.set_cons_succ]; rfl)) (hJ1 (v165) _ ⟨hHeld, (R_a HO166.out), (R_a HO_161000.out), blk_a, blk_a, blk_a, below_a⟩)
             ·
              (have hcv27 := Kd.C_string (P := Try.prog) (A := A0) (c := c0) Try.underlying24 Try.underlying5 Try.underlying9 (Kd.C_below HR0.out below_a))
              refine value_ (w1 := ?_) (v := ?_) (by rfl) rfl ?_ ?_; rotate_left 2
              ·
               go_simp
               constructor
               ·
                rfl
               ·
                rfl
              (try clear hcv27) <;> (try clear hcw27); refine hK.out _ _ ⟨(blk_cell BK163.out 0).trans rfl, (blk_cell BK163.out 1).trans rfl, (blk_cell BK163.out 2).trans rfl⟩ (fun hHeld => ?_); clear hK K; refine norm_ (a' := ?_) ?_ ?_; rotate_left
              ·
               show Act.put _ (some 36) _ = _; simp only [Act.put, List.setIfInBounds_toArray, List.set_cons_zero, List.set_cons_succ, i64_w, i32_w]; rfl
              exact norm_ (by first | (simp only [putAll, Act.put, List.setIfInBounds_toArray, List.set_cons_zero, List.set_cons_succ]; done) | (simp only [putAll, Act.put, List.setIfInBounds_toArray, List.set_cons_zero, List.set_cons_succ]; rfl)) (hJ4 () _ ⟨hHeld, (R_a HO_161000.out), blk_a, blk_a, blk_a, below_a⟩)
            ·
             rintro _ w28 ⟨hS_, h0_, h1_, h2_, h3_, h4_⟩
             try dsimp only at hS_ h0_ h1_ h2_ h3_ h4_
             clear HO_161000 BK154 BK160 BK163 HB; have HO_161000 := Aside0.mk h0_; have BK154 := Aside0.mk h1_; have BK160 := Aside0.mk h2_; have BK163 := Aside0.mk h3_; have HB := Aside0.mk h4_; clear h0_ h1_ h2_ h3_ h4_; have hHeld : w28.cell? ⟨gb163, 0, none⟩ = some (.int .i64 t161) ∧ w28.cell? ⟨gb163, 1, none⟩ = some (.slice Ao7 t155.length co7) ∧ w28.cell? ⟨gb163, 2, none⟩ = some (.int .i64 t162) := hS_; refine norm_ (a' := ?_) ?_ ?_; rotate_left
             ·
              simp only [putAll, Act.put, List.setIfInBounds_toArray, List.set_cons_zero, List.set_cons_succ]; rfl
             refine one_ (i := 1) (N := some 33) #[Y',Y',Z',Y',Y',Z',Z',Z'] rfl rfl (one_of HT_.out (by kernel_rfl)) (by decide) (fun K hK => ?_); refine goes_ Try.func56 (by kernel_rfl) rfl #[.pointer (some (⟨gb163, 0, none⟩))] (by rfl) rfl rfl args_a ?_
             with_reducible refine (spec_l10Query.calls kj2 _ t161 Ao7 co7 t155 t162 t164 _ ?side1 ?side2 ?side3 ?side4 ?side5 A18.out).mono ?_
             (case side1 => repeat (first | exact (Kd.R_reads' HO_161000.out).2.2 | (with_reducible refine Kd.C_alloc ?_ _) | (with_reducible refine Kd.C_drewN ?_ _) | (with_reducible refine Kd.C_drew ?_))); (case side2 => exact (Kd.R_reads' HO_161000.out).2.1); (case side3 => exact (blk_cell blk_a 0).trans rfl); (case side4 => exact (blk_cell blk_a 1).trans rfl); (case side5 => exact (blk_cell blk_a 2).trans rfl); rintro e w29 ⟨v165, rfl, ho0, hb⟩; refine ⟨_, rfl, ?_⟩; replace HO_161000 := Aside0.mk (Kd.R_below (R_a HO_161000.out) hb); have HO166 := Aside0.mk (Kd.R_lower ho0 (below_size below_a)); replace BK154 := Aside0.mk (blk_below (g := gb154) blk_c hb); replace BK160 := Aside0.mk (blk_below (g := gb160) blk_c hb); replace BK163 := Aside0.mk (blk_below (g := gb163) blk_c hb); replace HB := Aside0.mk (below_step below_a hb); (try clear hb); (try clear hb2); (try clear hk); (try clear hi); (try clear ho0); refine hK.out _ _ ⟨(blk_cell BK163.out 0).trans rfl, (blk_cell BK163.out 1).trans rfl, (blk_cell BK163.out 2).trans rfl⟩ (fun hHeld => ?_); clear hK K; refine norm_ (a' := ?_) ?_ ?_; rotate_left
             ·
              show Act.put _ (some 33) _ = _; simp only [Act.put, List.setIfInBounds_toArray, List.set_cons_zero, List.set_cons_succ, i64_w, i32_w]; rfl
             exact norm_ (by first | (simp only [putAll, Act.put, List.setIfInBounds_toArray, List.set_cons_zero, List.set_cons_succ]; done) | (simp only [putAll, Act.put, List.setIfInBounds_toArray, List.set_cons_zero, List.set_cons_succ]; rfl)) (hJ1_4 (v165) _ ⟨hHeld, (R_a HO166.out), (R_a HO_161000.out), blk_a, blk_a, blk_a, below_a⟩)
           ·
            rintro v165 w28 ⟨hS_, h0_, h1_, h2_, h3_, h4_, h5_⟩
            try dsimp only at hS_ h0_ h1_ h2_ h3_ h4_ h5_
            clear HO_161000 BK154 BK160 BK163 HB; have HO166 := Aside0.mk h0_; have HO_161000 := Aside0.mk h1_; have BK154 := Aside0.mk h2_; have BK160 := Aside0.mk h3_; have BK163 := Aside0.mk h4_; have HB := Aside0.mk h5_; clear h0_ h1_ h2_ h3_ h4_ h5_; have hHeld : w28.cell? ⟨gb163, 0, none⟩ = some (.int .i64 t161) ∧ w28.cell? ⟨gb163, 1, none⟩ = some (.slice Ao7 t155.length co7) ∧ w28.cell? ⟨gb163, 2, none⟩ = some (.int .i64 t162) := hS_; refine norm_ (a' := ?_) ?_ ?_; rotate_left
            ·
             simp only [putAll, Act.put, List.setIfInBounds_toArray, List.set_cons_zero, List.set_cons_succ]; rfl
            refine three_ (i := 2) (j := 4) (k := 6) (Ni := some 34) (Nj := some 36) (Nk := none) #[Y',Y',Y',Y',Z',Z',Z',Z'] #[Y',Y',Z',Y',Y',Z',Z',Z'] #[Y',Y',Z',Y',Z',Z',Y',Z'] rfl rfl rfl rfl rfl rfl (three_of HT_.out (by kernel_rfl)) (by decide) (by decide) (by decide) (fun K hK => ?_) (fun K hK => ?_) (fun K hK => ?_)
            ·
             have hcv29 := own_string (P := Try.prog) Try.underlying24 Try.underlying5 Try.underlying9 (Kd.own_of_R HO166.out); refine value_ (w1 := ?_) (v := ?_) (by rfl) rfl ?_ ?_; rotate_left 2
             ·
              go_simp
              constructor
              ·
               rfl
              ·
               rfl
             clear hcv29; refine hK.out _ _ ⟨(blk_cell BK163.out 0).trans rfl, (blk_cell BK163.out 1).trans rfl, (blk_cell BK163.out 2).trans rfl⟩ (fun hHeld => ?_); clear hK K; refine norm_ (a' := ?_) ?_ ?_; rotate_left
             ·
              show Act.put _ (some 34) _ = _; simp only [Act.put, List.setIfInBounds_toArray, List.set_cons_zero, List.set_cons_succ, i64_w, i32_w]; rfl
             exact norm_ (by first | (simp only [putAll, Act.put, List.setIfInBounds_toArray, List.set_cons_zero, List.set_cons_succ]; done) | (simp only [putAll, Act.put, List.setIfInBounds_toArray, List.set_cons_zero, List.set_cons_succ]; rfl)) (hJ1_2 (v165) _ ⟨hHeld, (R_a HO166.out), (R_a HO_161000.out), blk_a, blk_a, blk_a, below_a⟩)
            ·
             (have hcv29 := Kd.C_string (P := Try.prog) (A := A0) (c := c0) Try.underlying24 Try.underlying5 Try.underlying9 (Kd.C_below HR0.out below_a))
             refine value_ (w1 := ?_) (v := ?_) (by rfl) rfl ?_ ?_; rotate_left 2
             ·
              go_simp
              constructor
              ·
               rfl
              ·
               rfl
             (try clear hcv29) <;> (try clear hcw29); refine hK.out _ _ ⟨(blk_cell BK163.out 0).trans rfl, (blk_cell BK163.out 1).trans rfl, (blk_cell BK163.out 2).trans rfl⟩ (fun hHeld => ?_); clear hK K; refine norm_ (a' := ?_) ?_ ?_; rotate_left
             ·
              show Act.put _ (some 36) _ = _; simp only [Act.put, List.setIfInBounds_toArray, List.set_cons_zero, List.set_cons_succ, i64_w, i32_w]; rfl
             exact norm_ (by first | (simp only [putAll, Act.put, List.setIfInBounds_toArray, List.set_cons_zero, List.set_cons_succ]; done) | (simp only [putAll, Act.put, List.setIfInBounds_toArray, List.set_cons_zero, List.set_cons_succ]; rfl)) (hJ1_4 (v165) _ ⟨hHeld, (R_a HO166.out), (R_a HO_161000.out), blk_a, blk_a, blk_a, below_a⟩)
            ·
             have hs29 : w28.cell? ⟨gb154, 0, none⟩ = some (.int .i64 0) := (blk_cell BK154.out 0).trans rfl; have hfs29 := blk_frozen BK154.out 0; have hns29_1 := NB160_154.out; have hns29_2 := NB163_154.out; have hms29_1 := NB154_160.out; have hms29_2 := NB154_163.out; have hs30 : w28.cell? ⟨gb154, 1, none⟩ = some (.slice none 0 0) := (blk_cell BK154.out 1).trans rfl; have hfs30 := blk_frozen BK154.out 1; have hns30_1 := NB160_154.out; have hns30_2 := NB163_154.out; have hms30_1 := NB154_160.out; have hms30_2 := NB154_163.out; have hs31 : w28.cell? ⟨gb154, 2, none⟩ = some (.int .i64 0) := (blk_cell BK154.out 2).trans rfl; have hfs31 := blk_frozen BK154.out 2; have hns31_1 := NB160_154.out; have hns31_2 := NB163_154.out; have hms31_1 := NB154_160.out; have hms31_2 := NB154_163.out; refine skip_ (w1 := ?_) (by rfl) rfl ?_ ?_; rotate_left
             ·
              go_simp
              rfl
             refine hK.out _ _ ⟨((cell_far (p := ⟨gb154, _, none⟩) NB163_154.out _).trans (((cell_far (p := ⟨gb154, _, none⟩) NB163_154.out _).trans (((cell_far (p := ⟨gb154, _, none⟩) NB163_154.out _).trans (hHeld.1)))))), ((cell_far (p := ⟨gb154, _, none⟩) NB163_154.out _).trans (((cell_far (p := ⟨gb154, _, none⟩) NB163_154.out _).trans (((cell_far (p := ⟨gb154, _, none⟩) NB163_154.out _).trans (hHeld.2.1)))))), ((cell_far (p := ⟨gb154, _, none⟩) NB163_154.out _).trans (((cell_far (p := ⟨gb154, _, none⟩) NB163_154.out _).trans (((cell_far (p := ⟨gb154, _, none⟩) NB163_154.out _).trans (hHeld.2.2))))))⟩ (fun hHeld => ?_); clear hK K; exact norm_ (by first | (simp only [putAll, Act.put, List.setIfInBounds_toArray, List.set_cons_zero, List.set_cons_succ]; done) | (simp only [putAll, Act.put, List.setIfInBounds_toArray, List.set_cons_zero, List.set_cons_succ]; rfl)) (hJ1_6 (v165) _ ⟨hHeld, (by (with_reducible repeat (first | apply Kd.R_alloc | apply Kd.R_drewN | apply Kd.R_drew)); exact Kd.R_mono (Kd.R_far (p := ⟨gb154, 2, none⟩) (Kd.R_far (p := ⟨gb154, 1, none⟩) (Kd.R_far (p := ⟨gb154, 0, none⟩) (Kd.R_types HO166.out BK154.out (by decide)) (fun _ hk => hk.2) (.int .i64 t161)) (fun _ hk => hk.2) (.slice Ao7 t155.length co7)) (fun _ hk => hk.2) (.int .i64 t162)) (fun _ hk => trivial)), (by (with_reducible repeat (first | apply Kd.R_alloc | apply Kd.R_drewN | apply Kd.R_drew)); exact Kd.R_mono (Kd.R_far (p := ⟨gb154, 2, none⟩) (Kd.R_far (p := ⟨gb154, 1, none⟩) (Kd.R_far (p := ⟨gb154, 0, none⟩) (Kd.R_types HO_161000.out BK154.out (by decide)) (fun _ hk => hk.2) (.int .i64 t161)) (fun _ hk => hk.2) (.slice Ao7 t155.length co7)) (fun _ hk => hk.2) (.int .i64 t162)) (fun _ hk => trivial)), blk_a, blk_a, blk_a, below_a⟩)
          ·
           rintro v165 w31 ⟨hS_, h0_, h1_, h2_, h3_, h4_, h5_⟩
           try dsimp only at hS_ h0_ h1_ h2_ h3_ h4_ h5_
           clear HO_161000 BK154 BK160 BK163 HB; have HO166 := Aside0.mk h0_; have HO_161000 := Aside0.mk h1_; have BK154 := Aside0.mk h2_; have BK160 := Aside0.mk h3_; have BK163 := Aside0.mk h4_; have HB := Aside0.mk h5_; clear h0_ h1_ h2_ h3_ h4_ h5_; have hHeld : w31.cell? ⟨gb163, 0, none⟩ = some (.int .i64 t161) ∧ w31.cell? ⟨gb163, 1, none⟩ = some (.slice Ao7 t155.length co7) ∧ w31.cell? ⟨gb163, 2, none⟩ = some (.int .i64 t162) := hS_; refine norm_ (a' := ?_) ?_ ?_; rotate_left
           ·
            simp only [putAll, Act.put, List.setIfInBounds_toArray, List.set_cons_zero, List.set_cons_succ]; rfl
           refine two_ (i := 2) (j := 4) (Ni := some 34) (Nj := some 36) #[Y',Y',Y',Y',Z',Z',Y',Z'] #[Y',Y',Z',Y',Y',Z',Y',Z'] rfl rfl rfl rfl (two_of HT_.out (by kernel_rfl)) (by decide) (by decide) (fun K hK => ?_) (fun K hK => ?_)
           ·
            have hcv32 := own_string (P := Try.prog) Try.underlying24 Try.underlying5 Try.underlying9 (Kd.own_of_R HO166.out); refine value_ (w1 := ?_) (v := ?_) (by rfl) rfl ?_ ?_; rotate_left 2
            ·
             go_simp
             constructor
             ·
              rfl
             ·
              rfl
            clear hcv32; refine hK.out _ _ ⟨(blk_cell BK163.out 0).trans rfl, (blk_cell BK163.out 1).trans rfl, (blk_cell BK163.out 2).trans rfl⟩ (fun hHeld => ?_); clear hK K; refine norm_ (a' := ?_) ?_ ?_; rotate_left
            ·
             show Act.put _ (some 34) _ = _; simp only [Act.put, List.setIfInBounds_toArray, List.set_cons_zero, List.set_cons_succ, i64_w, i32_w]; rfl
            exact norm_ (by first | (simp only [putAll, Act.put, List.setIfInBounds_toArray, List.set_cons_zero, List.set_cons_succ]; done) | (simp only [putAll, Act.put, List.setIfInBounds_toArray, List.set_cons_zero, List.set_cons_succ]; rfl)) (hJ1_2_6 (v165) _ ⟨hHeld, (R_a HO166.out), (R_a HO_161000.out), blk_a, blk_a, blk_a, below_a⟩)
           ·
            (have hcv32 := Kd.C_string (P := Try.prog) (A := A0) (c := c0) Try.underlying24 Try.underlying5 Try.underlying9 (Kd.C_below HR0.out below_a))
            refine value_ (w1 := ?_) (v := ?_) (by rfl) rfl ?_ ?_; rotate_left 2
            ·
             go_simp
             constructor
             ·
              rfl
             ·
              rfl
            (try clear hcv32) <;> (try clear hcw32); refine hK.out _ _ ⟨(blk_cell BK163.out 0).trans rfl, (blk_cell BK163.out 1).trans rfl, (blk_cell BK163.out 2).trans rfl⟩ (fun hHeld => ?_); clear hK K; refine norm_ (a' := ?_) ?_ ?_; rotate_left
            ·
             show Act.put _ (some 36) _ = _; simp only [Act.put, List.setIfInBounds_toArray, List.set_cons_zero, List.set_cons_succ, i64_w, i32_w]; rfl
            exact norm_ (by first | (simp only [putAll, Act.put, List.setIfInBounds_toArray, List.set_cons_zero, List.set_cons_succ]; done) | (simp only [putAll, Act.put, List.setIfInBounds_toArray, List.set_cons_zero, List.set_cons_succ]; rfl)) (hJ1_4_6 (v165) _ ⟨hHeld, (R_a HO166.out), (R_a HO_161000.out), blk_a, blk_a, blk_a, below_a⟩)
         ·
          rintro v165 w29 ⟨hS_, h0_, h1_, h2_, h3_, h4_, h5_⟩
          try dsimp only at hS_ h0_ h1_ h2_ h3_ h4_ h5_
          clear HO_161000 BK154 BK160 BK163 HB; have HO166 := Aside0.mk h0_; have HO_161000 := Aside0.mk h1_; have BK154 := Aside0.mk h2_; have BK160 := Aside0.mk h3_; have BK163 := Aside0.mk h4_; have HB := Aside0.mk h5_; clear h0_ h1_ h2_ h3_ h4_ h5_; have hHeld : w29.cell? ⟨gb163, 0, none⟩ = some (.int .i64 t161) ∧ w29.cell? ⟨gb163, 1, none⟩ = some (.slice Ao7 t155.length co7) ∧ w29.cell? ⟨gb163, 2, none⟩ = some (.int .i64 t162) := hS_; refine norm_ (a' := ?_) ?_ ?_; rotate_left
          ·
           simp only [putAll, Act.put, List.setIfInBounds_toArray, List.set_cons_zero, List.set_cons_succ]; rfl
          refine two_ (i := 2) (j := 6) (Ni := some 34) (Nj := none) #[Y',Y',Y',Y',Y',Z',Z',Z'] #[Y',Y',Z',Y',Y',Z',Y',Z'] rfl rfl rfl rfl (two_of HT_.out (by kernel_rfl)) (by decide) (by decide) (fun K hK => ?_) (fun K hK => ?_)
          ·
           have hcv30 := own_string (P := Try.prog) Try.underlying24 Try.underlying5 Try.underlying9 (Kd.own_of_R HO166.out); refine value_ (w1 := ?_) (v := ?_) (by rfl) rfl ?_ ?_; rotate_left 2
           ·
            go_simp
            constructor
            ·
             rfl
            ·
             rfl
           clear hcv30; refine hK.out _ _ ⟨(blk_cell BK163.out 0).trans rfl, (blk_cell BK163.out 1).trans rfl, (blk_cell BK163.out 2).trans rfl⟩ (fun hHeld => ?_); clear hK K; refine norm_ (a' := ?_) ?_ ?_; rotate_left
           ·
            show Act.put _ (some 34) _ = _; simp only [Act.put, List.setIfInBounds_toArray, List.set_cons_zero, List.set_cons_succ, i64_w, i32_w]; rfl
           refine pure_ (i := 5) (N := some 37) (v := ?_) (a' := ?_) #[Y',Y',Y',Y',Y',Y',Z',Z'] rfl rfl (any_of HT_.out (by kernel_rfl)) (fun _ _ _ h => h) (Or.inl ⟨by rfl, ?_⟩) ?_ ?_; rotate_left
           ·
            intro w'
            go_simp
            with_reducible rfl
           rotate_left
           ·
            simp only [Act.put, List.setIfInBounds_toArray, List.set_cons_zero, List.set_cons_succ, i64_w, i32_w]; rfl
           exact norm_ (by first | (simp only [putAll, Act.put, List.setIfInBounds_toArray, List.set_cons_zero, List.set_cons_succ]; done) | (simp only [putAll, Act.put, List.setIfInBounds_toArray, List.set_cons_zero, List.set_cons_succ]; rfl)) (hJ1_2_4 (v165) _ ⟨hHeld, (R_a HO166.out), (R_a HO_161000.out), blk_a, blk_a, blk_a, below_a⟩)
          ·
           have hs30 : w29.cell? ⟨gb154, 0, none⟩ = some (.int .i64 0) := (blk_cell BK154.out 0).trans rfl; have hfs30 := blk_frozen BK154.out 0; have hns30_1 := NB160_154.out; have hns30_2 := NB163_154.out; have hms30_1 := NB154_160.out; have hms30_2 := NB154_163.out; have hs31 : w29.cell? ⟨gb154, 1, none⟩ = some (.slice none 0 0) := (blk_cell BK154.out 1).trans rfl; have hfs31 := blk_frozen BK154.out 1; have hns31_1 := NB160_154.out; have hns31_2 := NB163_154.out; have hms31_1 := NB154_160.out; have hms31_2 := NB154_163.out; have hs32 : w29.cell? ⟨gb154, 2, none⟩ = some (.int .i64 0) := (blk_cell BK154.out 2).trans rfl; have hfs32 := blk_frozen BK154.out 2; have hns32_1 := NB160_154.out; have hns32_2 := NB163_154.out; have hms32_1 := NB154_160.out; have hms32_2 := NB154_163.out; refine skip_ (w1 := ?_) (by rfl) rfl ?_ ?_; rotate_left
           ·
            go_simp
            rfl
           refine hK.out _ _ ⟨((cell_far (p := ⟨gb154, _, none⟩) NB163_154.out _).trans (((cell_far (p := ⟨gb154, _, none⟩) NB163_154.out _).trans (((cell_far (p := ⟨gb154, _, none⟩) NB163_154.out _).trans (hHeld.1)))))), ((cell_far (p := ⟨gb154, _, none⟩) NB163_154.out _).trans (((cell_far (p := ⟨gb154, _, none⟩) NB163_154.out _).trans (((cell_far (p := ⟨gb154, _, none⟩) NB163_154.out _).trans (hHeld.2.1)))))), ((cell_far (p := ⟨gb154, _, none⟩) NB163_154.out _).trans (((cell_far (p := ⟨gb154, _, none⟩) NB163_154.out _).trans (((cell_far (p := ⟨gb154, _, none⟩) NB163_154.out _).trans (hHeld.2.2))))))⟩ (fun hHeld => ?_); clear hK K; exact norm_ (by first | (simp only [putAll, Act.put, List.setIfInBounds_toArray, List.set_cons_zero, List.set_cons_succ]; done) | (simp only [putAll, Act.put, List.setIfInBounds_toArray, List.set_cons_zero, List.set_cons_succ]; rfl)) (hJ1_4_6 (v165) _ ⟨hHeld, (by (with_reducible repeat (first | apply Kd.R_alloc | apply Kd.R_drewN | apply Kd.R_drew)); exact Kd.R_mono (Kd.R_far (p := ⟨gb154, 2, none⟩) (Kd.R_far (p := ⟨gb154, 1, none⟩) (Kd.R_far (p := ⟨gb154, 0, none⟩) (Kd.R_types HO166.out BK154.out (by decide)) (fun _ hk => hk.2) (.int .i64 t161)) (fun _ hk => hk.2) (.slice Ao7 t155.length co7)) (fun _ hk => hk.2) (.int .i64 t162)) (fun _ hk => trivial)), (by (with_reducible repeat (first | apply Kd.R_alloc | apply Kd.R_drewN | apply Kd.R_drew)); exact Kd.R_mono (Kd.R_far (p := ⟨gb154, 2, none⟩) (Kd.R_far (p := ⟨gb154, 1, none⟩) (Kd.R_far (p := ⟨gb154, 0, none⟩) (Kd.R_types HO_161000.out BK154.out (by decide)) (fun _ hk => hk.2) (.int .i64 t161)) (fun _ hk => hk.2) (.slice Ao7 t155.length co7)) (fun _ hk => hk.2) (.int .i64 t162)) (fun _ hk => trivial)), blk_a, blk_a, blk_a, below_a⟩)
        ·
         rintro v165 w29 ⟨hS_, h0_, h1_, h2_, h3_, h4_, h5_⟩
         try dsimp only at hS_ h0_ h1_ h2_ h3_ h4_ h5_
         clear HO_161000 BK154 BK160 BK163 HB; have HO166 := Aside0.mk h0_; have HO_161000 := Aside0.mk h1_; have BK154 := Aside0.mk h2_; have BK160 := Aside0.mk h3_; have BK163 := Aside0.mk h4_; have HB := Aside0.mk h5_; clear h0_ h1_ h2_ h3_ h4_ h5_; have hHeld : w29.cell? ⟨gb163, 0, none⟩ = some (.int .i64 t161) ∧ w29.cell? ⟨gb163, 1, none⟩ = some (.slice Ao7 t155.length co7) ∧ w29.cell? ⟨gb163, 2, none⟩ = some (.int .i64 t162) := hS_; refine norm_ (a' := ?_) ?_ ?_; rotate_left
         ·
          simp only [putAll, Act.put, List.setIfInBounds_toArray, List.set_cons_zero, List.set_cons_succ]; rfl
         refine two_ (i := 4) (j := 6) (Ni := some 36) (Nj := none) #[Y',Y',Y',Y',Y',Z',Z',Z'] #[Y',Y',Y',Y',Z',Z',Y',Z'] rfl rfl rfl rfl (two_of HT_.out (by kernel_rfl)) (by decide) (by decide) (fun K hK => ?_) (fun K hK => ?_)
         ·
          (have hcv30 := Kd.C_string (P := Try.prog) (A := A0) (c := c0) Try.underlying24 Try.underlying5 Try.underlying9 (Kd.C_below HR0.out below_a))
          refine value_ (w1 := ?_) (v := ?_) (by rfl) rfl ?_ ?_; rotate_left 2
          ·
           go_simp
           constructor
           ·
            rfl
           ·
            rfl
          (try clear hcv30) <;> (try clear hcw30); refine hK.out _ _ ⟨(blk_cell BK163.out 0).trans rfl, (blk_cell BK163.out 1).trans rfl, (blk_cell BK163.out 2).trans rfl⟩ (fun hHeld => ?_); clear hK K; refine norm_ (a' := ?_) ?_ ?_; rotate_left
          ·
           show Act.put _ (some 36) _ = _; simp only [Act.put, List.setIfInBounds_toArray, List.set_cons_zero, List.set_cons_succ, i64_w, i32_w]; rfl
          refine pure_ (i := 5) (N := some 37) (v := ?_) (a' := ?_) #[Y',Y',Y',Y',Y',Y',Z',Z'] rfl rfl (any_of HT_.out (by kernel_rfl)) (fun _ _ _ h => h) (Or.inl ⟨by rfl, ?_⟩) ?_ ?_; rotate_left
          ·
           intro w'
           go_simp
           with_reducible rfl
          rotate_left
          ·
           simp only [Act.put, List.setIfInBounds_toArray, List.set_cons_zero, List.set_cons_succ, i64_w, i32_w]; rfl
          exact norm_ (by first | (simp only [putAll, Act.put, List.setIfInBounds_toArray, List.set_cons_zero, List.set_cons_succ]; done) | (simp only [putAll, Act.put, List.setIfInBounds_toArray, List.set_cons_zero, List.set_cons_succ]; rfl)) (hJ1_2_4 (v165) _ ⟨hHeld, (R_a HO166.out), (R_a HO_161000.out), blk_a, blk_a, blk_a, below_a⟩)
         ·
          have hs30 : w29.cell? ⟨gb154, 0, none⟩ = some (.int .i64 0) := (blk_cell BK154.out 0).trans rfl; have hfs30 := blk_frozen BK154.out 0; have hns30_1 := NB160_154.out; have hns30_2 := NB163_154.out; have hms30_1 := NB154_160.out; have hms30_2 := NB154_163.out; have hs31 : w29.cell? ⟨gb154, 1, none⟩ = some (.slice none 0 0) := (blk_cell BK154.out 1).trans rfl; have hfs31 := blk_frozen BK154.out 1; have hns31_1 := NB160_154.out; have hns31_2 := NB163_154.out; have hms31_1 := NB154_160.out; have hms31_2 := NB154_163.out; have hs32 : w29.cell? ⟨gb154, 2, none⟩ = some (.int .i64 0) := (blk_cell BK154.out 2).trans rfl; have hfs32 := blk_frozen BK154.out 2; have hns32_1 := NB160_154.out; have hns32_2 := NB163_154.out; have hms32_1 := NB154_160.out; have hms32_2 := NB154_163.out; refine skip_ (w1 := ?_) (by rfl) rfl ?_ ?_; rotate_left
          ·
           go_simp
           rfl
          refine hK.out _ _ ⟨((cell_far (p := ⟨gb154, _, none⟩) NB163_154.out _).trans (((cell_far (p := ⟨gb154, _, none⟩) NB163_154.out _).trans (((cell_far (p := ⟨gb154, _, none⟩) NB163_154.out _).trans (hHeld.1)))))), ((cell_far (p := ⟨gb154, _, none⟩) NB163_154.out _).trans (((cell_far (p := ⟨gb154, _, none⟩) NB163_154.out _).trans (((cell_far (p := ⟨gb154, _, none⟩) NB163_154.out _).trans (hHeld.2.1)))))), ((cell_far (p := ⟨gb154, _, none⟩) NB163_154.out _).trans (((cell_far (p := ⟨gb154, _, none⟩) NB163_154.out _).trans (((cell_far (p := ⟨gb154, _, none⟩) NB163_154.out _).trans (hHeld.2.2))))))⟩ (fun hHeld => ?_); clear hK K; exact norm_ (by first | (simp only [putAll, Act.put, List.setIfInBounds_toArray, List.set_cons_zero, List.set_cons_succ]; done) | (simp only [putAll, Act.put, List.setIfInBounds_toArray, List.set_cons_zero, List.set_cons_succ]; rfl)) (hJ1_2_6 (v165) _ ⟨hHeld, (by (with_reducible repeat (first | apply Kd.R_alloc | apply Kd.R_drewN | apply Kd.R_drew)); exact Kd.R_mono (Kd.R_far (p := ⟨gb154, 2, none⟩) (Kd.R_far (p := ⟨gb154, 1, none⟩) (Kd.R_far (p := ⟨gb154, 0, none⟩) (Kd.R_types HO166.out BK154.out (by decide)) (fun _ hk => hk.2) (.int .i64 t161)) (fun _ hk => hk.2) (.slice Ao7 t155.length co7)) (fun _ hk => hk.2) (.int .i64 t162)) (fun _ hk => trivial)), (by (with_reducible repeat (first | apply Kd.R_alloc | apply Kd.R_drewN | apply Kd.R_drew)); exact Kd.R_mono (Kd.R_far (p := ⟨gb154, 2, none⟩) (Kd.R_far (p := ⟨gb154, 1, none⟩) (Kd.R_far (p := ⟨gb154, 0, none⟩) (Kd.R_types HO_161000.out BK154.out (by decide)) (fun _ hk => hk.2) (.int .i64 t161)) (fun _ hk => hk.2) (.slice Ao7 t155.length co7)) (fun _ hk => hk.2) (.int .i64 t162)) (fun _ hk => trivial)), blk_a, blk_a, blk_a, below_a⟩)
       ·
        rintro v165 w32 ⟨hS_, h0_, h1_, h2_, h3_, h4_, h5_⟩
        try dsimp only at hS_ h0_ h1_ h2_ h3_ h4_ h5_
        clear HO_161000 BK154 BK160 BK163 HB; have HO166 := Aside0.mk h0_; have HO_161000 := Aside0.mk h1_; have BK154 := Aside0.mk h2_; have BK160 := Aside0.mk h3_; have BK163 := Aside0.mk h4_; have HB := Aside0.mk h5_; clear h0_ h1_ h2_ h3_ h4_ h5_; have hHeld : w32.cell? ⟨gb163, 0, none⟩ = some (.int .i64 t161) ∧ w32.cell? ⟨gb163, 1, none⟩ = some (.slice Ao7 t155.length co7) ∧ w32.cell? ⟨gb163, 2, none⟩ = some (.int .i64 t162) := hS_; refine norm_ (a' := ?_) ?_ ?_; rotate_left
        ·
         simp only [putAll, Act.put, List.setIfInBounds_toArray, List.set_cons_zero, List.set_cons_succ]; rfl
        refine one_ (i := 2) (N := some 34) #[Y',Y',Y',Y',Y',Z',Y',Z'] rfl rfl (one_of HT_.out (by kernel_rfl)) (by decide) (fun K hK => ?_); have hcv33 := own_string (P := Try.prog) Try.underlying24 Try.underlying5 Try.underlying9 (Kd.own_of_R HO166.out); refine value_ (w1 := ?_) (v := ?_) (by rfl) rfl ?_ ?_; rotate_left 2
        ·
         go_simp
         constructor
         ·
          rfl
         ·
          rfl
        clear hcv33; refine hK.out _ _ ⟨(blk_cell BK163.out 0).trans rfl, (blk_cell BK163.out 1).trans rfl, (blk_cell BK163.out 2).trans rfl⟩ (fun hHeld => ?_); clear hK K; refine norm_ (a' := ?_) ?_ ?_; rotate_left
        ·
         show Act.put _ (some 34) _ = _; simp only [Act.put, List.setIfInBounds_toArray, List.set_cons_zero, List.set_cons_succ, i64_w, i32_w]; rfl
        refine pure_ (i := 5) (N := some 37) (v := ?_) (a' := ?_) #[Y',Y',Y',Y',Y',Y',Y',Z'] rfl rfl (any_of HT_.out (by kernel_rfl)) (fun _ _ _ h => h) (Or.inl ⟨by rfl, ?_⟩) ?_ ?_; rotate_left
        ·
         intro w'
         go_simp
         with_reducible rfl
        rotate_left
        ·
         simp only [Act.put, List.setIfInBounds_toArray, List.set_cons_zero, List.set_cons_succ, i64_w, i32_w]; rfl
        exact norm_ (by first | (simp only [putAll, Act.put, List.setIfInBounds_toArray, List.set_cons_zero, List.set_cons_succ]; done) | (simp only [putAll, Act.put, List.setIfInBounds_toArray, List.set_cons_zero, List.set_cons_succ]; rfl)) (hJ1_2_4_6 (v165) _ ⟨hHeld, (R_a HO166.out), (R_a HO_161000.out), blk_a, blk_a, blk_a, below_a⟩)
      ·
       rintro v165 w32 ⟨hS_, h0_, h1_, h2_, h3_, h4_, h5_⟩
       try dsimp only at hS_ h0_ h1_ h2_ h3_ h4_ h5_
       clear HO_161000 BK154 BK160 BK163 HB; have HO166 := Aside0.mk h0_; have HO_161000 := Aside0.mk h1_; have BK154 := Aside0.mk h2_; have BK160 := Aside0.mk h3_; have BK163 := Aside0.mk h4_; have HB := Aside0.mk h5_; clear h0_ h1_ h2_ h3_ h4_ h5_; have hHeld : w32.cell? ⟨gb163, 0, none⟩ = some (.int .i64 t161) ∧ w32.cell? ⟨gb163, 1, none⟩ = some (.slice Ao7 t155.length co7) ∧ w32.cell? ⟨gb163, 2, none⟩ = some (.int .i64 t162) := hS_; refine norm_ (a' := ?_) ?_ ?_; rotate_left
       ·
        simp only [putAll, Act.put, List.setIfInBounds_toArray, List.set_cons_zero, List.set_cons_succ]; rfl
       refine one_ (i := 4) (N := some 36) #[Y',Y',Y',Y',Y',Z',Y',Z'] rfl rfl (one_of HT_.out (by kernel_rfl)) (by decide) (fun K hK => ?_)
       (have hcv33 := Kd.C_string (P := Try.prog) (A := A0) (c := c0) Try.underlying24 Try.underlying5 Try.underlying9 (Kd.C_below HR0.out below_a))
       refine value_ (w1 := ?_) (v := ?_) (by rfl) rfl ?_ ?_; rotate_left 2
       ·
        go_simp
        constructor
        ·
         rfl
        ·
         rfl
       (try clear hcv33) <;> (try clear hcw33); refine hK.out _ _ ⟨(blk_cell BK163.out 0).trans rfl, (blk_cell BK163.out 1).trans rfl, (blk_cell BK163.out 2).trans rfl⟩ (fun hHeld => ?_); clear hK K; refine norm_ (a' := ?_) ?_ ?_; rotate_left
       ·
        show Act.put _ (some 36) _ = _; simp only [Act.put, List.setIfInBounds_toArray, List.set_cons_zero, List.set_cons_succ, i64_w, i32_w]; rfl
       refine pure_ (i := 5) (N := some 37) (v := ?_) (a' := ?_) #[Y',Y',Y',Y',Y',Y',Y',Z'] rfl rfl (any_of HT_.out (by kernel_rfl)) (fun _ _ _ h => h) (Or.inl ⟨by rfl, ?_⟩) ?_ ?_; rotate_left
       ·
        intro w'
        go_simp
        with_reducible rfl
       rotate_left
       ·
        simp only [Act.put, List.setIfInBounds_toArray, List.set_cons_zero, List.set_cons_succ, i64_w, i32_w]; rfl
       exact norm_ (by first | (simp only [putAll, Act.put, List.setIfInBounds_toArray, List.set_cons_zero, List.set_cons_succ]; done) | (simp only [putAll, Act.put, List.setIfInBounds_toArray, List.set_cons_zero, List.set_cons_succ]; rfl)) (hJ1_2_4_6 (v165) _ ⟨hHeld, (R_a HO166.out), (R_a HO_161000.out), blk_a, blk_a, blk_a, below_a⟩)
     ·
      rintro v165 w30 ⟨hS_, h0_, h1_, h2_, h3_, h4_, h5_⟩
      try dsimp only at hS_ h0_ h1_ h2_ h3_ h4_ h5_
      clear HO_161000 BK154 BK160 BK163 HB; have HO166 := Aside0.mk h0_; have HO_161000 := Aside0.mk h1_; have BK154 := Aside0.mk h2_; have BK160 := Aside0.mk h3_; have BK163 := Aside0.mk h4_; have HB := Aside0.mk h5_; clear h0_ h1_ h2_ h3_ h4_ h5_; have hHeld : w30.cell? ⟨gb163, 0, none⟩ = some (.int .i64 t161) ∧ w30.cell? ⟨gb163, 1, none⟩ = some (.slice Ao7 t155.length co7) ∧ w30.cell? ⟨gb163, 2, none⟩ = some (.int .i64 t162) := hS_; refine norm_ (a' := ?_) ?_ ?_; rotate_left
      ·
       simp only [putAll, Act.put, List.setIfInBounds_toArray, List.set_cons_zero, List.set_cons_succ]; rfl
      refine one_ (i := 6) (N := none) #[Y',Y',Y',Y',Y',Y',Y',Z'] rfl rfl (one_of HT_.out (by kernel_rfl)) (by decide) (fun K hK => ?_); have hs31 : w30.cell? ⟨gb154, 0, none⟩ = some (.int .i64 0) := (blk_cell BK154.out 0).trans rfl; have hfs31 := blk_frozen BK154.out 0; have hns31_1 := NB160_154.out; have hns31_2 := NB163_154.out; have hms31_1 := NB154_160.out; have hms31_2 := NB154_163.out; have hs32 : w30.cell? ⟨gb154, 1, none⟩ = some (.slice none 0 0) := (blk_cell BK154.out 1).trans rfl; have hfs32 := blk_frozen BK154.out 1; have hns32_1 := NB160_154.out; have hns32_2 := NB163_154.out; have hms32_1 := NB154_160.out; have hms32_2 := NB154_163.out; have hs33 : w30.cell? ⟨gb154, 2, none⟩ = some (.int .i64 0) := (blk_cell BK154.out 2).trans rfl; have hfs33 := blk_frozen BK154.out 2; have hns33_1 := NB160_154.out; have hns33_2 := NB163_154.out; have hms33_1 := NB154_160.out; have hms33_2 := NB154_163.out; refine skip_ (w1 := ?_) (by rfl) rfl ?_ ?_; rotate_left
      ·
       go_simp
       rfl
      refine hK.out _ _ ⟨((cell_far (p := ⟨gb154, _, none⟩) NB163_154.out _).trans (((cell_far (p := ⟨gb154, _, none⟩) NB163_154.out _).trans (((cell_far (p := ⟨gb154, _, none⟩) NB163_154.out _).trans (hHeld.1)))))), ((cell_far (p := ⟨gb154, _, none⟩) NB163_154.out _).trans (((cell_far (p := ⟨gb154, _, none⟩) NB163_154.out _).trans (((cell_far (p := ⟨gb154, _, none⟩) NB163_154.out _).trans (hHeld.2.1)))))), ((cell_far (p := ⟨gb154, _, none⟩) NB163_154.out _).trans (((cell_far (p := ⟨gb154, _, none⟩) NB163_154.out _).trans (((cell_far (p := ⟨gb154, _, none⟩) NB163_154.out _).trans (hHeld.2.2))))))⟩ (fun hHeld => ?_); clear hK K; exact norm_ (by first | (simp only [putAll, Act.put, List.setIfInBounds_toArray, List.set_cons_zero, List.set_cons_succ]; done) | (simp only [putAll, Act.put, List.setIfInBounds_toArray, List.set_cons_zero, List.set_cons_succ]; rfl)) (hJ1_2_4_6 (v165) _ ⟨hHeld, (by (with_reducible repeat (first | apply Kd.R_alloc | apply Kd.R_drewN | apply Kd.R_drew)); exact Kd.R_mono (Kd.R_far (p := ⟨gb154, 2, none⟩) (Kd.R_far (p := ⟨gb154, 1, none⟩) (Kd.R_far (p := ⟨gb154, 0, none⟩) (Kd.R_types HO166.out BK154.out (by decide)) (fun _ hk => hk.2) (.int .i64 t161)) (fun _ hk => hk.2) (.slice Ao7 t155.length co7)) (fun _ hk => hk.2) (.int .i64 t162)) (fun _ hk => trivial)), (by (with_reducible repeat (first | apply Kd.R_alloc | apply Kd.R_drewN | apply Kd.R_drew)); exact Kd.R_mono (Kd.R_far (p := ⟨gb154, 2, none⟩) (Kd.R_far (p := ⟨gb154, 1, none⟩) (Kd.R_far (p := ⟨gb154, 0, none⟩) (Kd.R_types HO_161000.out BK154.out (by decide)) (fun _ hk => hk.2) (.int .i64 t161)) (fun _ hk => hk.2) (.slice Ao7 t155.length co7)) (fun _ hk => hk.2) (.int .i64 t162)) (fun _ hk => trivial)), blk_a, blk_a, blk_a, below_a⟩)
    rintro v165 w33 ⟨hS_, h0_, h1_, h2_, h3_, h4_, h5_⟩
    try dsimp only at hS_ h0_ h1_ h2_ h3_ h4_ h5_
    clear HO_161000 BK154 BK160 BK163 HB; have HO166 := Aside0.mk h0_; have HO_161000 := Aside0.mk h1_; have BK154 := Aside0.mk h2_; have BK160 := Aside0.mk h3_; have BK163 := Aside0.mk h4_; have HB := Aside0.mk h5_; clear h0_ h1_ h2_ h3_ h4_ h5_; have hHeld : w33.cell? ⟨gb163, 0, none⟩ = some (.int .i64 t161) ∧ w33.cell? ⟨gb163, 1, none⟩ = some (.slice Ao7 t155.length co7) ∧ w33.cell? ⟨gb163, 2, none⟩ = some (.int .i64 t162) := hS_; refine norm_ (a' := ?_) ?_ ?_; rotate_left
    ·
     simp only [putAll, Act.put, List.setIfInBounds_toArray, List.set_cons_zero, List.set_cons_succ]; rfl
    refine pure_ (i := 7) (N := some 3) (v := ?_) (a' := ?_) #[Y',Y',Y',Y',Y',Y',Y',Y'] rfl rfl (any_of HT_.out (by kernel_rfl)) (fun _ _ _ h => h) (Or.inl ⟨by rfl, ?_⟩) ?_ ?_; rotate_left
    ·
     intro w'
     go_simp
     with_reducible rfl
    rotate_left
    ·
     simp only [Act.put, List.setIfInBounds_toArray, List.set_cons_zero, List.set_cons_succ, i64_w, i32_w]; rfl
    refine done_ (done_of HT_.out (by kernel_rfl)) ?_
    try go_wp2
    refine bodyPost_ret (results_ct rfl _ _ gb154 52 #[.int .i64 t161, .slice Ao7 t155.length co7, .int .i64 t162] (0, 0) _ rfl blk_a Try.underlying52 rfl (by kernel_rfl)) rfl ?_; exact ⟨_, eq_a, R_a HO_161000.out, below_a⟩

/-! ### spec_ReadQuery: function 34 -/
def spec_ReadQuery.j0 : Nat → List Int → Bool → Option (Int × Int × List ByteArray × Int)
 | 0, _, _ => none
 | k + 1, x0, x12 => if x12 = true then (some (2, 0, ([] : List ByteArray), 0)) else ((spec_l10Ask.f k x0).bind fun bt168 => (if bt168.2.2.2 = true then (some (0, bt168.1, bt168.2.1, bt168.2.2.1)) else (some (1, 0, ([] : List ByteArray), 0))))
def spec_ReadQuery.f (k : Nat) (l0 : List Int) : Option (Int × Int × List ByteArray × Int) := if (l0.length : Int) < 12 then (spec_ReadQuery.j0 k l0 true) else (spec_ReadQuery.j0 k l0 (decide ((l0.length : Int) > 300)))
theorem spec_ReadQuery.mono_l : ∀ k, (∀ y0 y1, LeO (spec_ReadQuery.j0 k y0 y1) (spec_ReadQuery.j0 (k + 1) y0 y1))
 | 0 => fun _ _ r h => by simp [spec_ReadQuery.j0] at h
 | k + 1 => by
  have ih0 := spec_ReadQuery.mono_l k
  ·
   intro y0 y1
   unfold spec_ReadQuery.j0
   repeat' first
   | (with_reducible exact ih0 _ _)
   | (with_reducible exact spec_l10Ask.mono _ _)
   | (with_reducible exact LeO.refl _)
   | (with_reducible exact LeO.none _)
   | (with_reducible refine LeO.ite ?_ ?_)
   | (with_reducible refine LeO.bind ?_ (fun _ => ?_))
   | exact ih0 _ _
   | exact spec_l10Ask.mono _ _
   | exact LeO.none _
   | refine LeO.ite ?_ ?_
   | refine LeO.bind ?_ (fun _ => ?_)
theorem spec_ReadQuery.mono : ∀ a0 k, LeO (spec_ReadQuery.f k a0) (spec_ReadQuery.f (k + 1) a0) := by
 intro a0 k
 have ih0 := spec_ReadQuery.mono_l k
 unfold spec_ReadQuery.f
 repeat' first
   | (with_reducible exact ih0 _ _)
   | (with_reducible exact spec_l10Ask.mono _ _)
   | (with_reducible exact LeO.refl _)
   | (with_reducible exact LeO.none _)
   | (with_reducible refine LeO.ite ?_ ?_)
   | (with_reducible refine LeO.bind ?_ (fun _ => ?_))
   | exact ih0 _ _
   | exact spec_l10Ask.mono _ _
   | exact LeO.none _
   | refine LeO.ite ?_ ?_
   | refine LeO.bind ?_ (fun _ => ?_)
set_option maxHeartbeats 8000000 in
set_option maxRecDepth 100000 in
theorem spec_ReadQuery.calls (k : Nat) (A0 : Option Addr) (c0 : Nat) (l0 : List Int) (r1 : Int) (r2 : Int) (r3 : List ByteArray) (r4 : Int) (w : World) (hr0 : Kd.C (Kd.int .u8) w A0 l0.length l0) (hc0 : l0.length ≤ c0) (h : spec_ReadQuery.f k l0 = some (r1, r2, r3, r4)) :
  Calls Try.prog 34 #[.slice A0 l0.length c0] w fun e w' => ∃ v2_ : Value, e = .returned (.agg #[.int .i64 r1, .int .i64 r2, v2_, .int .i64 r4]) ∧ Kd.R Kd.string 9 w' w.heap.size (fun _ => True) v2_ r3 ∧ Below w.heap.size w w' := by
 have hu58 := Try.underlying58
 have hu52 := Try.underlying52
 have HR0 := Aside0.mk hr0
 have HC0 := Aside0.mk hc0
 clear hr0 hc0
 have HB := Aside0.mk (Below.refl w.heap.size w)
 have H : (if (l0.length : Int) < 12 then (spec_ReadQuery.j0 k l0 true) else (spec_ReadQuery.j0 k l0 (decide ((l0.length : Int) > 300)))) = some (r1, r2, r3, r4) := h
 clear h
 have HC2 := Aside0.mk H
 clear H
 go_enter Try.func34, Try.ntmps34
 go_upto_region 1 with (first | ((with_reducible refine gate_dst (N := 2) rfl ?_); (try (refine gate_guard (by rfl) ?_; dsimp only)); refine box_event ?hg (N := 2) ?hd (cs := #[.int .i64 0, .int .i64 0, .slice none 0 0, .int .i64 0]) (t := 58) ?hr ?_; (case hd => rfl); (case hg => rfl); (case hr => first | (go_simp; done) | (go_simp; rfl)); intro gb167 hg w3 hbox hb; have n0_ := Aside0.mk (below_step below_a hb); have BK167 := Aside0.mk (hbox); have GW167 := Aside0.mk (bsz_ (w := w) hg); have GE167 := Aside0.mk (bsz_ (w := w) hg); replace HB := n0_; clear n0_; clear hb hbox hg))
 (try simp only [Act.put, List.setIfInBounds_toArray, List.set_cons_zero, List.set_cons_succ])
 go_cut [12] (fun v12 wc => ∃ (kq : Nat) (x12_1 : Bool), v12 = .bool x12_1 ∧ Aside0 (spec_ReadQuery.j0 kq l0 x12_1 = some (r1, r2, r3, r4)) ∧ Aside0 (kq ≤ k) ∧ Aside0 (wc.heap[gb167]? = some (.cells #[.int .i64 0, .int .i64 0, (.slice none 0 0), .int .i64 0] 58 (0, 0))) ∧ Aside0 (Below w.heap.size w wc))
 case first =>
  have H := HC2.out; clear HC2
  by_cases c4 : (l0.length : Int) < 12
  ·
   rw [if_pos c4] at H; have c4b0 : decide ((l0.length : Int) < 12) = true := decide_eq_true c4; have c4b1 : decide (l0.length < 12) = true := decide_eq_true (by omega); clear c4; (first | rw [c4b0] | (simp only [i64_w, i32_w]; rw [c4b0]) | skip); have H' := Aside0.mk H; clear H
   go_wp2
   go_meet
   case rel => exact ⟨_, (true), eq_b, H', ⟨by first | omega | exact Nat.le_refl _⟩, ⟨blk_a⟩, ⟨below_a⟩⟩
  ·
   rw [if_neg c4] at H; have c4b0 : decide ((l0.length : Int) < 12) = false := decide_eq_false c4; have c4b1 : decide (l0.length < 12) = false := decide_eq_false (by omega); clear c4; (first | rw [c4b0] | (simp only [i64_w, i32_w]; rw [c4b0]) | skip); have H' := Aside0.mk H; clear H
   go_wp2
   go_meet
   case rel => exact ⟨_, (decide ((l0.length : Int) > 300)), eq_b, H', ⟨by first | omega | exact Nat.le_refl _⟩, ⟨blk_a⟩, ⟨below_a⟩⟩
 case rest =>
  clear HC2
  try clear p2
  try clear c3
  try clear c4 c4b0 c4b1
  obtain ⟨kq, x12_1, rfl, HA, HJ1, BK167, HB⟩ := hcut
  cases kq with
  | zero => exact absurd HA.out (by simp [spec_ReadQuery.j0])
  | succ kj1 =>
   have H := HA.out; clear HA; simp only [spec_ReadQuery.j0] at H
   by_cases c5 : x12_1 = true
   ·
    subst c5; have H1 : (some (2, 0, ([] : List ByteArray), 0)) = some (r1, r2, r3, r4) := by rw [if_pos rfl] at H; exact H
    clear H; have H := H1; clear H1; simp only [Option.some.injEq, Prod.mk.injEq] at H; obtain ⟨rfl, rfl, rfl, rfl⟩ := H; obtain ⟨hcz6_0, hcz6_1, hcz6_2, hcz6_3, hfz6_0, hfz6_1, hfz6_2, hfz6_3⟩ := bc4_ BK167.out
    go_wp2
    refine bodyPost_ret (results_cell_row rfl _ _ gb167 58 #[.int .i64 2, .int .i64 0, .slice none 0 0, .int .i64 0] (0, 0) _ rfl (by (with_reducible repeat (first | refine blk_drewN ?_ _ | refine blk_drew ?_ | refine blk_alloc ?_ _)); refine blk_put (cs := #[.int .i64 2, .int .i64 0, .slice none 0 0, .int .i64 0]) ?_ 3 _ rfl; (with_reducible repeat (first | refine blk_drewN ?_ _ | refine blk_drew ?_ | refine blk_alloc ?_ _)); refine blk_put (cs := #[.int .i64 2, .int .i64 0, .slice none 0 0, .int .i64 0]) ?_ 2 _ rfl; (with_reducible repeat (first | refine blk_drewN ?_ _ | refine blk_drew ?_ | refine blk_alloc ?_ _)); refine blk_put (cs := #[.int .i64 2, .int .i64 0, .slice none 0 0, .int .i64 0]) ?_ 1 _ rfl; (with_reducible repeat (first | refine blk_drewN ?_ _ | refine blk_drew ?_ | refine blk_alloc ?_ _)); refine blk_put (cs := #[.int .i64 0, .int .i64 0, .slice none 0 0, .int .i64 0]) ?_ 0 _ rfl; (with_reducible repeat (first | refine blk_drewN ?_ _ | refine blk_drew ?_ | refine blk_alloc ?_ _)); exact BK167.out) Try.underlying58 rfl (by kernel_rfl)) rfl ?_; exact ⟨_, eq_a, by first | exact Kd.R_nil _ _ _ _ _ | exact Kd.N_nil _ _ _ _ _ | exact Kd.V_nil _ _ _ _ _ | exact Kd.Q_nil _ _ _ _ _ | exact Kd.S_nil _ _ _ _ _, below_a⟩
   ·
    replace c5 := Bool.eq_false_iff.mpr c5; subst c5; have H1 : ((spec_l10Ask.f kj1 l0).bind fun bt168 => (if bt168.2.2.2 = true then (some (0, bt168.1, bt168.2.1, bt168.2.2.1)) else (some (1, 0, ([] : List ByteArray), 0)))) = some (r1, r2, r3, r4) := by rw [if_neg (show ¬ (false = true) by decide)] at H; exact H
    clear H; have H := H1; clear H1; replace H := Option.bind_eq_some_iff.mp H; obtain ⟨⟨t168, t169, t172, t173⟩, A70, H⟩ := H; replace H : (if t173 = true then (some (0, t168, t169, t172)) else (some (1, 0, ([] : List ByteArray), 0))) = some (r1, r2, r3, r4) := H; have A7 := Aside0.mk A70; clear A70
    by_cases c8 : t173 = true
    ·
     subst c8; have H1 : (some (0, t168, t169, t172)) = some (r1, r2, r3, r4) := by rw [if_pos rfl] at H; exact H
     clear H; have H := H1; clear H1; simp only [Option.some.injEq, Prod.mk.injEq] at H; obtain ⟨rfl, rfl, rfl, rfl⟩ := H
     go_wp2_with (first | ((with_reducible refine gate_callee (f := 59) rfl ?_); refine goesL_ (some 16) rfl rfl Try.func59 (by kernel_rfl) rfl #[.slice A0 l0.length c0] rfl args_a ?_; (with_reducible refine (spec_l10Ask.calls kj1 _ _ l0 t168 t169 t172 true _ ?side1 ?side2 A7.out).mono ?_); (case side1 => repeat (first | exact (Kd.C_below HR0.out HB.out) | (with_reducible refine Kd.C_alloc ?_ _) | (with_reducible refine Kd.C_drewN ?_ _) | (with_reducible refine Kd.C_drew ?_))); (case side2 => exact HC0.out); rintro e w9 ⟨v170, rfl, ho0, hb⟩; refine ⟨_, rfl, ?_⟩; have HO171 := Aside0.mk (Kd.R_lower ho0 (below_size below_a)); replace BK167 := Aside0.mk (blk_below (g := gb167) blk_c hb); replace HB := Aside0.mk (below_step below_a hb); (try clear hb); (try clear hb2); (try clear hk); (try clear hi); (try clear ho0)) | ((with_reducible refine gate_dst (N := 3) rfl ?_); (try (refine gate_guard (by rfl) ?_; dsimp only)); refine box_event ?hg (N := 3) ?hd (cs := #[.int .i64 0, .slice none 0 0, .int .i64 0]) (t := 52) ?hr ?_; (case hd => rfl); (case hg => rfl); (case hr => first | (go_simp; done) | (go_simp; rfl)); intro gb174 hg w10 hbox hb; replace HO171 := Aside0.mk (Kd.R_below (R_a HO171.out) hb); have n1_ := Aside0.mk (blk_below (g := gb167) blk_c hb); have n2_ := Aside0.mk (below_step below_a hb); have BK174 := Aside0.mk (hbox); have GW174 := Aside0.mk (bsz_ (w := w) hg); have GE174 := Aside0.mk (bsz_ (w := w) hg); have NB167_174 := Aside0.mk (bne_ (g := gb167) hg); have NB174_167 := Aside0.mk (bne_ (g := gb167) hg).symm; replace BK167 := n1_; replace HB := n2_; clear n1_ n2_; clear hb hbox hg; have hnb11 := NB174_167.out; have hnc11 := NB167_174.out; obtain ⟨hcz12_0, hcz12_1, hcz12_2, hfz12_0, hfz12_1, hfz12_2⟩ := bc3_ BK174.out; obtain ⟨Ao13, co13, eo13⟩ := Kd.R_slice HO171.out; subst eo13; obtain ⟨hcz14_0, hcz14_1, hcz14_2, hcz14_3, hfz14_0, hfz14_1, hfz14_2, hfz14_3⟩ := bc4_ BK167.out))
     refine bodyPost_ret (results_cell_row rfl _ _ gb167 58 #[.int .i64 0, .int .i64 t168, .slice Ao13 t169.length co13, .int .i64 t172] (0, 0) _ rfl (by (with_reducible repeat (first | refine blk_drewN ?_ _ | refine blk_drew ?_ | refine blk_alloc ?_ _)); refine blk_put (cs := #[.int .i64 0, .int .i64 t168, .slice Ao13 t169.length co13, .int .i64 0]) ?_ 3 _ rfl; (with_reducible repeat (first | refine blk_drewN ?_ _ | refine blk_drew ?_ | refine blk_alloc ?_ _)); refine blk_put (cs := #[.int .i64 0, .int .i64 t168, .slice none 0 0, .int .i64 0]) ?_ 2 _ rfl; (with_reducible repeat (first | refine blk_drewN ?_ _ | refine blk_drew ?_ | refine blk_alloc ?_ _)); refine blk_put (cs := #[.int .i64 0, .int .i64 0, .slice none 0 0, .int .i64 0]) ?_ 1 _ rfl; (with_reducible repeat (first | refine blk_drewN ?_ _ | refine blk_drew ?_ | refine blk_alloc ?_ _)); refine blk_put (cs := #[.int .i64 0, .int .i64 0, .slice none 0 0, .int .i64 0]) ?_ 0 _ rfl; (with_reducible repeat (first | refine blk_drewN ?_ _ | refine blk_drew ?_ | refine blk_alloc ?_ _)); refine blk_far ?_ NB167_174.out _; (with_reducible repeat (first | refine blk_drewN ?_ _ | refine blk_drew ?_ | refine blk_alloc ?_ _)); refine blk_far ?_ NB167_174.out _; (with_reducible repeat (first | refine blk_drewN ?_ _ | refine blk_drew ?_ | refine blk_alloc ?_ _)); refine blk_far ?_ NB167_174.out _; (with_reducible repeat (first | refine blk_drewN ?_ _ | refine blk_drew ?_ | refine blk_alloc ?_ _)); exact BK167.out) Try.underlying58 rfl (by kernel_rfl)) rfl ?_; exact ⟨_, eq_a, by (with_reducible repeat (first | apply Kd.R_alloc | apply Kd.R_drewN | apply Kd.R_drew)); exact Kd.R_mono (Kd.R_far (p := ⟨gb167, 3, none⟩) (Kd.R_far (p := ⟨gb167, 2, none⟩) (Kd.R_far (p := ⟨gb167, 1, none⟩) (Kd.R_far (p := ⟨gb167, 0, none⟩) (Kd.R_far (p := ⟨gb174, 2, none⟩) (Kd.R_far (p := ⟨gb174, 1, none⟩) (Kd.R_far (p := ⟨gb174, 0, none⟩) (Kd.R_types (Kd.R_types HO171.out BK174.out (by decide)) BK167.out (by decide)) (fun _ hk => hk.1.2) (.int .i64 t168)) (fun _ hk => hk.1.2) (.slice Ao13 t169.length co13)) (fun _ hk => hk.1.2) (.int .i64 t172)) (fun _ hk => hk.2) (.int .i64 0)) (fun _ hk => hk.2) (.int .i64 t168)) (fun _ hk => hk.2) (.slice Ao13 t169.length co13)) (fun _ hk => hk.2) (.int .i64 t172)) (fun _ hk => trivial), below_a⟩
    ·
     replace c8 := Bool.eq_false_iff.mpr c8; subst c8; have H1 : (some (1, 0, ([] : List ByteArray), 0)) = some (r1, r2, r3, r4) := by rw [if_neg (show ¬ (false = true) by decide)] at H; exact H
     clear H; have H := H1; clear H1; simp only [Option.some.injEq, Prod.mk.injEq] at H; obtain ⟨rfl, rfl, rfl, rfl⟩ := H
     go_wp2_with (first | ((with_reducible refine gate_callee (f := 59) rfl ?_); refine goesL_ (some 16) rfl rfl Try.func59 (by kernel_rfl) rfl #[.slice A0 l0.length c0] rfl args_a ?_; (with_reducible refine (spec_l10Ask.calls kj1 _ _ l0 t168 t169 t172 false _ ?side1 ?side2 A7.out).mono ?_); (case side1 => repeat (first | exact (Kd.C_below HR0.out HB.out) | (with_reducible refine Kd.C_alloc ?_ _) | (with_reducible refine Kd.C_drewN ?_ _) | (with_reducible refine Kd.C_drew ?_))); (case side2 => exact HC0.out); rintro e w15 ⟨v170, rfl, ho0, hb⟩; refine ⟨_, rfl, ?_⟩; have HO171 := Aside0.mk (Kd.R_lower ho0 (below_size below_a)); replace BK167 := Aside0.mk (blk_below (g := gb167) blk_c hb); replace HB := Aside0.mk (below_step below_a hb); (try clear hb); (try clear hb2); (try clear hk); (try clear hi); (try clear ho0)) | ((with_reducible refine gate_dst (N := 3) rfl ?_); (try (refine gate_guard (by rfl) ?_; dsimp only)); refine box_event ?hg (N := 3) ?hd (cs := #[.int .i64 0, .slice none 0 0, .int .i64 0]) (t := 52) ?hr ?_; (case hd => rfl); (case hg => rfl); (case hr => first | (go_simp; done) | (go_simp; rfl)); intro gb174 hg w16 hbox hb; replace HO171 := Aside0.mk (Kd.R_below (R_a HO171.out) hb); have n1_ := Aside0.mk (blk_below (g := gb167) blk_c hb); have n2_ := Aside0.mk (below_step below_a hb); have BK174 := Aside0.mk (hbox); have GW174 := Aside0.mk (bsz_ (w := w) hg); have GE174 := Aside0.mk (bsz_ (w := w) hg); have NB167_174 := Aside0.mk (bne_ (g := gb167) hg); have NB174_167 := Aside0.mk (bne_ (g := gb167) hg).symm; replace BK167 := n1_; replace HB := n2_; clear n1_ n2_; clear hb hbox hg; have hnb17 := NB174_167.out; have hnc17 := NB167_174.out; obtain ⟨hcz18_0, hcz18_1, hcz18_2, hfz18_0, hfz18_1, hfz18_2⟩ := bc3_ BK174.out; obtain ⟨Ao19, co19, eo19⟩ := Kd.R_slice HO171.out; subst eo19; obtain ⟨hcz20_0, hcz20_1, hcz20_2, hcz20_3, hfz20_0, hfz20_1, hfz20_2, hfz20_3⟩ := bc4_ BK167.out))
     refine bodyPost_ret (results_cell_row rfl _ _ gb167 58 #[.int .i64 1, .int .i64 0, .slice none 0 0, .int .i64 0] (0, 0) _ rfl (by (with_reducible repeat (first | refine blk_drewN ?_ _ | refine blk_drew ?_ | refine blk_alloc ?_ _)); refine blk_put (cs := #[.int .i64 1, .int .i64 0, .slice none 0 0, .int .i64 0]) ?_ 3 _ rfl; (with_reducible repeat (first | refine blk_drewN ?_ _ | refine blk_drew ?_ | refine blk_alloc ?_ _)); refine blk_put (cs := #[.int .i64 1, .int .i64 0, .slice none 0 0, .int .i64 0]) ?_ 2 _ rfl; (with_reducible repeat (first | refine blk_drewN ?_ _ | refine blk_drew ?_ | refine blk_alloc ?_ _)); refine blk_put (cs := #[.int .i64 1, .int .i64 0, .slice none 0 0, .int .i64 0]) ?_ 1 _ rfl; (with_reducible repeat (first | refine blk_drewN ?_ _ | refine blk_drew ?_ | refine blk_alloc ?_ _)); refine blk_put (cs := #[.int .i64 0, .int .i64 0, .slice none 0 0, .int .i64 0]) ?_ 0 _ rfl; (with_reducible repeat (first | refine blk_drewN ?_ _ | refine blk_drew ?_ | refine blk_alloc ?_ _)); refine blk_far ?_ NB167_174.out _; (with_reducible repeat (first | refine blk_drewN ?_ _ | refine blk_drew ?_ | refine blk_alloc ?_ _)); refine blk_far ?_ NB167_174.out _; (with_reducible repeat (first | refine blk_drewN ?_ _ | refine blk_drew ?_ | refine blk_alloc ?_ _)); refine blk_far ?_ NB167_174.out _; (with_reducible repeat (first | refine blk_drewN ?_ _ | refine blk_drew ?_ | refine blk_alloc ?_ _)); exact BK167.out) Try.underlying58 rfl (by kernel_rfl)) rfl ?_; exact ⟨_, eq_a, by first | exact Kd.R_nil _ _ _ _ _ | exact Kd.N_nil _ _ _ _ _ | exact Kd.V_nil _ _ _ _ _ | exact Kd.Q_nil _ _ _ _ _ | exact Kd.S_nil _ _ _ _ _, below_a⟩

/-! ### impl_in: function 47 -/
def impl_in.f (a0 : Int) (a1 : Int) (a2 : Int) : Option (Bool) := if a0 ≥ a1 then (some (decide (a0 ≤ a2))) else (some false)
set_option maxHeartbeats 8000000 in
set_option maxRecDepth 100000 in
theorem impl_in.calls (a0 : Int) (a1 : Int) (a2 : Int) (r : Bool) (w : World) (h : impl_in.f a0 a1 a2 = some r) :
  Calls Try.prog 47 #[.int .i64 a0, .int .i64 a1, .int .i64 a2] w fun e w' => e = .returned (.bool r) ∧ Drawn0 w w' := by
 have H : (if a0 ≥ a1 then (some (decide (a0 ≤ a2))) else (some false)) = some r := h
 clear h
 by_cases c4 : a0 ≥ a1
 ·
  rw [if_pos c4] at H; have c4b0 : decide (a1 ≤ a0) = true := decide_eq_true c4; clear c4; obtain rfl := Option.some.inj H
  go_enter Try.func47, Try.ntmps47
  go_wp2
  go_ret
  exact ⟨eq_b, by repeat (first | exact Drawn0.refl _ | apply Drawn0.step)⟩
 ·
  rw [if_neg c4] at H; have c4b0 : decide (a1 ≤ a0) = false := decide_eq_false c4; clear c4; obtain rfl := Option.some.inj H
  go_enter Try.func47, Try.ntmps47
  go_wp2
  go_ret
  exact ⟨eq_b, by repeat (first | exact Drawn0.refl _ | apply Drawn0.step)⟩

/-! ### impl_isLabel: function 42 -/
def impl_isLabel.l0 : Nat → ByteArray → Int → Int → Option (Bool)
 | 0, _, _, _ => none
 | k + 1, x0, x6, x7 => if x7 < x6 then (if 0 ≤ x7 then (if x7 < (x0.size : Int) then (if (bt x0 x7) < 97 then (if (bt x0 x7) < 48 then (if (bt x0 x7) = 45 then (impl_isLabel.l0 k x0 x6 (wrap64 (x7 + 1))) else (some false)) else (if (bt x0 x7) > 57 then (if (bt x0 x7) = 45 then (impl_isLabel.l0 k x0 x6 (wrap64 (x7 + 1))) else (some false)) else (impl_isLabel.l0 k x0 x6 (wrap64 (x7 + 1))))) else (if (bt x0 x7) > 122 then (if (bt x0 x7) < 48 then (if (bt x0 x7) = 45 then (impl_isLabel.l0 k x0 x6 (wrap64 (x7 + 1))) else (some false)) else (if (bt x0 x7) > 57 then (if (bt x0 x7) = 45 then (impl_isLabel.l0 k x0 x6 (wrap64 (x7 + 1))) else (some false)) else (impl_isLabel.l0 k x0 x6 (wrap64 (x7 + 1))))) else (impl_isLabel.l0 k x0 x6 (wrap64 (x7 + 1))))) else (none)) else (none)) else ((impl_in.f (x0.size : Int) 1 20).bind fun t175 => (some t175))
def impl_isLabel.f (k : Nat) (a0 : ByteArray) : Option (Bool) := impl_isLabel.l0 k a0 (a0.size : Int) 0
theorem impl_isLabel.mono_l : ∀ k, (∀ y0 y1 y2, LeO (impl_isLabel.l0 k y0 y1 y2) (impl_isLabel.l0 (k + 1) y0 y1 y2))
 | 0 => fun _ _ _ r h => by simp [impl_isLabel.l0] at h
 | k + 1 => by
  have ih0 := impl_isLabel.mono_l k
  ·
   intro y0 y1 y2
   unfold impl_isLabel.l0
   repeat' first
   | (with_reducible exact ih0 _ _ _)
   | (with_reducible exact LeO.refl _)
   | (with_reducible exact LeO.none _)
   | (with_reducible refine LeO.ite ?_ ?_)
   | (with_reducible refine LeO.bind ?_ (fun _ => ?_))
   | exact ih0 _ _ _
   | exact LeO.none _
   | refine LeO.ite ?_ ?_
   | refine LeO.bind ?_ (fun _ => ?_)
theorem impl_isLabel.mono : ∀ a0 k, LeO (impl_isLabel.f k a0) (impl_isLabel.f (k + 1) a0) := by
 intro a0 k
 have ih0 := impl_isLabel.mono_l k
 unfold impl_isLabel.f
 repeat' first
   | (with_reducible exact ih0 _ _ _)
   | (with_reducible exact LeO.refl _)
   | (with_reducible exact LeO.none _)
   | (with_reducible refine LeO.ite ?_ ?_)
   | (with_reducible refine LeO.bind ?_ (fun _ => ?_))
   | exact ih0 _ _ _
   | exact LeO.none _
   | refine LeO.ite ?_ ?_
   | refine LeO.bind ?_ (fun _ => ?_)
set_option maxHeartbeats 8000000 in
set_option maxRecDepth 100000 in
theorem impl_isLabel.calls (k : Nat) (a0 : ByteArray) (r : Bool) (w : World) (h : impl_isLabel.f k a0 = some r) :
  Calls Try.prog 42 #[.string a0] w fun e w' => e = .returned (.bool r) ∧ Drawn0 w w' := by
 have H : (impl_isLabel.l0 k a0 (a0.size : Int) 0) = some r := h
 clear h
 have H' := Aside0.mk H
 clear H
 go_enter Try.func42, Try.ntmps42
 go_wp2
 go_loopg [7] k (fun kq v7 w' => ∃ (x7_1 : Int), v7 = .int .i64 x7_1 ∧ Aside0 (impl_isLabel.l0 kq a0 (a0.size : Int) x7_1 = some r) ∧ Aside0 (kq ≤ k) ∧ Drawn0 w w')
 case atStart => exact ⟨(0), eq_b, H', ⟨Nat.le_refl _⟩, by repeat (first | exact Drawn0.refl _ | apply Drawn0.step)⟩
 case round =>
  clear H'; obtain ⟨x7_1, rfl, HA, HK1, ⟨m1, rfl⟩⟩ := hrel
  cases gk with
  | zero => exact absurd HA.out (by simp [impl_isLabel.l0])
  | succ k1 =>
   have H := HA.out; clear HA; simp only [impl_isLabel.l0] at H
   by_cases c2 : x7_1 < (a0.size : Int)
   ·
    rw [if_pos c2] at H; have c2b0 : decide (x7_1 < (a0.size : Int)) = true := decide_eq_true c2; clear c2
    by_cases c3 : 0 ≤ x7_1
    ·
     rw [if_pos c3] at H; have c3b0 : decide (0 ≤ x7_1) = true := decide_eq_true c3; clear c3
     by_cases c4 : x7_1 < (a0.size : Int)
     ·
      rw [if_pos c4] at H; have c4b0 : decide (x7_1 < (a0.size : Int)) = true := decide_eq_true c4; clear c4
      by_cases c6 : (bt a0 x7_1) < 97
      ·
       rw [if_pos c6] at H; have c6b0 : decide ((bt a0 x7_1) < 97) = true := decide_eq_true c6; clear c6
       by_cases c7 : (bt a0 x7_1) < 48
       ·
        rw [if_pos c7] at H; have c7b0 : decide ((bt a0 x7_1) < 48) = true := decide_eq_true c7; clear c7
        by_cases c8 : (bt a0 x7_1) = 45
        ·
         rw [if_pos c8] at H; have c8b0 : ((bt a0 x7_1) == 45) = true := beq_iff_eq.mpr c8; have c8b1 : ((bt a0 x7_1) != 45) = false := bne_eq_false_iff_eq.mpr c8; clear c8; have H' := Aside0.mk H; clear H; have p5 : 0 ≤ (x7_1 : Int) := of_decide_eq_true (by first | (with_reducible assumption) | assumption); have q5 : x7_1 < (a0.size : Int) := of_decide_eq_true (by first | (with_reducible assumption) | assumption); have hx5 := bt_at a0 x7_1; replace p5 := eq_true p5; replace q5 := eq_true q5
         go_wp2
         go_roundg k1
         case measure => have := HK1.out; omega
         case rel => exact ⟨(wrap64 (x7_1 + 1)), eq_b, H', ⟨by have := HK1.out; omega⟩, by repeat (first | exact Drawn0.refl _ | apply Drawn0.step)⟩
        ·
         rw [if_neg c8] at H; have c8b0 : ((bt a0 x7_1) == 45) = false := beq_eq_false_iff_ne.mpr c8; have c8b1 : ((bt a0 x7_1) != 45) = true := bne_iff_ne.mpr c8; obtain rfl := Option.some.inj H; have p5 : 0 ≤ (x7_1 : Int) := of_decide_eq_true (by first | (with_reducible assumption) | assumption); have q5 : x7_1 < (a0.size : Int) := of_decide_eq_true (by first | (with_reducible assumption) | assumption); have hx5 := bt_at a0 x7_1; replace p5 := eq_true p5; replace q5 := eq_true q5
         go_wp2
         go_ret
         exact ⟨eq_b, by repeat (first | exact Drawn0.refl _ | apply Drawn0.step)⟩
       ·
        rw [if_neg c7] at H; have c7b0 : decide ((bt a0 x7_1) < 48) = false := decide_eq_false c7; clear c7
        by_cases c9 : (bt a0 x7_1) > 57
        ·
         rw [if_pos c9] at H; have c9b0 : decide (57 < (bt a0 x7_1)) = true := decide_eq_true c9; clear c9
         by_cases c10 : (bt a0 x7_1) = 45
         ·
          rw [if_pos c10] at H; have c10b0 : ((bt a0 x7_1) == 45) = true := beq_iff_eq.mpr c10; have c10b1 : ((bt a0 x7_1) != 45) = false := bne_eq_false_iff_eq.mpr c10; clear c10; have H' := Aside0.mk H; clear H; have p5 : 0 ≤ (x7_1 : Int) := of_decide_eq_true (by first | (with_reducible assumption) | assumption); have q5 : x7_1 < (a0.size : Int) := of_decide_eq_true (by first | (with_reducible assumption) | assumption); have hx5 := bt_at a0 x7_1; replace p5 := eq_true p5; replace q5 := eq_true q5
          go_wp2
          go_roundg k1
          case measure => have := HK1.out; omega
          case rel => exact ⟨(wrap64 (x7_1 + 1)), eq_b, H', ⟨by have := HK1.out; omega⟩, by repeat (first | exact Drawn0.refl _ | apply Drawn0.step)⟩
         ·
          rw [if_neg c10] at H; have c10b0 : ((bt a0 x7_1) == 45) = false := beq_eq_false_iff_ne.mpr c10; have c10b1 : ((bt a0 x7_1) != 45) = true := bne_iff_ne.mpr c10; obtain rfl := Option.some.inj H; have p5 : 0 ≤ (x7_1 : Int) := of_decide_eq_true (by first | (with_reducible assumption) | assumption); have q5 : x7_1 < (a0.size : Int) := of_decide_eq_true (by first | (with_reducible assumption) | assumption); have hx5 := bt_at a0 x7_1; replace p5 := eq_true p5; replace q5 := eq_true q5
          go_wp2
          go_ret
          exact ⟨eq_b, by repeat (first | exact Drawn0.refl _ | apply Drawn0.step)⟩
        ·
         rw [if_neg c9] at H; have c9b0 : decide (57 < (bt a0 x7_1)) = false := decide_eq_false c9; clear c9; have H' := Aside0.mk H; clear H; have p5 : 0 ≤ (x7_1 : Int) := of_decide_eq_true (by first | (with_reducible assumption) | assumption); have q5 : x7_1 < (a0.size : Int) := of_decide_eq_true (by first | (with_reducible assumption) | assumption); have hx5 := bt_at a0 x7_1; replace p5 := eq_true p5; replace q5 := eq_true q5
         go_wp2
         go_roundg k1
         case measure => have := HK1.out; omega
         case rel => exact ⟨(wrap64 (x7_1 + 1)), eq_b, H', ⟨by have := HK1.out; omega⟩, by repeat (first | exact Drawn0.refl _ | apply Drawn0.step)⟩
      ·
       rw [if_neg c6] at H; have c6b0 : decide ((bt a0 x7_1) < 97) = false := decide_eq_false c6; clear c6
       by_cases c11 : (bt a0 x7_1) > 122
       ·
        rw [if_pos c11] at H; have c11b0 : decide (122 < (bt a0 x7_1)) = true := decide_eq_true c11; clear c11
        by_cases c12 : (bt a0 x7_1) < 48
        ·
         rw [if_pos c12] at H; have c12b0 : decide ((bt a0 x7_1) < 48) = true := decide_eq_true c12; clear c12
         by_cases c13 : (bt a0 x7_1) = 45
         ·
          rw [if_pos c13] at H; have c13b0 : ((bt a0 x7_1) == 45) = true := beq_iff_eq.mpr c13; have c13b1 : ((bt a0 x7_1) != 45) = false := bne_eq_false_iff_eq.mpr c13; clear c13; have H' := Aside0.mk H; clear H; have p5 : 0 ≤ (x7_1 : Int) := of_decide_eq_true (by first | (with_reducible assumption) | assumption); have q5 : x7_1 < (a0.size : Int) := of_decide_eq_true (by first | (with_reducible assumption) | assumption); have hx5 := bt_at a0 x7_1; replace p5 := eq_true p5; replace q5 := eq_true q5
          go_wp2
          go_roundg k1
          case measure => have := HK1.out; omega
          case rel => exact ⟨(wrap64 (x7_1 + 1)), eq_b, H', ⟨by have := HK1.out; omega⟩, by repeat (first | exact Drawn0.refl _ | apply Drawn0.step)⟩
         ·
          rw [if_neg c13] at H; have c13b0 : ((bt a0 x7_1) == 45) = false := beq_eq_false_iff_ne.mpr c13; have c13b1 : ((bt a0 x7_1) != 45) = true := bne_iff_ne.mpr c13; obtain rfl := Option.some.inj H; have p5 : 0 ≤ (x7_1 : Int) := of_decide_eq_true (by first | (with_reducible assumption) | assumption); have q5 : x7_1 < (a0.size : Int) := of_decide_eq_true (by first | (with_reducible assumption) | assumption); have hx5 := bt_at a0 x7_1; replace p5 := eq_true p5; replace q5 := eq_true q5
          go_wp2
          go_ret
          exact ⟨eq_b, by repeat (first | exact Drawn0.refl _ | apply Drawn0.step)⟩
        ·
         rw [if_neg c12] at H; have c12b0 : decide ((bt a0 x7_1) < 48) = false := decide_eq_false c12; clear c12
         by_cases c14 : (bt a0 x7_1) > 57
         ·
          rw [if_pos c14] at H; have c14b0 : decide (57 < (bt a0 x7_1)) = true := decide_eq_true c14; clear c14
          by_cases c15 : (bt a0 x7_1) = 45
          ·
           rw [if_pos c15] at H; have c15b0 : ((bt a0 x7_1) == 45) = true := beq_iff_eq.mpr c15; have c15b1 : ((bt a0 x7_1) != 45) = false := bne_eq_false_iff_eq.mpr c15; clear c15; have H' := Aside0.mk H; clear H; have p5 : 0 ≤ (x7_1 : Int) := of_decide_eq_true (by first | (with_reducible assumption) | assumption); have q5 : x7_1 < (a0.size : Int) := of_decide_eq_true (by first | (with_reducible assumption) | assumption); have hx5 := bt_at a0 x7_1; replace p5 := eq_true p5; replace q5 := eq_true q5
           go_wp2
           go_roundg k1
           case measure => have := HK1.out; omega
           case rel => exact ⟨(wrap64 (x7_1 + 1)), eq_b, H', ⟨by have := HK1.out; omega⟩, by repeat (first | exact Drawn0.refl _ | apply Drawn0.step)⟩
          ·
           rw [if_neg c15] at H; have c15b0 : ((bt a0 x7_1) == 45) = false := beq_eq_false_iff_ne.mpr c15; have c15b1 : ((bt a0 x7_1) != 45) = true := bne_iff_ne.mpr c15; obtain rfl := Option.some.inj H; have p5 : 0 ≤ (x7_1 : Int) := of_decide_eq_true (by first | (with_reducible assumption) | assumption); have q5 : x7_1 < (a0.size : Int) := of_decide_eq_true (by first | (with_reducible assumption) | assumption); have hx5 := bt_at a0 x7_1; replace p5 := eq_true p5; replace q5 := eq_true q5
           go_wp2
           go_ret
           exact ⟨eq_b, by repeat (first | exact Drawn0.refl _ | apply Drawn0.step)⟩
         ·
          rw [if_neg c14] at H; have c14b0 : decide (57 < (bt a0 x7_1)) = false := decide_eq_false c14; clear c14; have H' := Aside0.mk H; clear H; have p5 : 0 ≤ (x7_1 : Int) := of_decide_eq_true (by first | (with_reducible assumption) | assumption); have q5 : x7_1 < (a0.size : Int) := of_decide_eq_true (by first | (with_reducible assumption) | assumption); have hx5 := bt_at a0 x7_1; replace p5 := eq_true p5; replace q5 := eq_true q5
          go_wp2
          go_roundg k1
          case measure => have := HK1.out; omega
          case rel => exact ⟨(wrap64 (x7_1 + 1)), eq_b, H', ⟨by have := HK1.out; omega⟩, by repeat (first | exact Drawn0.refl _ | apply Drawn0.step)⟩
       ·
        rw [if_neg c11] at H; have c11b0 : decide (122 < (bt a0 x7_1)) = false := decide_eq_false c11; clear c11; have H' := Aside0.mk H; clear H; have p5 : 0 ≤ (x7_1 : Int) := of_decide_eq_true (by first | (with_reducible assumption) | assumption); have q5 : x7_1 < (a0.size : Int) := of_decide_eq_true (by first | (with_reducible assumption) | assumption); have hx5 := bt_at a0 x7_1; replace p5 := eq_true p5; replace q5 := eq_true q5
        go_wp2
        go_roundg k1
        case measure => have := HK1.out; omega
        case rel => exact ⟨(wrap64 (x7_1 + 1)), eq_b, H', ⟨by have := HK1.out; omega⟩, by repeat (first | exact Drawn0.refl _ | apply Drawn0.step)⟩
     ·
      rw [if_neg c4] at H; exact absurd H (by simp)
    ·
     rw [if_neg c3] at H; exact absurd H (by simp)
   ·
    rw [if_neg c2] at H; have c2b0 : decide (x7_1 < (a0.size : Int)) = false := decide_eq_false c2; clear c2; replace H := Option.bind_eq_some_iff.mp H; obtain ⟨t175, A160, H⟩ := H; replace H : (some t175) = some r := H; have A16 := Aside0.mk A160; clear A160; obtain rfl := Option.some.inj H
    go_wp2_with (first | ((with_reducible refine gate_callee (f := 47) rfl ?_); refine goesL_ (some 34) rfl rfl Try.func47 (by kernel_rfl) rfl #[.int .i64 (a0.size : Int), .int .i64 1, .int .i64 20] rfl args_a ?_; (with_reducible refine (impl_in.calls (a0.size : Int) 1 20 t175 _ A16.out).mono ?_); rintro e w' ⟨rfl, ⟨nd, rfl⟩⟩; refine ⟨_, rfl, ?_⟩))
    go_ret
    exact ⟨eq_b, by repeat (first | exact Drawn0.refl _ | apply Drawn0.step)⟩

end Go.Proofs.Ytllkeaghjacalaa.MFnExactReadQuery
