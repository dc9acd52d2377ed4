-- Laid by a program of this session (the kit's print, turned where it falls short; the texts of functions that it does not take are proved by hand).
import Derived.Test.YtejodgcojcombaaMFnExactMergeViewsx0
import Derived.Test.YtejodgcojcombaaMFnExactMergeViewsx2
namespace Go.Proofs.Ytejodgcojcombaa.MFnExactMergeViews
open Go.RowKit Go.Proofs.YtejodgcojcombaaW.PrintWords Go.Proofs.YtejodgcojcombaaW.PrintLast Go.Proofs.YtejodgcojcombaaW.PrintMore
attribute [local go_sem] max2_int min2_int max_two min_two max_three min_three max_four min_four   -- for this text's walks alone
set_option linter.unusedVariables false
set_option linter.unusedSimpArgs false

attribute [local go_sem] isSome_setCell
/-! ### spec_l8Merge: function 30 -/
def spec_l8Merge.l0 : Nat → List (S31) → List (S31) → Bool → Int → Int → Int → Int → Int → Option ((List (S31)) × Bool)
 | 0, _, _, _, _, _, _, _, _ => none
 | k + 1, x0, x8, x9, x10, x153000, x153001, x153002, x153003 => if x10 < (x0.length : Int) then (if x9 = true then (if 0 ≤ x10 then (if x8.length < 4398046511104 then (spec_l8Merge.l0 k x0 (x8 ++ [(⟨(rd_T31 x0 x10).f0, (rd_T31 x0 x10).f1, (rd_T31 x0 x10).f2, (rd_T31 x0 x10).f3⟩ : S31)]) x9 (wrap64 (x10 + 1)) x153000 x153001 x153002 x153003) else (none)) else (none)) else (if 0 ≤ x10 then (if ((rd_T31 x0 x10).f0) > x153000 then (if x8.length < 4398046511104 then ((some (x8 ++ [(⟨x153000, x153001, x153002, x153003⟩ : S31)] : List (S31))).bind fun y168 => (if y168.length < 4398046511104 then (spec_l8Merge.l0 k x0 (y168 ++ [(⟨(rd_T31 x0 x10).f0, (rd_T31 x0 x10).f1, (rd_T31 x0 x10).f2, (rd_T31 x0 x10).f3⟩ : S31)]) true (wrap64 (x10 + 1)) x153000 x153001 x153002 x153003) else (none))) else (none)) else (if x8.length < 4398046511104 then (spec_l8Merge.l0 k x0 (x8 ++ [(⟨(rd_T31 x0 x10).f0, (rd_T31 x0 x10).f1, (rd_T31 x0 x10).f2, (rd_T31 x0 x10).f3⟩ : S31)]) x9 (wrap64 (x10 + 1)) x153000 x153001 x153002 x153003) else (none))) else (none))) else (if x9 = true then (some (x8, true)) else (if x8.length < 4398046511104 then (some ((x8 ++ [(⟨x153000, x153001, x153002, x153003⟩ : S31)]), true)) else (none)))
def spec_l8Merge.f (k : Nat) (l0 : List (S31)) (a1_0 : Int) (a1_1 : Int) (a1_2 : Int) (a1_3 : Int) : Option ((List (S31)) × Bool) := (spec_l8Find.f k l0 a1_0).bind fun t153 => (if t153 ≥ 0 then ((spec_l8Copy.f l0).bind fun t154 => (if 0 ≤ t153 then (if t153 < (l0.length : Int) then ((spec_Beats.f a1_0 a1_1 a1_2 a1_3 ((rd_T31 l0 t153).f0) ((rd_T31 l0 t153).f1) ((rd_T31 l0 t153).f2) ((rd_T31 l0 t153).f3)).bind fun t158 => (if t158 = true then (if t153 < (t154.length : Int) then (some ((t154.set (t153 : Int).toNat (⟨a1_0, a1_1, a1_2, a1_3⟩ : S31)), true)) else (none)) else (some (t154, false)))) else (none)) else (none))) else (spec_l8Merge.l0 k l0 (([] : List (S31))) false 0 a1_0 a1_1 a1_2 a1_3))
theorem spec_l8Merge.mono_l : ∀ k, (∀ y0 y1 y2 y3 y4 y5 y6 y7, LeO (spec_l8Merge.l0 k y0 y1 y2 y3 y4 y5 y6 y7) (spec_l8Merge.l0 (k + 1) y0 y1 y2 y3 y4 y5 y6 y7))
 | 0 => fun _ _ _ _ _ _ _ _ r h => by simp [spec_l8Merge.l0] at h
 | k + 1 => by
  have ih0 := spec_l8Merge.mono_l k
  ·
   intro y0 y1 y2 y3 y4 y5 y6 y7
   unfold spec_l8Merge.l0
   repeat' first
   | (with_reducible exact ih0 _ _ _ _ _ _ _ _)
   | (with_reducible exact spec_l8Find.mono _ _ _)
   | (with_reducible exact LeO.refl _)
   | (with_reducible exact LeO.none _)
   | (with_reducible refine LeO.ite ?_ ?_)
   | (with_reducible refine LeO.bind ?_ (fun _ => ?_))
   | exact ih0 _ _ _ _ _ _ _ _
   | exact spec_l8Find.mono _ _ _
   | exact LeO.none _
   | refine LeO.ite ?_ ?_
   | refine LeO.bind ?_ (fun _ => ?_)
theorem spec_l8Merge.mono : ∀ a0 a1 a2 a3 a4 k, LeO (spec_l8Merge.f k a0 a1 a2 a3 a4) (spec_l8Merge.f (k + 1) a0 a1 a2 a3 a4) := by
 intro a0 a1 a2 a3 a4 k
 have ih0 := spec_l8Merge.mono_l k
 unfold spec_l8Merge.f
 repeat' first
   | (with_reducible exact ih0 _ _ _ _ _ _ _ _)
   | (with_reducible exact spec_l8Find.mono _ _ _)
   | (with_reducible exact LeO.refl _)
   | (with_reducible exact LeO.none _)
   | (with_reducible refine LeO.ite ?_ ?_)
   | (with_reducible refine LeO.bind ?_ (fun _ => ?_))
   | exact ih0 _ _ _ _ _ _ _ _
   | exact spec_l8Find.mono _ _ _
   | exact LeO.none _
   | refine LeO.ite ?_ ?_
   | refine LeO.bind ?_ (fun _ => ?_)
def spec_l8Merge.T13 : Bool × List (List Nat × List Nat) := (true, [([], []), ([0], [0]), ([1], [1]), ([2], [2]), ([2], [2]), ([3, 4, 2], [2, 3, 4]), ([5, 2], [2, 5]), ([6, 2], [2, 6]), ([2], [2]), ([8, 2], [2, 8]), ([7, 9, 2], [2, 7, 9]), ([2, 10], [2, 10])])
def spec_l8Merge.B13 : List Nat := [0, 1, 3, 7, 7, 31, 63, 127, 7, 263, 1023, 2047]
theorem spec_l8Merge.tab13 : rtab .any (opsOf Try.f30 13) = spec_l8Merge.T13 := by kernel_rfl
theorem spec_l8Merge.bits13 : waitsOk spec_l8Merge.T13.2 spec_l8Merge.B13 = true := by kernel_rfl
set_option maxHeartbeats 8000000 in
set_option maxRecDepth 100000 in
theorem spec_l8Merge.calls (k : Nat) (A0 : Option Addr) (c0 : Nat) (l0 : List (S31)) (a1_0 : Int) (a1_1 : Int) (a1_2 : Int) (a1_3 : Int) (r1 : List (S31)) (r2 : Bool) (w : World) (hr0 : Kd.C k31 w A0 l0.length l0) (hc0 : l0.length ≤ c0) (h : spec_l8Merge.f k l0 a1_0 a1_1 a1_2 a1_3 = some (r1, r2)) :
  Calls Try.prog 30 #[.slice A0 l0.length c0, .agg #[.int .i64 a1_0, .int .i64 a1_1, .int .i64 a1_2, .int .i64 a1_3]] w fun e w' => ∃ v0_ : Value, e = .returned (.tuple #[v0_, .bool r2]) ∧ Kd.R k31 31 w' w.heap.size (fun _ => True) v0_ r1 ∧ Below w.heap.size w w' := by
 have hu31 := Try.underlying31
 have HR0 := Aside0.mk hr0
 have HC0 := Aside0.mk hc0
 clear hr0 hc0
 have HB := Aside0.mk (Below.refl w.heap.size w)
 have H : ((spec_l8Find.f k l0 a1_0).bind fun t153 => (if t153 ≥ 0 then ((spec_l8Copy.f l0).bind fun t154 => (if 0 ≤ t153 then (if t153 < (l0.length : Int) then ((spec_Beats.f a1_0 a1_1 a1_2 a1_3 ((rd_T31 l0 t153).f0) ((rd_T31 l0 t153).f1) ((rd_T31 l0 t153).f2) ((rd_T31 l0 t153).f3)).bind fun t158 => (if t158 = true then (if t153 < (t154.length : Int) then (some ((t154.set (t153 : Int).toNat (⟨a1_0, a1_1, a1_2, a1_3⟩ : S31)), true)) else (none)) else (some (t154, false)))) else (none)) else (none))) else (spec_l8Merge.l0 k l0 (([] : List (S31))) false 0 a1_0 a1_1 a1_2 a1_3))) = some (r1, r2) := h
 clear h
 replace H := Option.bind_eq_some_iff.mp H
 obtain ⟨t153, A30, H⟩ := H
 replace H : (if t153 ≥ 0 then ((spec_l8Copy.f l0).bind fun t154 => (if 0 ≤ t153 then (if t153 < (l0.length : Int) then ((spec_Beats.f a1_0 a1_1 a1_2 a1_3 ((rd_T31 l0 t153).f0) ((rd_T31 l0 t153).f1) ((rd_T31 l0 t153).f2) ((rd_T31 l0 t153).f3)).bind fun t158 => (if t158 = true then (if t153 < (t154.length : Int) then (some ((t154.set (t153 : Int).toNat (⟨a1_0, a1_1, a1_2, a1_3⟩ : S31)), true)) else (none)) else (some (t154, false)))) else (none)) else (none))) else (spec_l8Merge.l0 k l0 (([] : List (S31))) false 0 a1_0 a1_1 a1_2 a1_3)) = some (r1, r2) := H
 have A3 := Aside0.mk A30
 clear A30
 by_cases c4 : t153 ≥ 0
 ·
  rw [if_pos c4] at H; have c4b0 : decide (0 ≤ t153) = true := decide_eq_true c4; clear c4; replace H := Option.bind_eq_some_iff.mp H; obtain ⟨t154, A50, H⟩ := H; replace H : (if 0 ≤ t153 then (if t153 < (l0.length : Int) then ((spec_Beats.f a1_0 a1_1 a1_2 a1_3 ((rd_T31 l0 t153).f0) ((rd_T31 l0 t153).f1) ((rd_T31 l0 t153).f2) ((rd_T31 l0 t153).f3)).bind fun t158 => (if t158 = true then (if t153 < (t154.length : Int) then (some ((t154.set (t153 : Int).toNat (⟨a1_0, a1_1, a1_2, a1_3⟩ : S31)), true)) else (none)) else (some (t154, false)))) else (none)) else (none)) = some (r1, r2) := H; have A5 := Aside0.mk A50; clear A50
  by_cases c6 : 0 ≤ t153
  ·
   rw [if_pos c6] at H; have c6b0 : decide (0 ≤ t153) = true := decide_eq_true c6; clear c6
   by_cases c7 : t153 < (l0.length : Int)
   ·
    rw [if_pos c7] at H; have c7b0 : decide (t153 < (l0.length : Int)) = true := decide_eq_true c7; clear c7; replace H := Option.bind_eq_some_iff.mp H; obtain ⟨t158, A80, H⟩ := H; replace H : (if t158 = true then (if t153 < (t154.length : Int) then (some ((t154.set (t153 : Int).toNat (⟨a1_0, a1_1, a1_2, a1_3⟩ : S31)), true)) else (none)) else (some (t154, false))) = some (r1, r2) := H; have A8 := Aside0.mk A80; clear A80
    by_cases c9 : t158 = true
    ·
     subst c9; have H1 : (if t153 < (t154.length : Int) then (some ((t154.set (t153 : Int).toNat (⟨a1_0, a1_1, a1_2, a1_3⟩ : S31)), true)) else (none)) = some (r1, r2) := by rw [if_pos rfl] at H; exact H
     clear H; have H := H1; clear H1
     by_cases c10 : t153 < (t154.length : Int)
     ·
      rw [if_pos c10] at H; have c10b0 : decide (t153 < (t154.length : Int)) = true := decide_eq_true c10; clear c10; obtain ⟨y159, hy159⟩ : ∃ y_ : List (S31), y_ = (t154.set (t153 : Int).toNat (⟨a1_0, a1_1, a1_2, a1_3⟩ : S31)) := ⟨_, rfl⟩; replace H : (some (y159, true)) = some (r1, r2) := by first | (rw [hy159]; with_reducible exact H) | (have H2_ := (Option.bind_some _ _).symm.trans H; rw [hy159]; with_reducible exact H2_) | (have H2_ := (Option.bind_some _ _).symm.trans H; with_reducible exact H2_) | with_reducible exact H | (rw [hy159]; exact H) | exact H
      have Ny159 := Aside0.mk hy159; clear hy159; simp only [Option.some.injEq, Prod.mk.injEq] at H; obtain ⟨rfl, rfl⟩ := H
      go_enter Try.func30, Try.ntmps30
      try go_wp2_with (first | ((with_reducible refine gate_dst (N := 3) rfl ?_); refine box_event ?hg (N := 3) ?hd (cs := #[.int .i64 a1_0, .int .i64 a1_1, .int .i64 a1_2, .int .i64 a1_3]) (t := 31) ?hr ?_; (case hd => rfl); (case hg => rfl); (case hr => first | (go_simp; done) | (go_simp; rfl)); intro gb152 hg w12 hbox hb; have n0_ := Aside0.mk (below_step below_a hb); have BK152 := Aside0.mk (hbox); have GW152 := Aside0.mk (bsz_ (w := w) hg); have GE152 := Aside0.mk (bsz_ (w := w) hg); replace HB := n0_; clear n0_; clear hb hbox hg; obtain ⟨hcz13_0, hcz13_1, hcz13_2, hcz13_3, hfz13_0, hfz13_1, hfz13_2, hfz13_3⟩ := bc4_ BK152.out) | ((with_reducible refine gate_callee (f := 43) rfl ?_); refine goesL_ (some 14) rfl rfl Try.func43 (by kernel_rfl) rfl #[.slice A0 l0.length c0, .int .i64 a1_0] rfl args_a ?_; (with_reducible refine (spec_l8Find.calls k _ _ l0 a1_0 t153 _ ?side1 ?side2 A3.out).mono ?_); (case side1 => repeat (first | exact (Kd.C_below HR0.out HB.out) | (with_reducible refine Kd.C_alloc ?_ _) | (with_reducible refine Kd.C_drewN ?_ _) | (with_reducible refine Kd.C_drew ?_))); (case side2 => exact HC0.out); rintro e w' ⟨rfl, ⟨nd, rfl⟩⟩; refine ⟨_, rfl, ?_⟩; (try (rw [drewN_self w12]; generalize hq_ : World.drewN w12 _ = w12; have n0_ : Aside0 (w12.heap[gb152]? = some (.cells #[.int .i64 a1_0, .int .i64 a1_1, .int .i64 a1_2, .int .i64 a1_3] 31 (0, 0))) := ⟨by rw [← hq_]; exact blk_a⟩; have n1_ : Aside0 (Below w.heap.size w w12) := ⟨by rw [← hq_]; exact below_a⟩; clear BK152 HB hq_; have BK152 := n0_; have HB := n1_; clear n0_ n1_))) | ((with_reducible refine gate_callee (f := 36) rfl ?_); refine goesL_ (some 18) rfl rfl Try.func36 (by kernel_rfl) rfl #[.slice A0 l0.length c0] rfl args_a ?_; (with_reducible refine (spec_l8Copy.calls _ _ l0 t154 _ ?side1 ?side2 A5.out).mono ?_); (case side1 => repeat (first | exact (Kd.C_below HR0.out HB.out) | (with_reducible refine Kd.C_alloc ?_ _) | (with_reducible refine Kd.C_drewN ?_ _) | (with_reducible refine Kd.C_drew ?_))); (case side2 => exact HC0.out); rintro e w14 ⟨v155, rfl, ho0, hb⟩; refine ⟨_, rfl, ?_⟩; have HO156 := Aside0.mk (Kd.R_lower (Kd.R_newB ho0 (g := gb152) blk_c) (below_size below_a)); replace BK152 := Aside0.mk (blk_below (g := gb152) blk_c hb); replace HB := Aside0.mk (below_step below_a hb); (try clear hb); (try clear hb2); (try clear hk); (try clear hi); (try clear ho0)))
      replace HO156 := Aside0.mk (Kd.R_drew HO156.out); replace BK152 := Aside0.mk (blk_drew BK152.out); replace HB := Aside0.mk (below_drew1 HB.out); have p157 : 0 ≤ (t153 : Int) := of_decide_eq_true (by first | (with_reducible assumption) | assumption); have q157 : t153 < (l0.length : Int) := of_decide_eq_true (by first | (with_reducible assumption) | assumption); obtain ⟨ad157, e157, hx157_0, hx157_1, hx157_2, hx157_3⟩ := at_T31 HR0.out t153 p157 q157; have hw157_3 := hx157_3; have hw157_2 := hx157_2; have hw157_1 := hx157_1; have hw157_0 := hx157_0
      cases e157
      replace hx157_0 := (HB.out.cell (World.block_lt_of_cell? w _ hx157_0)).trans hx157_0; replace hx157_1 := (HB.out.cell (World.block_lt_of_cell? w _ hx157_1)).trans hx157_1; replace hx157_2 := (HB.out.cell (World.block_lt_of_cell? w _ hx157_2)).trans hx157_2; replace hx157_3 := (HB.out.cell (World.block_lt_of_cell? w _ hx157_3)).trans hx157_3; replace p157 := eq_true p157; replace q157 := eq_true q157; refine start_ (n := 7) (S := fun w' => w'.cell? ⟨gb152, 0, none⟩ = some (.int .i64 a1_0) ∧ w'.cell? ⟨gb152, 1, none⟩ = some (.int .i64 a1_1) ∧ w'.cell? ⟨gb152, 2, none⟩ = some (.int .i64 a1_2) ∧ w'.cell? ⟨gb152, 3, none⟩ = some (.int .i64 a1_3) ∧ w'.cell? (ad157.add ((t153).toNat * 4)) = some (.int .i64 ((rd_T31 l0 t153).f0)) ∧ w'.cell? ⟨(ad157.add ((t153).toNat * 4)).block, (ad157.add ((t153).toNat * 4)).off + 1, none⟩ = some (.int .i64 ((rd_T31 l0 t153).f1)) ∧ w'.cell? ⟨(ad157.add ((t153).toNat * 4)).block, (ad157.add ((t153).toNat * 4)).off + 2, none⟩ = some (.int .i64 ((rd_T31 l0 t153).f2)) ∧ w'.cell? ⟨(ad157.add ((t153).toNat * 4)).block, (ad157.add ((t153).toNat * 4)).off + 3, none⟩ = some (.int .i64 ((rd_T31 l0 t153).f3))) (ds := []) #[Z',Z',Z',Z',Z',Z',Z'] (by kernel_rfl) rfl rfl ⟨(blk_cell BK152.out 0).trans rfl, (blk_cell BK152.out 1).trans rfl, (blk_cell BK152.out 2).trans rfl, (blk_cell BK152.out 3).trans rfl, ((HB.out.cell (World.block_lt_of_cell? w _ hw157_0)).trans hw157_0), ((HB.out.cell (World.block_lt_of_cell? w _ hw157_1)).trans hw157_1), ((HB.out.cell (World.block_lt_of_cell? w _ hw157_2)).trans hw157_2), ((HB.out.cell (World.block_lt_of_cell? w _ hw157_3)).trans hw157_3)⟩ (fun hHeld => ?_); generalize w14.drew = w15 at HO156 BK152 HB hx157_0 hx157_1 hx157_2 hx157_3 hHeld ⊢; refine pure_ (i := 1) (N := some 20) (v := ?_) (a' := ?_) #[Z',Y',Z',Z',Z',Z',Z'] rfl rfl (by kernel_rfl) (fun _ _ _ h => h) (Or.inl ⟨by rfl, ?_⟩) ?_ ?_; rotate_left
      ·
       intro w'
       go_simp
       with_reducible rfl
      rotate_left
      ·
       simp only [Act.put, List.setIfInBounds_toArray, List.set_cons_zero, List.set_cons_succ, i64_w, i32_w]; rfl
      refine pure_ (i := 2) (N := some 21) (v := ?_) (a' := ?_) #[Z',Y',Y',Z',Z',Z',Z'] rfl rfl (by kernel_rfl) (fun _ _ _ h => h) (Or.inl ⟨by rfl, ?_⟩) ?_ ?_; rotate_left
      ·
       intro w'
       go_simp
       with_reducible rfl
      rotate_left
      ·
       simp only [Act.put, List.setIfInBounds_toArray, List.set_cons_zero, List.set_cons_succ, i64_w, i32_w]; rfl
      refine pure_ (i := 3) (N := some 22) (v := ?_) (a' := ?_) #[Z',Y',Y',Y',Z',Z',Z'] rfl rfl (by kernel_rfl) (fun _ _ _ h => h) (Or.inl ⟨by rfl, ?_⟩) ?_ ?_; rotate_left
      ·
       intro w'
       go_simp
       with_reducible rfl
      rotate_left
      ·
       simp only [Act.put, List.setIfInBounds_toArray, List.set_cons_zero, List.set_cons_succ, i64_w, i32_w]; rfl
      refine take_ (i := 0) (N := some 19) (v := ?_) (a' := ?_) #[Y',Y',Y',Y',Z',Z',Z'] rfl rfl (by kernel_rfl) (fun _ _ _ h => h) (Or.inl ⟨by rfl, ?_⟩) hHeld ?_ ?_; rotate_left
      ·
       rintro w' ⟨s0, s1, s2, s3, s4, s5, s6, s7⟩
       go_simp
       with_reducible rfl
      rotate_left
      ·
       simp only [Act.put, List.setIfInBounds_toArray, List.set_cons_zero, List.set_cons_succ, i64_w, i32_w]; rfl
      refine take_ (i := 4) (N := some 23) (v := ?_) (a' := ?_) #[Y',Y',Y',Y',Y',Z',Z'] rfl rfl (by kernel_rfl) (fun _ _ _ h => h) (Or.inl ⟨by rfl, ?_⟩) hHeld ?_ ?_; rotate_left
      ·
       rintro w' ⟨s0, s1, s2, s3, s4, s5, s6, s7⟩
       go_simp
       with_reducible rfl
      rotate_left
      ·
       simp only [Act.put, List.setIfInBounds_toArray, List.set_cons_zero, List.set_cons_succ, i64_w, i32_w]; rfl
      refine one_ (i := 5) (N := some 24) #[Y',Y',Y',Y',Y',Y',Z'] rfl rfl (by kernel_rfl) (by decide) (fun K hK => ?_); refine goes_ Try.func44 (by kernel_rfl) rfl #[.agg #[.int .i64 a1_0, .int .i64 a1_1, .int .i64 a1_2, .int .i64 a1_3], .agg #[.int .i64 ((rd_T31 l0 t153).f0), .int .i64 ((rd_T31 l0 t153).f1), .int .i64 ((rd_T31 l0 t153).f2), .int .i64 ((rd_T31 l0 t153).f3)]] (by rfl) rfl rfl args_a ?_
      with_reducible refine (spec_Beats.calls a1_0 a1_1 a1_2 a1_3 ((rd_T31 l0 t153).f0) ((rd_T31 l0 t153).f1) ((rd_T31 l0 t153).f2) ((rd_T31 l0 t153).f3) true _ A8.out).mono ?_
      rintro e w16 ⟨rfl, hb⟩; refine ⟨_, rfl, ?_⟩; replace HO156 := Aside0.mk (Kd.R_below (R_a HO156.out) hb); replace BK152 := Aside0.mk (blk_below (g := gb152) blk_c hb); replace HB := Aside0.mk (below_step below_a hb); (try clear hb); (try clear hb2); (try clear hk); (try clear hi); refine hK.out _ _ ⟨(blk_cell BK152.out 0).trans rfl, (blk_cell BK152.out 1).trans rfl, (blk_cell BK152.out 2).trans rfl, (blk_cell BK152.out 3).trans rfl, ((HB.out.cell (World.block_lt_of_cell? w _ hw157_0)).trans hw157_0), ((HB.out.cell (World.block_lt_of_cell? w _ hw157_1)).trans hw157_1), ((HB.out.cell (World.block_lt_of_cell? w _ hw157_2)).trans hw157_2), ((HB.out.cell (World.block_lt_of_cell? w _ hw157_3)).trans hw157_3)⟩ (fun hHeld => ?_); clear hK K; refine norm_ (a' := ?_) ?_ ?_; rotate_left
      ·
       show Act.put _ (some 24) _ = _; simp only [Act.put, List.setIfInBounds_toArray, List.set_cons_zero, List.set_cons_succ, i64_w, i32_w]; rfl
      refine pure_ (i := 6) (N := some 25) (v := ?_) (a' := ?_) #[Y',Y',Y',Y',Y',Y',Y'] rfl rfl (by kernel_rfl) (fun _ _ _ h => h) (Or.inl ⟨by rfl, ?_⟩) ?_ ?_; rotate_left
      ·
       intro w'
       go_simp
       with_reducible rfl
      rotate_left
      ·
       simp only [Act.put, List.setIfInBounds_toArray, List.set_cons_zero, List.set_cons_succ, i64_w, i32_w]; rfl
      refine done_ (by kernel_rfl) ?_; obtain ⟨hcz17_0, hcz17_1, hcz17_2, hcz17_3, hfz17_0, hfz17_1, hfz17_2, hfz17_3⟩ := bc4_ BK152.out; have p11 : 0 ≤ (t153 : Int) := of_decide_eq_true (by first | (with_reducible assumption) | assumption); have q11 : (t153 : Int) < ((t154.length : Int) : Int) := of_decide_eq_true (by first | (with_reducible assumption) | assumption); obtain ⟨go11, co11, eo11, gb11, gl11, cl11, HG11⟩ := Kd.R_form HO156.out (by omega); (first | cases eo11 | (injection eo11 with ea_ en_ ec_; (first | subst ea_ | (injection ea_ with ea_; subst ea_)); subst ec_; clear en_)); have GB11 := Aside0.mk gb11; have GG11 := Aside0.mk HG11; clear gb11 gl11 HG11; obtain ⟨ce11, hcl11, hM11, hcc11, hfr11⟩ := Kd.R_elem HO156.out z31 (t153 : Int) p11 q11; obtain rfl := k31_openM hM11; have hx11_0 : w16.cell? ⟨go11, (t153 : Int).toNat * 4, none⟩ = some (.int .i64 ((rd_T31 t154 t153).f0)) := hcc11 0 _ rfl; have hx11_1 : w16.cell? ⟨go11, (t153 : Int).toNat * 4 + 1, none⟩ = some (.int .i64 ((rd_T31 t154 t153).f1)) := hcc11 1 _ rfl; have hx11_2 : w16.cell? ⟨go11, (t153 : Int).toNat * 4 + 2, none⟩ = some (.int .i64 ((rd_T31 t154 t153).f2)) := hcc11 2 _ rfl; have hx11_3 : w16.cell? ⟨go11, (t153 : Int).toNat * 4 + 3, none⟩ = some (.int .i64 ((rd_T31 t154 t153).f3)) := hcc11 3 _ rfl; have hf11_0 : w16.frozen? ⟨go11, (t153 : Int).toNat * 4, none⟩ = false := hfr11 0; have hf11_1 : w16.frozen? ⟨go11, (t153 : Int).toNat * 4 + 1, none⟩ = false := hfr11 1; have hf11_2 : w16.frozen? ⟨go11, (t153 : Int).toNat * 4 + 2, none⟩ = false := hfr11 2; have hf11_3 : w16.frozen? ⟨go11, (t153 : Int).toNat * 4 + 3, none⟩ = false := hfr11 3; clear hcl11 hcc11 hfr11 hM11; replace p11 := eq_true p11; replace q11 := eq_true q11; have n_ := Aside0.mk (Kd.R_mono (ok' := (fun k_ => k_ ≠ gb152)) HO156.out (fun k_ hk => hk.2)); clear HO156; have HO156 := n_; clear n_; have HX18 := Aside0.mk (show Kd.R k31 31 w16 w.heap.size (fun k_ => k_ ≠ gb152) (.slice (some ⟨go11, 0, none⟩) t154.length co11) t154 from (R_a HO156.out)); obtain ⟨ce18, hcl18, hM18, hcc18, hfr18⟩ := Kd.R_elem HX18.out z31 (t153 : Int) (of_decide_eq_true (by first | (with_reducible assumption) | assumption)) (by have h_ : (t153 : Int) < ((t154.length : Int) : Int) := of_decide_eq_true (by first | (with_reducible assumption) | assumption); first | exact h_ | (have e_ := (Kd.R_reads' HO156.out).1; omega) | simpa using h_); obtain rfl := k31_openM hM18; have HP18 := Kd.R_seg HX18.out (t153 : Int) (of_decide_eq_true (by first | (with_reducible assumption) | assumption)) (by have h_ : (t153 : Int) < ((t154.length : Int) : Int) := of_decide_eq_true (by first | (with_reducible assumption) | assumption); first | exact h_ | (have e_ := (Kd.R_reads' HO156.out).1; omega) | simpa using h_) (seg := [.int .i64 a1_0, .int .i64 a1_1, .int .i64 a1_2, .int .i64 a1_3]) (j := 0) hcl18 hcc18 (show 4 ≤ 4 from by decide) (x' := (⟨a1_0, a1_1, a1_2, a1_3⟩ : S31)) (k31_mkM _ _ _ (⟨a1_0, a1_1, a1_2, a1_3⟩ : S31) ) (fun _ hk => hk); have hx18_0 := hcc18 0 _ rfl; (try simp only [show (k31).sz = 4 from rfl, Nat.mul_one, Nat.add_zero] at hx18_0); have hf18_0 := hfr18 0; (try simp only [show (k31).sz = 4 from rfl, Nat.mul_one, Nat.add_zero] at hf18_0); have hx18_1 := hcc18 1 _ rfl; (try simp only [show (k31).sz = 4 from rfl, Nat.mul_one, Nat.add_zero] at hx18_1); have hf18_1 := hfr18 1; (try simp only [show (k31).sz = 4 from rfl, Nat.mul_one, Nat.add_zero] at hf18_1); have hx18_2 := hcc18 2 _ rfl; (try simp only [show (k31).sz = 4 from rfl, Nat.mul_one, Nat.add_zero] at hx18_2); have hf18_2 := hfr18 2; (try simp only [show (k31).sz = 4 from rfl, Nat.mul_one, Nat.add_zero] at hf18_2); have hx18_3 := hcc18 3 _ rfl; (try simp only [show (k31).sz = 4 from rfl, Nat.mul_one, Nat.add_zero] at hx18_3); have hf18_3 := hfr18 3; (try simp only [show (k31).sz = 4 from rfl, Nat.mul_one, Nat.add_zero] at hf18_3); clear hcl18 hcc18 hfr18 hM18
      try go_wp2_with (first | ((with_reducible refine gate_store (t := 31) (p := 30) rfl ?_); refine store_event (t := 31) (p := 30) (v := ?vo_w19) (w1 := ((((w16.setCell ⟨go11, (t153 : Int).toNat * 4, none⟩ (.int .i64 a1_0)).setCell ⟨go11, (t153 : Int).toNat * 4 + 1, none⟩ (.int .i64 a1_1)).setCell ⟨go11, (t153 : Int).toNat * 4 + 2, none⟩ (.int .i64 a1_2)).setCell ⟨go11, (t153 : Int).toNat * 4 + 3, none⟩ (.int .i64 a1_3))) ?hg ?ho ?hn ?hr ?_; (case ho => rfl); (case hg => rfl); (case hn => rfl); (case hr => first | (go_simp; done) | (go_simp; rfl)); intro w19 hw; have hg : w16.grownBy w19 (some go11) := (by rw [hw]; exact HP18.2); have hp_ : Kd.R k31 31 w19 w.heap.size (fun k_ => k_ ≠ gb152) (.slice (some ⟨go11, 0, none⟩) t154.length co11) y159 := (by rw [hw, Ny159.out]; exact HP18.1); clear HP18; replace BK152 := Aside0.mk (blk_grown (g := gb152) blk_c hg (Kd.R_away HO156.out (fun _ hk => hk))); replace HO156 := Aside0.mk (hp_); replace HB := Aside0.mk ((by rw [hw]; exact below_set (below_set (below_set (below_set (HB.out) GB11.out) GB11.out) GB11.out) GB11.out : Below w.heap.size w w19)); clear hg hw hp_))
      go_ret2
      exact ⟨_, eq_a, by (with_reducible repeat (first | apply Kd.R_alloc | apply Kd.R_drewN | apply Kd.R_drew)); exact Kd.R_mono HO156.out (fun _ hk => trivial), below_a⟩
     ·
      rw [if_neg c10] at H; exact absurd H (by simp)
    ·
     replace c9 := Bool.eq_false_iff.mpr c9; subst c9; have H1 : (some (t154, false)) = some (r1, r2) := by rw [if_neg (show ¬ (false = true) by decide)] at H; exact H
     clear H; have H := H1; clear H1; simp only [Option.some.injEq, Prod.mk.injEq] at H; obtain ⟨rfl, rfl⟩ := H
     go_enter Try.func30, Try.ntmps30
     try go_wp2_with (first | ((with_reducible refine gate_dst (N := 3) rfl ?_); refine box_event ?hg (N := 3) ?hd (cs := #[.int .i64 a1_0, .int .i64 a1_1, .int .i64 a1_2, .int .i64 a1_3]) (t := 31) ?hr ?_; (case hd => rfl); (case hg => rfl); (case hr => first | (go_simp; done) | (go_simp; rfl)); intro gb152 hg w20 hbox hb; have n0_ := Aside0.mk (below_step below_a hb); have BK152 := Aside0.mk (hbox); have GW152 := Aside0.mk (bsz_ (w := w) hg); have GE152 := Aside0.mk (bsz_ (w := w) hg); replace HB := n0_; clear n0_; clear hb hbox hg; obtain ⟨hcz21_0, hcz21_1, hcz21_2, hcz21_3, hfz21_0, hfz21_1, hfz21_2, hfz21_3⟩ := bc4_ BK152.out) | ((with_reducible refine gate_callee (f := 43) rfl ?_); refine goesL_ (some 14) rfl rfl Try.func43 (by kernel_rfl) rfl #[.slice A0 l0.length c0, .int .i64 a1_0] rfl args_a ?_; (with_reducible refine (spec_l8Find.calls k _ _ l0 a1_0 t153 _ ?side1 ?side2 A3.out).mono ?_); (case side1 => repeat (first | exact (Kd.C_below HR0.out HB.out) | (with_reducible refine Kd.C_alloc ?_ _) | (with_reducible refine Kd.C_drewN ?_ _) | (with_reducible refine Kd.C_drew ?_))); (case side2 => exact HC0.out); rintro e w' ⟨rfl, ⟨nd, rfl⟩⟩; refine ⟨_, rfl, ?_⟩) | ((with_reducible refine gate_callee (f := 36) rfl ?_); refine goesL_ (some 18) rfl rfl Try.func36 (by kernel_rfl) rfl #[.slice A0 l0.length c0] rfl args_a ?_; (with_reducible refine (spec_l8Copy.calls _ _ l0 t154 _ ?side1 ?side2 A5.out).mono ?_); (case side1 => repeat (first | exact (Kd.C_below HR0.out below_a) | (with_reducible refine Kd.C_alloc ?_ _) | (with_reducible refine Kd.C_drewN ?_ _) | (with_reducible refine Kd.C_drew ?_))); (case side2 => exact HC0.out); rintro e w22 ⟨v155, rfl, ho0, hb⟩; refine ⟨_, rfl, ?_⟩; have HO156 := Aside0.mk (Kd.R_lower (Kd.R_newB ho0 (g := gb152) blk_c) (below_size below_a)); replace BK152 := Aside0.mk (blk_below (g := gb152) blk_c hb); replace HB := Aside0.mk (below_step below_a hb); (try clear hb); (try clear hb2); (try clear hk); (try clear hi); (try clear ho0)))
     replace HO156 := Aside0.mk (Kd.R_drew HO156.out); replace BK152 := Aside0.mk (blk_drew BK152.out); replace HB := Aside0.mk (below_drew1 HB.out); have p157 : 0 ≤ (t153 : Int) := of_decide_eq_true (by first | (with_reducible assumption) | assumption); have q157 : t153 < (l0.length : Int) := of_decide_eq_true (by first | (with_reducible assumption) | assumption); obtain ⟨ad157, e157, hx157_0, hx157_1, hx157_2, hx157_3⟩ := at_T31 HR0.out t153 p157 q157; have hw157_3 := hx157_3; have hw157_2 := hx157_2; have hw157_1 := hx157_1; have hw157_0 := hx157_0
     cases e157
     replace hx157_0 := (HB.out.cell (World.block_lt_of_cell? w _ hx157_0)).trans hx157_0; replace hx157_1 := (HB.out.cell (World.block_lt_of_cell? w _ hx157_1)).trans hx157_1; replace hx157_2 := (HB.out.cell (World.block_lt_of_cell? w _ hx157_2)).trans hx157_2; replace hx157_3 := (HB.out.cell (World.block_lt_of_cell? w _ hx157_3)).trans hx157_3; replace p157 := eq_true p157; replace q157 := eq_true q157; refine start_ (n := 7) (S := fun w' => w'.cell? ⟨gb152, 0, none⟩ = some (.int .i64 a1_0) ∧ w'.cell? ⟨gb152, 1, none⟩ = some (.int .i64 a1_1) ∧ w'.cell? ⟨gb152, 2, none⟩ = some (.int .i64 a1_2) ∧ w'.cell? ⟨gb152, 3, none⟩ = some (.int .i64 a1_3) ∧ w'.cell? (ad157.add ((t153).toNat * 4)) = some (.int .i64 ((rd_T31 l0 t153).f0)) ∧ w'.cell? ⟨(ad157.add ((t153).toNat * 4)).block, (ad157.add ((t153).toNat * 4)).off + 1, none⟩ = some (.int .i64 ((rd_T31 l0 t153).f1)) ∧ w'.cell? ⟨(ad157.add ((t153).toNat * 4)).block, (ad157.add ((t153).toNat * 4)).off + 2, none⟩ = some (.int .i64 ((rd_T31 l0 t153).f2)) ∧ w'.cell? ⟨(ad157.add ((t153).toNat * 4)).block, (ad157.add ((t153).toNat * 4)).off + 3, none⟩ = some (.int .i64 ((rd_T31 l0 t153).f3))) (ds := []) #[Z',Z',Z',Z',Z',Z',Z'] (by kernel_rfl) rfl rfl ⟨(blk_cell BK152.out 0).trans rfl, (blk_cell BK152.out 1).trans rfl, (blk_cell BK152.out 2).trans rfl, (blk_cell BK152.out 3).trans rfl, ((HB.out.cell (World.block_lt_of_cell? w _ hw157_0)).trans hw157_0), ((HB.out.cell (World.block_lt_of_cell? w _ hw157_1)).trans hw157_1), ((HB.out.cell (World.block_lt_of_cell? w _ hw157_2)).trans hw157_2), ((HB.out.cell (World.block_lt_of_cell? w _ hw157_3)).trans hw157_3)⟩ (fun hHeld => ?_); generalize w22.drew = w23 at HO156 BK152 HB hx157_0 hx157_1 hx157_2 hx157_3 hHeld ⊢; refine pure_ (i := 1) (N := some 20) (v := ?_) (a' := ?_) #[Z',Y',Z',Z',Z',Z',Z'] rfl rfl (by kernel_rfl) (fun _ _ _ h => h) (Or.inl ⟨by rfl, ?_⟩) ?_ ?_; rotate_left
     ·
      intro w'
      go_simp
      with_reducible rfl
     rotate_left
     ·
      simp only [Act.put, List.setIfInBounds_toArray, List.set_cons_zero, List.set_cons_succ, i64_w, i32_w]; rfl
     refine pure_ (i := 2) (N := some 21) (v := ?_) (a' := ?_) #[Z',Y',Y',Z',Z',Z',Z'] rfl rfl (by kernel_rfl) (fun _ _ _ h => h) (Or.inl ⟨by rfl, ?_⟩) ?_ ?_; rotate_left
     ·
      intro w'
      go_simp
      with_reducible rfl
     rotate_left
     ·
      simp only [Act.put, List.setIfInBounds_toArray, List.set_cons_zero, List.set_cons_succ, i64_w, i32_w]; rfl
     refine pure_ (i := 3) (N := some 22) (v := ?_) (a' := ?_) #[Z',Y',Y',Y',Z',Z',Z'] rfl rfl (by kernel_rfl) (fun _ _ _ h => h) (Or.inl ⟨by rfl, ?_⟩) ?_ ?_; rotate_left
     ·
      intro w'
      go_simp
      with_reducible rfl
     rotate_left
     ·
      simp only [Act.put, List.setIfInBounds_toArray, List.set_cons_zero, List.set_cons_succ, i64_w, i32_w]; rfl
     refine take_ (i := 0) (N := some 19) (v := ?_) (a' := ?_) #[Y',Y',Y',Y',Z',Z',Z'] rfl rfl (by kernel_rfl) (fun _ _ _ h => h) (Or.inl ⟨by rfl, ?_⟩) hHeld ?_ ?_; rotate_left
     ·
      rintro w' ⟨s0, s1, s2, s3, s4, s5, s6, s7⟩
      go_simp
      with_reducible rfl
     rotate_left
     ·
      simp only [Act.put, List.setIfInBounds_toArray, List.set_cons_zero, List.set_cons_succ, i64_w, i32_w]; rfl
     refine take_ (i := 4) (N := some 23) (v := ?_) (a' := ?_) #[Y',Y',Y',Y',Y',Z',Z'] rfl rfl (by kernel_rfl) (fun _ _ _ h => h) (Or.inl ⟨by rfl, ?_⟩) hHeld ?_ ?_; rotate_left
     ·
      rintro w' ⟨s0, s1, s2, s3, s4, s5, s6, s7⟩
      go_simp
      with_reducible rfl
     rotate_left
     ·
      simp only [Act.put, List.setIfInBounds_toArray, List.set_cons_zero, List.set_cons_succ, i64_w, i32_w]; rfl
     refine one_ (i := 5) (N := some 24) #[Y',Y',Y',Y',Y',Y',Z'] rfl rfl (by kernel_rfl) (by decide) (fun K hK => ?_); refine goes_ Try.func44 (by kernel_rfl) rfl #[.agg #[.int .i64 a1_0, .int .i64 a1_1, .int .i64 a1_2, .int .i64 a1_3], .agg #[.int .i64 ((rd_T31 l0 t153).f0), .int .i64 ((rd_T31 l0 t153).f1), .int .i64 ((rd_T31 l0 t153).f2), .int .i64 ((rd_T31 l0 t153).f3)]] (by rfl) rfl rfl args_a ?_
     with_reducible refine (spec_Beats.calls a1_0 a1_1 a1_2 a1_3 ((rd_T31 l0 t153).f0) ((rd_T31 l0 t153).f1) ((rd_T31 l0 t153).f2) ((rd_T31 l0 t153).f3) false _ A8.out).mono ?_
     rintro e w24 ⟨rfl, hb⟩; refine ⟨_, rfl, ?_⟩; replace HO156 := Aside0.mk (Kd.R_below (R_a HO156.out) hb); replace BK152 := Aside0.mk (blk_below (g := gb152) blk_c hb); replace HB := Aside0.mk (below_step below_a hb); (try clear hb); (try clear hb2); (try clear hk); (try clear hi); refine hK.out _ _ ⟨(blk_cell BK152.out 0).trans rfl, (blk_cell BK152.out 1).trans rfl, (blk_cell BK152.out 2).trans rfl, (blk_cell BK152.out 3).trans rfl, ((HB.out.cell (World.block_lt_of_cell? w _ hw157_0)).trans hw157_0), ((HB.out.cell (World.block_lt_of_cell? w _ hw157_1)).trans hw157_1), ((HB.out.cell (World.block_lt_of_cell? w _ hw157_2)).trans hw157_2), ((HB.out.cell (World.block_lt_of_cell? w _ hw157_3)).trans hw157_3)⟩ (fun hHeld => ?_); clear hK K; refine norm_ (a' := ?_) ?_ ?_; rotate_left
     ·
      show Act.put _ (some 24) _ = _; simp only [Act.put, List.setIfInBounds_toArray, List.set_cons_zero, List.set_cons_succ, i64_w, i32_w]; rfl
     refine pure_ (i := 6) (N := some 25) (v := ?_) (a' := ?_) #[Y',Y',Y',Y',Y',Y',Y'] rfl rfl (by kernel_rfl) (fun _ _ _ h => h) (Or.inl ⟨by rfl, ?_⟩) ?_ ?_; rotate_left
     ·
      intro w'
      go_simp
      with_reducible rfl
     rotate_left
     ·
      simp only [Act.put, List.setIfInBounds_toArray, List.set_cons_zero, List.set_cons_succ, i64_w, i32_w]; rfl
     refine done_ (by kernel_rfl) ?_
     try go_wp2
     go_ret2
     exact ⟨_, eq_a, by (with_reducible repeat (first | apply Kd.R_alloc | apply Kd.R_drewN | apply Kd.R_drew)); exact Kd.R_mono HO156.out (fun _ hk => trivial), below_a⟩
   ·
    rw [if_neg c7] at H; exact absurd H (by simp)
  ·
   rw [if_neg c6] at H; exact absurd H (by simp)
 ·
  rw [if_neg c4] at H; have c4b0 : decide (0 ≤ t153) = false := decide_eq_false c4; clear c4; obtain ⟨y160, hy160⟩ : ∃ y_ : List (S31), y_ = (([] : List (S31))) := ⟨_, rfl⟩; replace H : (spec_l8Merge.l0 k l0 y160 false 0 a1_0 a1_1 a1_2 a1_3) = some (r1, r2) := by first | (rw [hy160]; with_reducible exact H) | (have H2_ := (Option.bind_some _ _).symm.trans H; rw [hy160]; with_reducible exact H2_) | (have H2_ := (Option.bind_some _ _).symm.trans H; with_reducible exact H2_) | with_reducible exact H | (rw [hy160]; exact H) | exact H
  have Ny160 := Aside0.mk hy160; clear hy160; have H' := Aside0.mk H; clear H
  go_enter Try.func30, Try.ntmps30
  go_wp2_with (first | ((with_reducible refine gate_dst (N := 3) rfl ?_); refine box_event ?hg (N := 3) ?hd (cs := #[.int .i64 a1_0, .int .i64 a1_1, .int .i64 a1_2, .int .i64 a1_3]) (t := 31) ?hr ?_; (case hd => rfl); (case hg => rfl); (case hr => first | (go_simp; done) | (go_simp; rfl)); intro gb152 hg w25 hbox hb; have n0_ := Aside0.mk (below_step below_a hb); have BK152 := Aside0.mk (hbox); have GW152 := Aside0.mk (bsz_ (w := w) hg); have GE152 := Aside0.mk (bsz_ (w := w) hg); replace HB := n0_; clear n0_; clear hb hbox hg; obtain ⟨hcz26_0, hcz26_1, hcz26_2, hcz26_3, hfz26_0, hfz26_1, hfz26_2, hfz26_3⟩ := bc4_ BK152.out) | ((with_reducible refine gate_callee (f := 43) rfl ?_); refine goesL_ (some 14) rfl rfl Try.func43 (by kernel_rfl) rfl #[.slice A0 l0.length c0, .int .i64 a1_0] rfl args_a ?_; (with_reducible refine (spec_l8Find.calls k _ _ l0 a1_0 t153 _ ?side1 ?side2 A3.out).mono ?_); (case side1 => repeat (first | exact (Kd.C_below HR0.out HB.out) | (with_reducible refine Kd.C_alloc ?_ _) | (with_reducible refine Kd.C_drewN ?_ _) | (with_reducible refine Kd.C_drew ?_))); (case side2 => exact HC0.out); rintro e w' ⟨rfl, ⟨nd, rfl⟩⟩; refine ⟨_, rfl, ?_⟩) | ((with_reducible refine gate_dst (N := 32) rfl ?_); refine Kd.R_lit k31 _ 31 ?hg (N := 32) ?hd (xs := ([] : List (S31))) (inner := []) (ok := fun _ => True) (okp := fun _ => True) ?hr ?hp (fun _ hk => hk) trivial (Below.refl _ _) (Nat.le_refl _) (by simp) ?_; (case hd => rfl); (case hg => rfl); (case hr => first | (go_simp; done) | (go_simp; rfl)); (case hp => exact (Reps.none _ _)); intro v161 w27 ho28 hb hg_ hnew_; clear hg_ hnew_; (first | rw [← Ny160.out] at ho28 | (simp only [Int.reduceToNat] at ho28; rw [← Ny160.out] at ho28)); have HO162 := Aside0.mk (Kd.R_lower (Kd.R_newB ho28 (g := gb152) blk_c) (below_size below_a)); replace BK152 := Aside0.mk (blk_below (g := gb152) blk_c hb); replace HB := Aside0.mk (below_step below_a hb); clear hb ho28))
  go_loopg [8, 9, 10] k (fun kq v8 v9 v10 w' => ∃ (x8_1 : List (S31)) (x9_1 : Bool) (x10_1 : Int), v9 = .bool x9_1 ∧ v10 = .int .i64 x10_1 ∧ Aside0 (spec_l8Merge.l0 kq l0 x8_1 x9_1 x10_1 a1_0 a1_1 a1_2 a1_3 = some (r1, r2)) ∧ Aside0 (kq ≤ k) ∧ Aside0 (Kd.R k31 31 w' w.heap.size (fun k_ => k_ ≠ gb152) v8 x8_1) ∧ Aside0 (w'.heap[gb152]? = some (.cells #[.int .i64 a1_0, .int .i64 a1_1, .int .i64 a1_2, .int .i64 a1_3] 31 (0, 0))) ∧ Aside0 (Below w.heap.size w w'))
  case atStart => exact ⟨(y160), (false), (0), eq_b, eq_b, H', ⟨Nat.le_refl _⟩, ⟨by (with_reducible repeat (first | apply Kd.R_alloc | apply Kd.R_drewN | apply Kd.R_drew)); exact Kd.R_mono HO162.out (fun _ hk => hk.2)⟩, ⟨blk_a⟩, ⟨below_a⟩⟩
  case round =>
   clear H'
   try clear c1
   try clear p1
   try clear q1
   try clear hx1
   try clear p2
   try clear c3
   try clear c4 c4b0
   try clear c6 c6b0
   try clear c7 c7b0
   try clear c9
   try clear c10 c10b0
   try clear c11
   try clear p11 p11
   try clear q11 q11
   try clear hx11 hx11_0 hx11_1 hx11_2 hx11_3
   try clear hf11
   try clear p15
   try clear q15
   try clear hx15
   try clear c18
   try clear hx18 hx18_0 hx18_1 hx18_2 hx18_3
   try clear hf18
   try clear hcz13_0 hcz13_1 hcz13_2 hcz13_3
   try clear hcz17_0 hcz17_1 hcz17_2 hcz17_3
   try clear hcz21_0 hcz21_1 hcz21_2 hcz21_3
   try clear hcz26_0 hcz26_1 hcz26_2 hcz26_3
   try clear hfz13_0 hfz13_1 hfz13_2 hfz13_3
   try clear hfz17_0 hfz17_1 hfz17_2 hfz17_3
   try clear hfz21_0 hfz21_1 hfz21_2 hfz21_3
   try clear hfz26_0 hfz26_1 hfz26_2 hfz26_3
   try clear hx157_0 hx157_1 hx157_2 hx157_3
   try clear p157
   try clear q157
   obtain ⟨x8_1, x9_1, x10_1, rfl, rfl, HA, HK1, HO_8, BK152, HB⟩ := hrel
   cases gk with
   | zero => exact absurd HA.out (by simp [spec_l8Merge.l0])
   | succ k1 =>
    have H := HA.out; clear HA; simp only [spec_l8Merge.l0] at H
    by_cases c29 : x10_1 < (l0.length : Int)
    ·
     rw [if_pos c29] at H; have c29b0 : decide (x10_1 < (l0.length : Int)) = true := decide_eq_true c29; clear c29
     by_cases c30 : x9_1 = true
     ·
      subst c30; have H1 : (if 0 ≤ x10_1 then (if x8_1.length < 4398046511104 then (spec_l8Merge.l0 k1 l0 (x8_1 ++ [(⟨(rd_T31 l0 x10_1).f0, (rd_T31 l0 x10_1).f1, (rd_T31 l0 x10_1).f2, (rd_T31 l0 x10_1).f3⟩ : S31)]) true (wrap64 (x10_1 + 1)) a1_0 a1_1 a1_2 a1_3) else (none)) else (none)) = some (r1, r2) := by rw [if_pos rfl] at H; exact H
      clear H; have H := H1; clear H1
      by_cases c31 : 0 ≤ x10_1
      ·
       rw [if_pos c31] at H; have c31b0 : decide (0 ≤ x10_1) = true := decide_eq_true c31; clear c31
       by_cases c32 : x8_1.length < 4398046511104
       ·
        rw [if_pos c32] at H; have LMc32 := Aside0.mk c32; clear c32; obtain ⟨y164, hy164⟩ : ∃ y_ : List (S31), y_ = (x8_1 ++ [(⟨(rd_T31 l0 x10_1).f0, (rd_T31 l0 x10_1).f1, (rd_T31 l0 x10_1).f2, (rd_T31 l0 x10_1).f3⟩ : S31)]) := ⟨_, rfl⟩; replace H : (spec_l8Merge.l0 k1 l0 y164 true (wrap64 (x10_1 + 1)) a1_0 a1_1 a1_2 a1_3) = some (r1, r2) := by first | (rw [hy164]; with_reducible exact H) | (have H2_ := (Option.bind_some _ _).symm.trans H; rw [hy164]; with_reducible exact H2_) | (have H2_ := (Option.bind_some _ _).symm.trans H; with_reducible exact H2_) | with_reducible exact H | (rw [hy164]; exact H) | exact H
        have Ny164 := Aside0.mk hy164; clear hy164; have H' := Aside0.mk H; clear H
        try go_wp2
        replace HO_8 := Aside0.mk (Kd.R_drew HO_8.out); replace BK152 := Aside0.mk (blk_drew BK152.out); replace HB := Aside0.mk (below_drew1 HB.out); refine start_ (n := 12) (S := fun w' => True) (ds := []) #[Z',Z',Z',Z',Z',Z',Z',Z',Z',Z',Z',Z'] (by kernel_rfl) rfl rfl trivial (fun hHeld => ?_); refine with_tabW spec_l8Merge.tab13 spec_l8Merge.bits13 (fun HT_ HW_ => ?_); generalize wr.drew = w33 at HO_8 BK152 HB hHeld ⊢; refine pure_ (i := 0) (N := some 39) (v := ?_) (a' := ?_) #[Y',Z',Z',Z',Z',Z',Z',Z',Z',Z',Z',Z'] rfl rfl (any_of HT_.out (by kernel_rfl)) (fun _ _ _ h => h) (Or.inl ⟨by rfl, ?_⟩) ?_ ?_; rotate_left
        ·
         intro w'
         go_simp
         with_reducible rfl
        rotate_left
        ·
         simp only [Act.put, List.setIfInBounds_toArray, List.set_cons_zero, List.set_cons_succ, i64_w, i32_w]; rfl
        refine pure_ (i := 1) (N := some 40) (v := ?_) (a' := ?_) #[Y',Y',Z',Z',Z',Z',Z',Z',Z',Z',Z',Z'] rfl rfl (any_of HT_.out (by kernel_rfl)) (fun _ _ _ h => h) (Or.inl ⟨by rfl, ?_⟩) ?_ ?_; rotate_left
        ·
         intro w'
         go_simp
         with_reducible rfl
        rotate_left
        ·
         simp only [Act.put, List.setIfInBounds_toArray, List.set_cons_zero, List.set_cons_succ, i64_w, i32_w]; rfl
        refine pure_ (i := 2) (N := some 41) (v := ?_) (a' := ?_) #[Y',Y',Y',Z',Z',Z',Z',Z',Z',Z',Z',Z'] rfl rfl (any_of HT_.out (by kernel_rfl)) (fun _ _ _ h => h) (Or.inl ⟨by rfl, ?_⟩) ?_ ?_; rotate_left
        ·
         intro w'
         go_simp
         with_reducible rfl
        rotate_left
        ·
         simp only [Act.put, List.setIfInBounds_toArray, List.set_cons_zero, List.set_cons_succ, i64_w, i32_w]; rfl
        refine pure_ (i := 3) (N := some 42) (v := undef) (a' := ?_) #[Y',Y',Y',Y',Z',Z',Z',Z',Z',Z',Z',Z'] rfl rfl (any_of HT_.out (by kernel_rfl)) (fun _ _ _ h => h) (Or.inr ⟨by rfl, rfl⟩) ?_ ?_; rotate_left
        ·
         simp only [Act.put, List.setIfInBounds_toArray, List.set_cons_zero, List.set_cons_succ, i64_w, i32_w]; rfl
        refine pure_ (i := 4) (N := some 43) (v := undef) (a' := ?_) #[Y',Y',Y',Y',Y',Z',Z',Z',Z',Z',Z',Z'] rfl rfl (any_of HT_.out (by kernel_rfl)) (fun _ _ _ h => h) (Or.inr ⟨by rfl, rfl⟩) ?_ ?_; rotate_left
        ·
         simp only [Act.put, List.setIfInBounds_toArray, List.set_cons_zero, List.set_cons_succ, i64_w, i32_w]; rfl
        refine pure_ (i := 5) (N := some 44) (v := undef) (a' := ?_) #[Y',Y',Y',Y',Y',Y',Z',Z',Z',Z',Z',Z'] rfl rfl (any_of HT_.out (by kernel_rfl)) (fun _ _ _ h => h) (Or.inr ⟨by rfl, rfl⟩) ?_ ?_; rotate_left
        ·
         simp only [Act.put, List.setIfInBounds_toArray, List.set_cons_zero, List.set_cons_succ, i64_w, i32_w]; rfl
        refine pure_ (i := 6) (N := some 45) (v := undef) (a' := ?_) #[Y',Y',Y',Y',Y',Y',Y',Z',Z',Z',Z',Z'] rfl rfl (any_of HT_.out (by kernel_rfl)) (fun _ _ _ h => h) (Or.inr ⟨by rfl, rfl⟩) ?_ ?_; rotate_left
        ·
         simp only [Act.put, List.setIfInBounds_toArray, List.set_cons_zero, List.set_cons_succ, i64_w, i32_w]; rfl
        refine pure_ (i := 7) (N := some 46) (v := undef) (a' := ?_) #[Y',Y',Y',Y',Y',Y',Y',Y',Z',Z',Z',Z'] rfl rfl (any_of HT_.out (by kernel_rfl)) (fun _ _ _ h => h) (Or.inr ⟨by rfl, rfl⟩) ?_ ?_; rotate_left
        ·
         simp only [Act.put, List.setIfInBounds_toArray, List.set_cons_zero, List.set_cons_succ, i64_w, i32_w]; rfl
        refine pure_ (i := 8) (N := some 47) (v := undef) (a' := ?_) #[Y',Y',Y',Y',Y',Y',Y',Y',Y',Z',Z',Z'] rfl rfl (any_of HT_.out (by kernel_rfl)) (fun _ _ _ h => h) (Or.inr ⟨by rfl, rfl⟩) ?_ ?_; rotate_left
        ·
         simp only [Act.put, List.setIfInBounds_toArray, List.set_cons_zero, List.set_cons_succ, i64_w, i32_w]; rfl
        refine pure_ (i := 9) (N := some 48) (v := undef) (a' := ?_) #[Y',Y',Y',Y',Y',Y',Y',Y',Y',Y',Z',Z'] rfl rfl (any_of HT_.out (by kernel_rfl)) (fun _ _ _ h => h) (Or.inr ⟨by rfl, rfl⟩) ?_ ?_; rotate_left
        ·
         simp only [Act.put, List.setIfInBounds_toArray, List.set_cons_zero, List.set_cons_succ, i64_w, i32_w]; rfl
        refine pure_ (i := 10) (N := some 49) (v := undef) (a' := ?_) #[Y',Y',Y',Y',Y',Y',Y',Y',Y',Y',Y',Z'] rfl rfl (any_of HT_.out (by kernel_rfl)) (fun _ _ _ h => h) (Or.inr ⟨by rfl, rfl⟩) ?_ ?_; rotate_left
        ·
         simp only [Act.put, List.setIfInBounds_toArray, List.set_cons_zero, List.set_cons_succ, i64_w, i32_w]; rfl
        refine pure_ (i := 11) (N := some 50) (v := ?_) (a' := ?_) #[Y',Y',Y',Y',Y',Y',Y',Y',Y',Y',Y',Y'] rfl rfl (any_of HT_.out (by kernel_rfl)) (fun _ _ _ h => h) (Or.inl ⟨by rfl, ?_⟩) ?_ ?_; rotate_left
        ·
         intro w'
         go_simp
         with_reducible rfl
        rotate_left
        ·
         simp only [Act.put, List.setIfInBounds_toArray, List.set_cons_zero, List.set_cons_succ, i64_w, i32_w]; rfl
        refine done_ (done_of HT_.out (by kernel_rfl)) ?_; have p163 : 0 ≤ (x10_1 : Int) := of_decide_eq_true (by first | (with_reducible assumption) | assumption); have q163 : x10_1 < (l0.length : Int) := of_decide_eq_true (by first | (with_reducible assumption) | assumption); obtain ⟨ad163, e163, hx163_0, hx163_1, hx163_2, hx163_3⟩ := at_T31 HR0.out x10_1 p163 q163
        cases e163
        replace hx163_0 := (HB.out.cell (World.block_lt_of_cell? w _ hx163_0)).trans hx163_0; replace hx163_1 := (HB.out.cell (World.block_lt_of_cell? w _ hx163_1)).trans hx163_1; replace hx163_2 := (HB.out.cell (World.block_lt_of_cell? w _ hx163_2)).trans hx163_2; replace hx163_3 := (HB.out.cell (World.block_lt_of_cell? w _ hx163_3)).trans hx163_3; replace p163 := eq_true p163; replace q163 := eq_true q163
        try go_wp2_with (first | ((with_reducible refine gate_builtin (b := .append) (xs := #[.tmp 55, .tmp 60]) rfl ?_); at_builtin; refine Kd.R_append k31 (w0 := w) w.heap.size rfl (.tmp 55) (.tmp 60) 26 31 (.agg #[(.int .i64 0), (.int .i64 0), (.int .i64 0), (.int .i64 0)]) 32 rfl Try.underlying26 info31 rfl (by decide) (by omega) u8 x8_1 (⟨(rd_T31 l0 x10_1).f0, (rd_T31 l0 x10_1).f1, (rd_T31 l0 x10_1).f2, (rd_T31 l0 x10_1).f3⟩ : S31) [.int .i64 ((rd_T31 l0 x10_1).f0), .int .i64 ((rd_T31 l0 x10_1).f1), .int .i64 ((rd_T31 l0 x10_1).f2), .int .i64 ((rd_T31 l0 x10_1).f3)] (fun k_ => k_ ≠ gb152) (fun _ => False) rfl rfl ?aP (fun _ hk => hk.elim) ?aF ?aO ?aB ?aS ?aL ?_; (case aP => exact k31_mkM _ _ _ (⟨(rd_T31 l0 x10_1).f0, (rd_T31 l0 x10_1).f1, (rd_T31 l0 x10_1).f2, (rd_T31 l0 x10_1).f3⟩ : S31)); (case aB => exact below_a); (case aF => exact (fun k_ hk => Kd.freshB (g := gb152) blk_c k_ hk)); (case aO => exact (R_a HO_8.out)); (case aS => exact (below_size below_a)); (case aL => have := LMc32.out; omega); intro v165 w34 ho hb hg hat; rw [← Ny164.out] at ho; replace BK152 := Aside0.mk (blk_grown (g := gb152) blk_c hg (Kd.R_away HO_8.out (fun _ hk => hk))); replace HB := Aside0.mk (hb); have HO166 := Aside0.mk (ho); clear HO_8; clear ho hb hg hat))
        go_roundg k1
        case measure => have := HK1.out; omega
        case rel => exact ⟨(y164), (true), (wrap64 (x10_1 + 1)), eq_b, eq_b, H', ⟨by have := HK1.out; omega⟩, ⟨R_a HO166.out⟩, ⟨blk_a⟩, ⟨below_a⟩⟩
       ·
        rw [if_neg c32] at H; exact absurd H (by simp)
      ·
       rw [if_neg c31] at H; exact absurd H (by simp)
     ·
      replace c30 := Bool.eq_false_iff.mpr c30; subst c30; have H1 : (if 0 ≤ x10_1 then (if ((rd_T31 l0 x10_1).f0) > a1_0 then (if x8_1.length < 4398046511104 then ((some (x8_1 ++ [(⟨a1_0, a1_1, a1_2, a1_3⟩ : S31)] : List (S31))).bind fun y168 => (if y168.length < 4398046511104 then (spec_l8Merge.l0 k1 l0 (y168 ++ [(⟨(rd_T31 l0 x10_1).f0, (rd_T31 l0 x10_1).f1, (rd_T31 l0 x10_1).f2, (rd_T31 l0 x10_1).f3⟩ : S31)]) true (wrap64 (x10_1 + 1)) a1_0 a1_1 a1_2 a1_3) else (none))) else (none)) else (if x8_1.length < 4398046511104 then (spec_l8Merge.l0 k1 l0 (x8_1 ++ [(⟨(rd_T31 l0 x10_1).f0, (rd_T31 l0 x10_1).f1, (rd_T31 l0 x10_1).f2, (rd_T31 l0 x10_1).f3⟩ : S31)]) false (wrap64 (x10_1 + 1)) a1_0 a1_1 a1_2 a1_3) else (none))) else (none)) = some (r1, r2) := by rw [if_neg (show ¬ (false = true) by decide)] at H; exact H
      clear H; have H := H1; clear H1
      by_cases c35 : 0 ≤ x10_1
      ·
       rw [if_pos c35] at H; have c35b0 : decide (0 ≤ x10_1) = true := decide_eq_true c35; clear c35
       by_cases c36 : ((rd_T31 l0 x10_1).f0) > a1_0
       ·
        rw [if_pos c36] at H; have c36b0 : decide (a1_0 < ((rd_T31 l0 x10_1).f0)) = true := decide_eq_true c36; clear c36
        by_cases c37 : x8_1.length < 4398046511104
        ·
         rw [if_pos c37] at H; have LMc37 := Aside0.mk c37; clear c37; obtain ⟨y168, hy168⟩ : ∃ y_ : List (S31), y_ = (x8_1 ++ [(⟨a1_0, a1_1, a1_2, a1_3⟩ : S31)]) := ⟨_, rfl⟩; replace H : (if y168.length < 4398046511104 then (spec_l8Merge.l0 k1 l0 (y168 ++ [(⟨(rd_T31 l0 x10_1).f0, (rd_T31 l0 x10_1).f1, (rd_T31 l0 x10_1).f2, (rd_T31 l0 x10_1).f3⟩ : S31)]) true (wrap64 (x10_1 + 1)) a1_0 a1_1 a1_2 a1_3) else (none)) = some (r1, r2) := by first | (rw [hy168]; with_reducible exact H) | (have H2_ := (Option.bind_some _ _).symm.trans H; rw [hy168]; with_reducible exact H2_) | (have H2_ := (Option.bind_some _ _).symm.trans H; with_reducible exact H2_) | with_reducible exact H | (rw [hy168]; exact H) | exact H
         have Ny168 := Aside0.mk hy168; clear hy168
         by_cases c38 : y168.length < 4398046511104
         ·
          rw [if_pos c38] at H; have LMc38 := Aside0.mk c38; clear c38; obtain ⟨y172, hy172⟩ : ∃ y_ : List (S31), y_ = (y168 ++ [(⟨(rd_T31 l0 x10_1).f0, (rd_T31 l0 x10_1).f1, (rd_T31 l0 x10_1).f2, (rd_T31 l0 x10_1).f3⟩ : S31)]) := ⟨_, rfl⟩; replace H : (spec_l8Merge.l0 k1 l0 y172 true (wrap64 (x10_1 + 1)) a1_0 a1_1 a1_2 a1_3) = some (r1, r2) := by first | (rw [hy172]; with_reducible exact H) | (have H2_ := (Option.bind_some _ _).symm.trans H; rw [hy172]; with_reducible exact H2_) | (have H2_ := (Option.bind_some _ _).symm.trans H; with_reducible exact H2_) | with_reducible exact H | (rw [hy172]; exact H) | exact H
          have Ny172 := Aside0.mk hy172; clear hy172; have H' := Aside0.mk H; clear H
          try go_wp2
          replace HO_8 := Aside0.mk (Kd.R_drew HO_8.out); replace BK152 := Aside0.mk (blk_drew BK152.out); replace HB := Aside0.mk (below_drew1 HB.out); have p167 : 0 ≤ (x10_1 : Int) := of_decide_eq_true (by first | (with_reducible assumption) | assumption); have q167 : x10_1 < (l0.length : Int) := of_decide_eq_true (by first | (with_reducible assumption) | assumption); obtain ⟨ad167, e167, hx167_0, hx167_1, hx167_2, hx167_3⟩ := at_T31 HR0.out x10_1 p167 q167; have hw167_3 := hx167_3; have hw167_2 := hx167_2; have hw167_1 := hx167_1; have hw167_0 := hx167_0
          cases e167
          replace hx167_0 := (HB.out.cell (World.block_lt_of_cell? w _ hx167_0)).trans hx167_0; replace hx167_1 := (HB.out.cell (World.block_lt_of_cell? w _ hx167_1)).trans hx167_1; replace hx167_2 := (HB.out.cell (World.block_lt_of_cell? w _ hx167_2)).trans hx167_2; replace hx167_3 := (HB.out.cell (World.block_lt_of_cell? w _ hx167_3)).trans hx167_3; replace p167 := eq_true p167; replace q167 := eq_true q167; refine start_ (n := 12) (S := fun w' => w'.cell? ⟨gb152, 0, none⟩ = some (.int .i64 a1_0) ∧ w'.cell? ⟨gb152, 1, none⟩ = some (.int .i64 a1_1) ∧ w'.cell? ⟨gb152, 2, none⟩ = some (.int .i64 a1_2) ∧ w'.cell? ⟨gb152, 3, none⟩ = some (.int .i64 a1_3) ∧ w'.cell? (ad167.add ((x10_1).toNat * 4)) = some (.int .i64 ((rd_T31 l0 x10_1).f0)) ∧ w'.cell? ⟨(ad167.add ((x10_1).toNat * 4)).block, (ad167.add ((x10_1).toNat * 4)).off + 1, none⟩ = some (.int .i64 ((rd_T31 l0 x10_1).f1)) ∧ w'.cell? ⟨(ad167.add ((x10_1).toNat * 4)).block, (ad167.add ((x10_1).toNat * 4)).off + 2, none⟩ = some (.int .i64 ((rd_T31 l0 x10_1).f2)) ∧ w'.cell? ⟨(ad167.add ((x10_1).toNat * 4)).block, (ad167.add ((x10_1).toNat * 4)).off + 3, none⟩ = some (.int .i64 ((rd_T31 l0 x10_1).f3))) (ds := []) #[Z',Z',Z',Z',Z',Z',Z',Z',Z',Z',Z',Z'] (by kernel_rfl) rfl rfl ⟨(blk_cell BK152.out 0).trans rfl, (blk_cell BK152.out 1).trans rfl, (blk_cell BK152.out 2).trans rfl, (blk_cell BK152.out 3).trans rfl, ((HB.out.cell (World.block_lt_of_cell? w _ hw167_0)).trans hw167_0), ((HB.out.cell (World.block_lt_of_cell? w _ hw167_1)).trans hw167_1), ((HB.out.cell (World.block_lt_of_cell? w _ hw167_2)).trans hw167_2), ((HB.out.cell (World.block_lt_of_cell? w _ hw167_3)).trans hw167_3)⟩ (fun hHeld => ?_); refine with_tabW spec_l8Merge.tab13 spec_l8Merge.bits13 (fun HT_ HW_ => ?_); generalize wr.drew = w39 at HO_8 BK152 HB hx167_0 hx167_1 hx167_2 hx167_3 hHeld ⊢; refine pure_ (i := 0) (N := some 39) (v := ?_) (a' := ?_) #[Y',Z',Z',Z',Z',Z',Z',Z',Z',Z',Z',Z'] rfl rfl (any_of HT_.out (by kernel_rfl)) (fun _ _ _ h => h) (Or.inl ⟨by rfl, ?_⟩) ?_ ?_; rotate_left
          ·
           intro w'
           go_simp
           with_reducible rfl
          rotate_left
          ·
           simp only [Act.put, List.setIfInBounds_toArray, List.set_cons_zero, List.set_cons_succ, i64_w, i32_w]; rfl
          refine pure_ (i := 1) (N := some 40) (v := ?_) (a' := ?_) #[Y',Y',Z',Z',Z',Z',Z',Z',Z',Z',Z',Z'] rfl rfl (any_of HT_.out (by kernel_rfl)) (fun _ _ _ h => h) (Or.inl ⟨by rfl, ?_⟩) ?_ ?_; rotate_left
          ·
           intro w'
           go_simp
           with_reducible rfl
          rotate_left
          ·
           simp only [Act.put, List.setIfInBounds_toArray, List.set_cons_zero, List.set_cons_succ, i64_w, i32_w]; rfl
          refine pure_ (i := 2) (N := some 41) (v := ?_) (a' := ?_) #[Y',Y',Y',Z',Z',Z',Z',Z',Z',Z',Z',Z'] rfl rfl (any_of HT_.out (by kernel_rfl)) (fun _ _ _ h => h) (Or.inl ⟨by rfl, ?_⟩) ?_ ?_; rotate_left
          ·
           intro w'
           go_simp
           with_reducible rfl
          rotate_left
          ·
           simp only [Act.put, List.setIfInBounds_toArray, List.set_cons_zero, List.set_cons_succ, i64_w, i32_w]; rfl
          refine pure_ (i := 3) (N := some 42) (v := ?_) (a' := ?_) #[Y',Y',Y',Y',Z',Z',Z',Z',Z',Z',Z',Z'] rfl rfl (any_of HT_.out (by kernel_rfl)) (fun _ _ _ h => h) (Or.inl ⟨by rfl, ?_⟩) ?_ ?_; rotate_left
          ·
           intro w'
           go_simp
           with_reducible rfl
          rotate_left
          ·
           simp only [Act.put, List.setIfInBounds_toArray, List.set_cons_zero, List.set_cons_succ, i64_w, i32_w]; rfl
          refine pure_ (i := 4) (N := some 43) (v := ?_) (a' := ?_) #[Y',Y',Y',Y',Y',Z',Z',Z',Z',Z',Z',Z'] rfl rfl (any_of HT_.out (by kernel_rfl)) (fun _ _ _ h => h) (Or.inl ⟨by rfl, ?_⟩) ?_ ?_; rotate_left
          ·
           intro w'
           go_simp
           with_reducible rfl
          rotate_left
          ·
           simp only [Act.put, List.setIfInBounds_toArray, List.set_cons_zero, List.set_cons_succ, i64_w, i32_w]; rfl
          refine pure_ (i := 5) (N := some 44) (v := ?_) (a' := ?_) #[Y',Y',Y',Y',Y',Y',Z',Z',Z',Z',Z',Z'] rfl rfl (any_of HT_.out (by kernel_rfl)) (fun _ _ _ h => h) (Or.inl ⟨by rfl, ?_⟩) ?_ ?_; rotate_left
          ·
           intro w'
           go_simp
           with_reducible rfl
          rotate_left
          ·
           simp only [Act.put, List.setIfInBounds_toArray, List.set_cons_zero, List.set_cons_succ, i64_w, i32_w]; rfl
          refine pure_ (i := 6) (N := some 45) (v := ?_) (a' := ?_) #[Y',Y',Y',Y',Y',Y',Y',Z',Z',Z',Z',Z'] rfl rfl (any_of HT_.out (by kernel_rfl)) (fun _ _ _ h => h) (Or.inl ⟨by rfl, ?_⟩) ?_ ?_; rotate_left
          ·
           intro w'
           go_simp
           with_reducible rfl
          rotate_left
          ·
           simp only [Act.put, List.setIfInBounds_toArray, List.set_cons_zero, List.set_cons_succ, i64_w, i32_w]; rfl
          refine pure_ (i := 8) (N := some 47) (v := ?_) (a' := ?_) #[Y',Y',Y',Y',Y',Y',Y',Z',Y',Z',Z',Z'] rfl rfl (any_of HT_.out (by kernel_rfl)) (fun _ _ _ h => h) (Or.inl ⟨by rfl, ?_⟩) ?_ ?_; rotate_left
          ·
           intro w'
           go_simp
           with_reducible rfl
          rotate_left
          ·
           simp only [Act.put, List.setIfInBounds_toArray, List.set_cons_zero, List.set_cons_succ, i64_w, i32_w]; rfl
          refine take_ (i := 7) (N := some 46) (v := ?_) (a' := ?_) #[Y',Y',Y',Y',Y',Y',Y',Y',Y',Z',Z',Z'] rfl rfl (take_ofW HT_.out HW_.out (by kernel_rfl)) (fun _ _ _ h => h) (Or.inl ⟨by rfl, ?_⟩) hHeld ?_ ?_; rotate_left
          ·
           rintro w' ⟨s0, s1, s2, s3, s4, s5, s6, s7⟩
           go_simp
           with_reducible rfl
          rotate_left
          ·
           simp only [Act.put, List.setIfInBounds_toArray, List.set_cons_zero, List.set_cons_succ, i64_w, i32_w]; rfl
          refine take_ (i := 9) (N := some 48) (v := ?_) (a' := ?_) #[Y',Y',Y',Y',Y',Y',Y',Y',Y',Y',Z',Z'] rfl rfl (take_ofW HT_.out HW_.out (by kernel_rfl)) (fun _ _ _ h => h) (Or.inl ⟨by rfl, ?_⟩) hHeld ?_ ?_; rotate_left
          ·
           rintro w' ⟨s0, s1, s2, s3, s4, s5, s6, s7⟩
           go_simp
           with_reducible rfl
          rotate_left
          ·
           simp only [Act.put, List.setIfInBounds_toArray, List.set_cons_zero, List.set_cons_succ, i64_w, i32_w]; rfl
          refine pure_ (i := 10) (N := some 49) (v := ?_) (a' := ?_) #[Y',Y',Y',Y',Y',Y',Y',Y',Y',Y',Y',Z'] rfl rfl (any_of HT_.out (by kernel_rfl)) (fun _ _ _ h => h) (Or.inl ⟨by rfl, ?_⟩) ?_ ?_; rotate_left
          ·
           intro w'
           go_simp
           with_reducible rfl
          rotate_left
          ·
           simp only [Act.put, List.setIfInBounds_toArray, List.set_cons_zero, List.set_cons_succ, i64_w, i32_w]; rfl
          refine pure_ (i := 11) (N := some 50) (v := ?_) (a' := ?_) #[Y',Y',Y',Y',Y',Y',Y',Y',Y',Y',Y',Y'] rfl rfl (any_of HT_.out (by kernel_rfl)) (fun _ _ _ h => h) (Or.inl ⟨by rfl, ?_⟩) ?_ ?_; rotate_left
          ·
           intro w'
           go_simp
           with_reducible rfl
          rotate_left
          ·
           simp only [Act.put, List.setIfInBounds_toArray, List.set_cons_zero, List.set_cons_succ, i64_w, i32_w]; rfl
          refine done_ (done_of HT_.out (by kernel_rfl)) ?_; obtain ⟨hcz40_0, hcz40_1, hcz40_2, hcz40_3, hfz40_0, hfz40_1, hfz40_2, hfz40_3⟩ := bc4_ BK152.out
          try go_wp2_with (first | ((with_reducible refine gate_builtin (b := .append) (xs := #[.tmp 51, .tmp 53]) rfl ?_); at_builtin; refine Kd.R_append k31 (w0 := w) w.heap.size rfl (.tmp 51) (.tmp 53) 26 31 (.agg #[(.int .i64 0), (.int .i64 0), (.int .i64 0), (.int .i64 0)]) 32 rfl Try.underlying26 info31 rfl (by decide) (by omega) u8 x8_1 (⟨a1_0, a1_1, a1_2, a1_3⟩ : S31) [.int .i64 a1_0, .int .i64 a1_1, .int .i64 a1_2, .int .i64 a1_3] (fun k_ => k_ ≠ gb152) (fun _ => False) rfl rfl ?aP (fun _ hk => hk.elim) ?aF ?aO ?aB ?aS ?aL ?_; (case aP => exact k31_mkM _ _ _ (⟨a1_0, a1_1, a1_2, a1_3⟩ : S31)); (case aB => exact below_a); (case aF => exact (fun k_ hk => Kd.freshB (g := gb152) blk_c k_ hk)); (case aO => exact (R_a HO_8.out)); (case aS => exact (below_size below_a)); (case aL => have := LMc37.out; omega); intro v169 w41 ho hb hg hat; rw [← Ny168.out] at ho; replace BK152 := Aside0.mk (blk_grown (g := gb152) blk_c hg (Kd.R_away HO_8.out (fun _ hk => hk))); replace HB := Aside0.mk (hb); have HO170 := Aside0.mk (ho); clear HO_8; clear ho hb hg hat; have p171 : 0 ≤ (x10_1 : Int) := of_decide_eq_true (by first | (with_reducible assumption) | assumption); have q171 : x10_1 < (l0.length : Int) := of_decide_eq_true (by first | (with_reducible assumption) | assumption); obtain ⟨ad171, e171, hx171_0, hx171_1, hx171_2, hx171_3⟩ := at_T31 HR0.out x10_1 p171 q171; obtain rfl : ad167 = ad171 := (by injection e171); replace hx171_0 := (HB.out.cell (World.block_lt_of_cell? w _ hx171_0)).trans hx171_0; replace hx171_1 := (HB.out.cell (World.block_lt_of_cell? w _ hx171_1)).trans hx171_1; replace hx171_2 := (HB.out.cell (World.block_lt_of_cell? w _ hx171_2)).trans hx171_2; replace hx171_3 := (HB.out.cell (World.block_lt_of_cell? w _ hx171_3)).trans hx171_3; replace p171 := eq_true p171; replace q171 := eq_true q171) | ((with_reducible refine gate_builtin (b := .append) (xs := #[.tmp 55, .tmp 60]) rfl ?_); at_builtin; refine Kd.R_append k31 (w0 := w) w.heap.size rfl (.tmp 55) (.tmp 60) 26 31 (.agg #[(.int .i64 0), (.int .i64 0), (.int .i64 0), (.int .i64 0)]) 32 rfl Try.underlying26 info31 rfl (by decide) (by omega) v169 y168 (⟨(rd_T31 l0 x10_1).f0, (rd_T31 l0 x10_1).f1, (rd_T31 l0 x10_1).f2, (rd_T31 l0 x10_1).f3⟩ : S31) [.int .i64 ((rd_T31 l0 x10_1).f0), .int .i64 ((rd_T31 l0 x10_1).f1), .int .i64 ((rd_T31 l0 x10_1).f2), .int .i64 ((rd_T31 l0 x10_1).f3)] (fun k_ => k_ ≠ gb152) (fun _ => False) rfl rfl ?aP (fun _ hk => hk.elim) ?aF ?aO ?aB ?aS ?aL ?_; (case aP => exact k31_mkM _ _ _ (⟨(rd_T31 l0 x10_1).f0, (rd_T31 l0 x10_1).f1, (rd_T31 l0 x10_1).f2, (rd_T31 l0 x10_1).f3⟩ : S31)); (case aB => exact below_a); (case aF => exact (fun k_ hk => Kd.freshB (g := gb152) blk_c k_ hk)); (case aO => exact (R_a HO170.out)); (case aS => exact (below_size below_a)); (case aL => have := LMc38.out; omega); intro v173 w42 ho hb hg hat; rw [← Ny172.out] at ho; replace BK152 := Aside0.mk (blk_grown (g := gb152) blk_c hg (Kd.R_away HO170.out (fun _ hk => hk))); replace HB := Aside0.mk (hb); have HO174 := Aside0.mk (ho); clear HO170; clear ho hb hg hat))
          go_roundg k1
          case measure => have := HK1.out; omega
          case rel => exact ⟨(y172), (true), (wrap64 (x10_1 + 1)), eq_b, eq_b, H', ⟨by have := HK1.out; omega⟩, ⟨R_a HO174.out⟩, ⟨blk_a⟩, ⟨below_a⟩⟩
         ·
          rw [if_neg c38] at H; exact absurd H (by simp)
        ·
         rw [if_neg c37] at H; exact absurd H (by simp)
       ·
        rw [if_neg c36] at H; have c36b0 : decide (a1_0 < ((rd_T31 l0 x10_1).f0)) = false := decide_eq_false c36; clear c36
        by_cases c43 : x8_1.length < 4398046511104
        ·
         rw [if_pos c43] at H; have LMc43 := Aside0.mk c43; clear c43; obtain ⟨y176, hy176⟩ : ∃ y_ : List (S31), y_ = (x8_1 ++ [(⟨(rd_T31 l0 x10_1).f0, (rd_T31 l0 x10_1).f1, (rd_T31 l0 x10_1).f2, (rd_T31 l0 x10_1).f3⟩ : S31)]) := ⟨_, rfl⟩; replace H : (spec_l8Merge.l0 k1 l0 y176 false (wrap64 (x10_1 + 1)) a1_0 a1_1 a1_2 a1_3) = some (r1, r2) := by first | (rw [hy176]; with_reducible exact H) | (have H2_ := (Option.bind_some _ _).symm.trans H; rw [hy176]; with_reducible exact H2_) | (have H2_ := (Option.bind_some _ _).symm.trans H; with_reducible exact H2_) | with_reducible exact H | (rw [hy176]; exact H) | exact H
         have Ny176 := Aside0.mk hy176; clear hy176; have H' := Aside0.mk H; clear H
         try go_wp2
         replace HO_8 := Aside0.mk (Kd.R_drew HO_8.out); replace BK152 := Aside0.mk (blk_drew BK152.out); replace HB := Aside0.mk (below_drew1 HB.out); have p167 : 0 ≤ (x10_1 : Int) := of_decide_eq_true (by first | (with_reducible assumption) | assumption); have q167 : x10_1 < (l0.length : Int) := of_decide_eq_true (by first | (with_reducible assumption) | assumption); obtain ⟨ad167, e167, hx167_0, hx167_1, hx167_2, hx167_3⟩ := at_T31 HR0.out x10_1 p167 q167; have hw167_3 := hx167_3; have hw167_2 := hx167_2; have hw167_1 := hx167_1; have hw167_0 := hx167_0
         cases e167
         replace hx167_0 := (HB.out.cell (World.block_lt_of_cell? w _ hx167_0)).trans hx167_0; replace hx167_1 := (HB.out.cell (World.block_lt_of_cell? w _ hx167_1)).trans hx167_1; replace hx167_2 := (HB.out.cell (World.block_lt_of_cell? w _ hx167_2)).trans hx167_2; replace hx167_3 := (HB.out.cell (World.block_lt_of_cell? w _ hx167_3)).trans hx167_3; replace p167 := eq_true p167; replace q167 := eq_true q167; refine start_ (n := 12) (S := fun w' => w'.cell? ⟨gb152, 0, none⟩ = some (.int .i64 a1_0) ∧ w'.cell? ⟨gb152, 1, none⟩ = some (.int .i64 a1_1) ∧ w'.cell? ⟨gb152, 2, none⟩ = some (.int .i64 a1_2) ∧ w'.cell? ⟨gb152, 3, none⟩ = some (.int .i64 a1_3) ∧ w'.cell? (ad167.add ((x10_1).toNat * 4)) = some (.int .i64 ((rd_T31 l0 x10_1).f0)) ∧ w'.cell? ⟨(ad167.add ((x10_1).toNat * 4)).block, (ad167.add ((x10_1).toNat * 4)).off + 1, none⟩ = some (.int .i64 ((rd_T31 l0 x10_1).f1)) ∧ w'.cell? ⟨(ad167.add ((x10_1).toNat * 4)).block, (ad167.add ((x10_1).toNat * 4)).off + 2, none⟩ = some (.int .i64 ((rd_T31 l0 x10_1).f2)) ∧ w'.cell? ⟨(ad167.add ((x10_1).toNat * 4)).block, (ad167.add ((x10_1).toNat * 4)).off + 3, none⟩ = some (.int .i64 ((rd_T31 l0 x10_1).f3))) (ds := []) #[Z',Z',Z',Z',Z',Z',Z',Z',Z',Z',Z',Z'] (by kernel_rfl) rfl rfl ⟨(blk_cell BK152.out 0).trans rfl, (blk_cell BK152.out 1).trans rfl, (blk_cell BK152.out 2).trans rfl, (blk_cell BK152.out 3).trans rfl, ((HB.out.cell (World.block_lt_of_cell? w _ hw167_0)).trans hw167_0), ((HB.out.cell (World.block_lt_of_cell? w _ hw167_1)).trans hw167_1), ((HB.out.cell (World.block_lt_of_cell? w _ hw167_2)).trans hw167_2), ((HB.out.cell (World.block_lt_of_cell? w _ hw167_3)).trans hw167_3)⟩ (fun hHeld => ?_); refine with_tabW spec_l8Merge.tab13 spec_l8Merge.bits13 (fun HT_ HW_ => ?_); generalize wr.drew = w44 at HO_8 BK152 HB hx167_0 hx167_1 hx167_2 hx167_3 hHeld ⊢; refine pure_ (i := 0) (N := some 39) (v := ?_) (a' := ?_) #[Y',Z',Z',Z',Z',Z',Z',Z',Z',Z',Z',Z'] rfl rfl (any_of HT_.out (by kernel_rfl)) (fun _ _ _ h => h) (Or.inl ⟨by rfl, ?_⟩) ?_ ?_; rotate_left
         ·
          intro w'
          go_simp
          with_reducible rfl
         rotate_left
         ·
          simp only [Act.put, List.setIfInBounds_toArray, List.set_cons_zero, List.set_cons_succ, i64_w, i32_w]; rfl
         refine pure_ (i := 1) (N := some 40) (v := ?_) (a' := ?_) #[Y',Y',Z',Z',Z',Z',Z',Z',Z',Z',Z',Z'] rfl rfl (any_of HT_.out (by kernel_rfl)) (fun _ _ _ h => h) (Or.inl ⟨by rfl, ?_⟩) ?_ ?_; rotate_left
         ·
          intro w'
          go_simp
          with_reducible rfl
         rotate_left
         ·
          simp only [Act.put, List.setIfInBounds_toArray, List.set_cons_zero, List.set_cons_succ, i64_w, i32_w]; rfl
         refine pure_ (i := 2) (N := some 41) (v := ?_) (a' := ?_) #[Y',Y',Y',Z',Z',Z',Z',Z',Z',Z',Z',Z'] rfl rfl (any_of HT_.out (by kernel_rfl)) (fun _ _ _ h => h) (Or.inl ⟨by rfl, ?_⟩) ?_ ?_; rotate_left
         ·
          intro w'
          go_simp
          with_reducible rfl
         rotate_left
         ·
          simp only [Act.put, List.setIfInBounds_toArray, List.set_cons_zero, List.set_cons_succ, i64_w, i32_w]; rfl
         refine pure_ (i := 3) (N := some 42) (v := ?_) (a' := ?_) #[Y',Y',Y',Y',Z',Z',Z',Z',Z',Z',Z',Z'] rfl rfl (any_of HT_.out (by kernel_rfl)) (fun _ _ _ h => h) (Or.inl ⟨by rfl, ?_⟩) ?_ ?_; rotate_left
         ·
          intro w'
          go_simp
          with_reducible rfl
         rotate_left
         ·
          simp only [Act.put, List.setIfInBounds_toArray, List.set_cons_zero, List.set_cons_succ, i64_w, i32_w]; rfl
         refine pure_ (i := 4) (N := some 43) (v := ?_) (a' := ?_) #[Y',Y',Y',Y',Y',Z',Z',Z',Z',Z',Z',Z'] rfl rfl (any_of HT_.out (by kernel_rfl)) (fun _ _ _ h => h) (Or.inl ⟨by rfl, ?_⟩) ?_ ?_; rotate_left
         ·
          intro w'
          go_simp
          with_reducible rfl
         rotate_left
         ·
          simp only [Act.put, List.setIfInBounds_toArray, List.set_cons_zero, List.set_cons_succ, i64_w, i32_w]; rfl
         refine pure_ (i := 5) (N := some 44) (v := ?_) (a' := ?_) #[Y',Y',Y',Y',Y',Y',Z',Z',Z',Z',Z',Z'] rfl rfl (any_of HT_.out (by kernel_rfl)) (fun _ _ _ h => h) (Or.inl ⟨by rfl, ?_⟩) ?_ ?_; rotate_left
         ·
          intro w'
          go_simp
          with_reducible rfl
         rotate_left
         ·
          simp only [Act.put, List.setIfInBounds_toArray, List.set_cons_zero, List.set_cons_succ, i64_w, i32_w]; rfl
         refine pure_ (i := 6) (N := some 45) (v := ?_) (a' := ?_) #[Y',Y',Y',Y',Y',Y',Y',Z',Z',Z',Z',Z'] rfl rfl (any_of HT_.out (by kernel_rfl)) (fun _ _ _ h => h) (Or.inl ⟨by rfl, ?_⟩) ?_ ?_; rotate_left
         ·
          intro w'
          go_simp
          with_reducible rfl
         rotate_left
         ·
          simp only [Act.put, List.setIfInBounds_toArray, List.set_cons_zero, List.set_cons_succ, i64_w, i32_w]; rfl
         refine pure_ (i := 8) (N := some 47) (v := ?_) (a' := ?_) #[Y',Y',Y',Y',Y',Y',Y',Z',Y',Z',Z',Z'] rfl rfl (any_of HT_.out (by kernel_rfl)) (fun _ _ _ h => h) (Or.inl ⟨by rfl, ?_⟩) ?_ ?_; rotate_left
         ·
          intro w'
          go_simp
          with_reducible rfl
         rotate_left
         ·
          simp only [Act.put, List.setIfInBounds_toArray, List.set_cons_zero, List.set_cons_succ, i64_w, i32_w]; rfl
         refine take_ (i := 7) (N := some 46) (v := ?_) (a' := ?_) #[Y',Y',Y',Y',Y',Y',Y',Y',Y',Z',Z',Z'] rfl rfl (take_ofW HT_.out HW_.out (by kernel_rfl)) (fun _ _ _ h => h) (Or.inl ⟨by rfl, ?_⟩) hHeld ?_ ?_; rotate_left
         ·
          rintro w' ⟨s0, s1, s2, s3, s4, s5, s6, s7⟩
          go_simp
          with_reducible rfl
         rotate_left
         ·
          simp only [Act.put, List.setIfInBounds_toArray, List.set_cons_zero, List.set_cons_succ, i64_w, i32_w]; rfl
         refine take_ (i := 9) (N := some 48) (v := ?_) (a' := ?_) #[Y',Y',Y',Y',Y',Y',Y',Y',Y',Y',Z',Z'] rfl rfl (take_ofW HT_.out HW_.out (by kernel_rfl)) (fun _ _ _ h => h) (Or.inl ⟨by rfl, ?_⟩) hHeld ?_ ?_; rotate_left
         ·
          rintro w' ⟨s0, s1, s2, s3, s4, s5, s6, s7⟩
          go_simp
          with_reducible rfl
         rotate_left
         ·
          simp only [Act.put, List.setIfInBounds_toArray, List.set_cons_zero, List.set_cons_succ, i64_w, i32_w]; rfl
         refine pure_ (i := 10) (N := some 49) (v := ?_) (a' := ?_) #[Y',Y',Y',Y',Y',Y',Y',Y',Y',Y',Y',Z'] rfl rfl (any_of HT_.out (by kernel_rfl)) (fun _ _ _ h => h) (Or.inl ⟨by rfl, ?_⟩) ?_ ?_; rotate_left
         ·
          intro w'
          go_simp
          with_reducible rfl
         rotate_left
         ·
          simp only [Act.put, List.setIfInBounds_toArray, List.set_cons_zero, List.set_cons_succ, i64_w, i32_w]; rfl
         refine pure_ (i := 11) (N := some 50) (v := ?_) (a' := ?_) #[Y',Y',Y',Y',Y',Y',Y',Y',Y',Y',Y',Y'] rfl rfl (any_of HT_.out (by kernel_rfl)) (fun _ _ _ h => h) (Or.inl ⟨by rfl, ?_⟩) ?_ ?_; rotate_left
         ·
          intro w'
          go_simp
          with_reducible rfl
         rotate_left
         ·
          simp only [Act.put, List.setIfInBounds_toArray, List.set_cons_zero, List.set_cons_succ, i64_w, i32_w]; rfl
         refine done_ (done_of HT_.out (by kernel_rfl)) ?_; have p175 : 0 ≤ (x10_1 : Int) := of_decide_eq_true (by first | (with_reducible assumption) | assumption); have q175 : x10_1 < (l0.length : Int) := of_decide_eq_true (by first | (with_reducible assumption) | assumption); obtain ⟨ad175, e175, hx175_0, hx175_1, hx175_2, hx175_3⟩ := at_T31 HR0.out x10_1 p175 q175; obtain rfl : ad167 = ad175 := (by injection e175); replace hx175_0 := (HB.out.cell (World.block_lt_of_cell? w _ hx175_0)).trans hx175_0; replace hx175_1 := (HB.out.cell (World.block_lt_of_cell? w _ hx175_1)).trans hx175_1; replace hx175_2 := (HB.out.cell (World.block_lt_of_cell? w _ hx175_2)).trans hx175_2; replace hx175_3 := (HB.out.cell (World.block_lt_of_cell? w _ hx175_3)).trans hx175_3; replace p175 := eq_true p175; replace q175 := eq_true q175
         try go_wp2_with (first | ((with_reducible refine gate_builtin (b := .append) (xs := #[.tmp 55, .tmp 60]) rfl ?_); at_builtin; refine Kd.R_append k31 (w0 := w) w.heap.size rfl (.tmp 55) (.tmp 60) 26 31 (.agg #[(.int .i64 0), (.int .i64 0), (.int .i64 0), (.int .i64 0)]) 32 rfl Try.underlying26 info31 rfl (by decide) (by omega) u8 x8_1 (⟨(rd_T31 l0 x10_1).f0, (rd_T31 l0 x10_1).f1, (rd_T31 l0 x10_1).f2, (rd_T31 l0 x10_1).f3⟩ : S31) [.int .i64 ((rd_T31 l0 x10_1).f0), .int .i64 ((rd_T31 l0 x10_1).f1), .int .i64 ((rd_T31 l0 x10_1).f2), .int .i64 ((rd_T31 l0 x10_1).f3)] (fun k_ => k_ ≠ gb152) (fun _ => False) rfl rfl ?aP (fun _ hk => hk.elim) ?aF ?aO ?aB ?aS ?aL ?_; (case aP => exact k31_mkM _ _ _ (⟨(rd_T31 l0 x10_1).f0, (rd_T31 l0 x10_1).f1, (rd_T31 l0 x10_1).f2, (rd_T31 l0 x10_1).f3⟩ : S31)); (case aB => exact below_a); (case aF => exact (fun k_ hk => Kd.freshB (g := gb152) blk_c k_ hk)); (case aO => exact (R_a HO_8.out)); (case aS => exact (below_size below_a)); (case aL => have := LMc43.out; omega); intro v177 w45 ho hb hg hat; rw [← Ny176.out] at ho; replace BK152 := Aside0.mk (blk_grown (g := gb152) blk_c hg (Kd.R_away HO_8.out (fun _ hk => hk))); replace HB := Aside0.mk (hb); have HO178 := Aside0.mk (ho); clear HO_8; clear ho hb hg hat))
         go_roundg k1
         case measure => have := HK1.out; omega
         case rel => exact ⟨(y176), (false), (wrap64 (x10_1 + 1)), eq_b, eq_b, H', ⟨by have := HK1.out; omega⟩, ⟨R_a HO178.out⟩, ⟨blk_a⟩, ⟨below_a⟩⟩
        ·
         rw [if_neg c43] at H; exact absurd H (by simp)
      ·
       rw [if_neg c35] at H; exact absurd H (by simp)
    ·
     rw [if_neg c29] at H; have c29b0 : decide (x10_1 < (l0.length : Int)) = false := decide_eq_false c29; clear c29
     by_cases c46 : x9_1 = true
     ·
      subst c46; have H1 : (some (x8_1, true)) = some (r1, r2) := by rw [if_pos rfl] at H; exact H
      clear H; have H := H1; clear H1; simp only [Option.some.injEq, Prod.mk.injEq] at H; obtain ⟨rfl, rfl⟩ := H
      go_wp2
      go_ret2
      exact ⟨_, eq_a, by (with_reducible repeat (first | apply Kd.R_alloc | apply Kd.R_drewN | apply Kd.R_drew)); exact Kd.R_mono HO_8.out (fun _ hk => trivial), below_a⟩
     ·
      replace c46 := Bool.eq_false_iff.mpr c46; subst c46; have H1 : (if x8_1.length < 4398046511104 then (some ((x8_1 ++ [(⟨a1_0, a1_1, a1_2, a1_3⟩ : S31)]), true)) else (none)) = some (r1, r2) := by rw [if_neg (show ¬ (false = true) by decide)] at H; exact H
      clear H; have H := H1; clear H1
      by_cases c47 : x8_1.length < 4398046511104
      ·
       rw [if_pos c47] at H; have LMc47 := Aside0.mk c47; clear c47; obtain ⟨y179, hy179⟩ : ∃ y_ : List (S31), y_ = (x8_1 ++ [(⟨a1_0, a1_1, a1_2, a1_3⟩ : S31)]) := ⟨_, rfl⟩; replace H : (some (y179, true)) = some (r1, r2) := by first | (rw [hy179]; with_reducible exact H) | (have H2_ := (Option.bind_some _ _).symm.trans H; rw [hy179]; with_reducible exact H2_) | (have H2_ := (Option.bind_some _ _).symm.trans H; with_reducible exact H2_) | with_reducible exact H | (rw [hy179]; exact H) | exact H
       have Ny179 := Aside0.mk hy179; clear hy179; simp only [Option.some.injEq, Prod.mk.injEq] at H; obtain ⟨rfl, rfl⟩ := H; obtain ⟨hcz48_0, hcz48_1, hcz48_2, hcz48_3, hfz48_0, hfz48_1, hfz48_2, hfz48_3⟩ := bc4_ BK152.out
       go_wp2_with (first | ((with_reducible refine gate_builtin (b := .append) (xs := #[.tmp 64, .tmp 66]) rfl ?_); at_builtin; refine Kd.R_append k31 (w0 := w) w.heap.size rfl (.tmp 64) (.tmp 66) 26 31 (.agg #[(.int .i64 0), (.int .i64 0), (.int .i64 0), (.int .i64 0)]) 32 rfl Try.underlying26 info31 rfl (by decide) (by omega) u8 x8_1 (⟨a1_0, a1_1, a1_2, a1_3⟩ : S31) [.int .i64 a1_0, .int .i64 a1_1, .int .i64 a1_2, .int .i64 a1_3] (fun k_ => k_ ≠ gb152) (fun _ => False) rfl rfl ?aP (fun _ hk => hk.elim) ?aF ?aO ?aB ?aS ?aL ?_; (case aP => exact k31_mkM _ _ _ (⟨a1_0, a1_1, a1_2, a1_3⟩ : S31)); (case aB => exact below_a); (case aF => exact (fun k_ hk => Kd.freshB (g := gb152) blk_c k_ hk)); (case aO => exact (R_a HO_8.out)); (case aS => exact (below_size below_a)); (case aL => have := LMc47.out; omega); intro v180 w49 ho hb hg hat; rw [← Ny179.out] at ho; replace BK152 := Aside0.mk (blk_grown (g := gb152) blk_c hg (Kd.R_away HO_8.out (fun _ hk => hk))); replace HB := Aside0.mk (hb); have HO181 := Aside0.mk (ho); clear HO_8; clear ho hb hg hat))
       go_ret2
       exact ⟨_, eq_a, by (with_reducible repeat (first | apply Kd.R_alloc | apply Kd.R_drewN | apply Kd.R_drew)); exact Kd.R_mono HO181.out (fun _ hk => trivial), below_a⟩
      ·
       rw [if_neg c47] at H; exact absurd H (by simp)

end Go.Proofs.Ytejodgcojcombaa.MFnExactMergeViews
