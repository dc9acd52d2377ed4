-- Laid by a program of this session (the kit's print, turned where it falls short; the texts of functions that it does not take are proved by hand).
import Derived.Test.YtiioiohdifkbgaaMFnLettersx10
namespace Go.Proofs.Ytiioiohdifkbgaa.MFnLetters
open Go.RowKit Go.Proofs.YtiioiohdifkbgaaW.PrintWords Go.Proofs.YtiioiohdifkbgaaW.PrintLast Go.Proofs.YtiioiohdifkbgaaW.PrintMore
set_option maxHeartbeats 80000000
set_option maxRecDepth 100000
attribute [local go_sem] max2_int min2_int max_two min_two max_three min_three max_four min_four   -- for this text's walks alone
set_option linter.unusedVariables false
set_option linter.unusedSimpArgs false
attribute [local go_sem] isSome_setCell run_field30_0 run_field30_1 run_field34_1 run_field48_0 run_field48_1 run_field61_1
def spec_DrawSameLetters.f (k : Nat) (l0 : List Int) : Option (Int × Int × Int × List Int × Int × Int × Int × List Int) := (spec_l1Source.f l0).bind fun Ac => ((spec_l5Draw.f k Ac.1 Ac.2).bind fun Aa => ((spec_l1Chance.f Ac.1 Aa.2.2.2.2 2).bind fun Ae => (if Ae.1 = true then ((spec_l1Copy.f Aa.2.2.2.1).bind fun Af => (some (Aa.1, Aa.2.1, Aa.2.2.1, Aa.2.2.2.1, Aa.1, Aa.2.1, Aa.2.2.1, Af))) else ((spec_l1Source.f l0).bind fun Ad => ((spec_l5Bent.f k Ad.1 Ad.2).bind fun Ab => (some (Aa.1, Aa.2.1, Aa.2.2.1, Aa.2.2.2.1, Ab.1, Ab.2.1, Ab.2.2.1, Ab.2.2.2.1)))))))
theorem spec_DrawSameLetters.calls (k : Nat) (A0 : Option Addr) (c0 : Nat) (l0 : List Int) (r1 : Int) (r2 : Int) (r3 : Int) (r4 : List Int) (r5 : Int) (r6 : Int) (r7 : Int) (r8 : List Int) (w : World) (Ck : Kd.C (Kd.int .u8) w A0 l0.length l0) (Cl : l0.length ≤ c0) (h : spec_DrawSameLetters.f k l0 = some (r1, r2, r3, r4, r5, r6, r7, r8)) :
  Calls Try.prog 23 #[.slice A0 l0.length c0] w fun e w' => ∃ v3_ v7_ : Value, e = .returned (.tuple #[.agg #[.int .i64 r1, .int .i64 r2, .int .i64 r3, v3_], .agg #[.int .i64 r5, .int .i64 r6, .int .i64 r7, v7_]]) ∧ Kd.R (Kd.int .u8) 5 w' w.heap.size (fun _ => True) v3_ r4 ∧ Kd.R (Kd.int .u8) 5 w' w.heap.size (fun _ => True) v7_ r8 ∧ Below w.heap.size w w' := by
 have hu28 := Try.underlying28
 have Cm := A_ Ck
 have Cn := A_ Cl
 clear Ck Cl
 have HB := A_ (Below.refl w.heap.size w)
 unfold spec_DrawSameLetters.f at h; have H := h; clear h
 obtain ⟨⟨Ay, B0⟩, Co, H⟩ := bi_ H
 (try dsimp only at H)
 have A2 := A_ Co
 clear Co
 obtain ⟨⟨Ao, Aq, Au, Av, Ba⟩, Cp, H⟩ := bi_ H
 (try dsimp only at H)
 have A3 := A_ Cp
 clear Cp
 obtain ⟨⟨B3, A7⟩, Cq, H⟩ := bi_ H
 (try dsimp only at H)
 have A4 := A_ Cq
 clear Cq
 have Cr := A_ H
 clear H
 go_enter Try.func23, Try.ntmps23
 go_upto_if 12 with (first | ((with_reducible refine d1_ 2 ?_); refine by_ 2 (#[.int .i64 0, .int .i64 0, .int .i64 0, .slice none 0 0]) 28 ?_; intro Ah hg w6 hbox hb; have Ag := A_ (hbox); have Cs := gw_ (w := w) hg; replace HB := bs_ hb; clear hb hbox hg) | ((with_reducible refine d1_ 3 ?_); refine by_ 3 (#[.int .i64 0, .int .i64 0, .int .i64 0, .slice none 0 0]) 28 ?_; intro Ai hg w7 hbox hb; have Ad := A_ (hbox); have Ct := gw_ (w := w) hg; obtain ⟨Ax, An⟩ := bu_ Ah hg; replace Ag := bw_ Ah hb; replace HB := bs_ hb; clear hb hbox hg) | ((with_reducible refine f1_ 49 ?_); refine gl_ (some 8) Try.func49 #[.slice A0 l0.length c0] ?_; (with_reducible refine (spec_l1Source.calls _ _ l0 Ay B0 w _ ?_ ?_ ?_ A2.out).mono ?_); exact below_a; exact Cm.out; exact Cn.out; rintro e w8 ⟨Ap, rfl, hi, hb, hb2⟩; refine ⟨_, rfl, ?_⟩; have n0_ := A_ (blk_below (g := Ah) blk_c hb2); have n1_ := A_ (blk_below (g := Ai) blk_c hb2); replace HB := A_ (hb); have Am := A_ (hi); have Bi := A_ (IsS118.ne_blk hi (blk_below (g := Ah) blk_c hb2) (by decide)); have Bj := A_ (Ne.symm (IsS118.ne_blk hi (blk_below (g := Ah) blk_c hb2) (by decide))); have Bk := A_ (IsS118.ne_blk hi (blk_below (g := Ai) blk_c hb2) (by decide)); have Bl := A_ (Ne.symm (IsS118.ne_blk hi (blk_below (g := Ai) blk_c hb2) (by decide))); replace Ag := n0_; replace Ad := n1_; clear n0_ n1_; (try clear hb hb2 hi)) | ((with_reducible refine f1_ 61 ?_); refine gl_ (some 10) Try.func61 #[.pointer (some ⟨Ap, 0, none⟩)] ?_; (with_reducible refine (spec_l5Draw.calls k Ap Ay B0 Ao Aq Au Av Ba w _ ?_ ?_ A3.out).mono ?_); exact IsS118.a; exact below_i; rintro e w9 ⟨Cy, rfl, Be, hi, hb, hk⟩; refine ⟨_, rfl, ?_⟩; replace Ad := kb_ Ai hk; have Ac := A_ (Kd.R_lower Be (below_size below_i)); replace HB := A_ (hb); replace Am := A_ (hi); replace Ag := kb_ Ah hk; (try clear hb hk hi Be)) | ((with_reducible refine d1_ 5 ?_); refine by_ 5 (#[.int .i64 0, .int .i64 0, .int .i64 0, .slice none 0 0]) 28 ?_; intro Ae hg C7 hbox hb; replace Ac := rv_ Ac hb; have n3_ := A_ (IsS118.below (IsS118.a) hb); have n4_ := A_ (below_step below_i hb); have Af := A_ (hbox); have Cu := A_ ((by rw [hg]; exact (below_size below_i) : w.heap.size ≤ Ae)); have Cv := A_ ((by rw [hg]; exact (below_size below_i) : w.heap.size ≤ Ae)); obtain ⟨Bm, Aa⟩ := bu_ Ah hg; obtain ⟨Bn, Ab⟩ := bu_ Ai hg; have Bo := A_ ((by rw [hg]; exact Nat.ne_of_lt (IsS118.lt (show IsS118 w _ Ap Ay Ba from IsS118.a)) : Ap ≠ Ae)); have Ar := A_ ((by rw [hg]; exact Nat.ne_of_gt (IsS118.lt (show IsS118 w _ Ap Ay Ba from IsS118.a)) : Ae ≠ Ap)); replace Ag := bw_ Ah hb; replace Ad := bw_ Ai hb; replace Am := n3_; replace HB := n4_; clear n3_ n4_; clear hb hbox hg; have := nn_ Aa; have := nn_ Ab; have := nn_ Ar; have := bc4_ Af.out; obtain ⟨A1, Az, Cg⟩ := Kd.R_slice Ac.out; subst Cg) | ((with_reducible refine f1_ 52 ?_); refine gl_ (some 12) Try.func52 #[.pointer (some ⟨Ap, 0, none⟩), .int .i64 2] ?_; (with_reducible refine (spec_l1Chance.calls Ap Ay Ba 2 B3 A7 w _ ?_ ?_ A4.out).mono ?_); exact IsS118.a; exact below_i; rintro e Cz ⟨rfl, hi, hb, hk⟩; refine ⟨_, rfl, ?_⟩; replace Ac := rk_ Am Ac hk; replace Af := A_ (KeepBut.blk hk (g' := Ae) (o := .cells #[.int .i64 Ao, .int .i64 Aq, .int .i64 Au, .slice A1 Av.length Az] 28 (0, 0)) bk_a Ar.out (by simp)); replace HB := A_ (hb); replace Am := A_ (hi); replace Ag := kb_ Ah hk; replace Ad := kb_ Ai hk; (try clear hb hk hi)))
 (try simp only [P4_])
 have H := Cr.out
 clear Cr
 by_cases Ce : B3 = true
 ·
  subst Ce; rw [if_pos rfl] at H; obtain ⟨A8, C0, H⟩ := bj_ H; (try dsimp only at H); simp only [Option.some.injEq, Prod.mk.injEq] at H; obtain ⟨rfl, rfl, rfl, rfl, rfl, rfl, rfl, rfl⟩ := H; have := nn_ Aa; have := nn_ Ab; have := nn_ Ar; have := bc4_ Af.out
  try go_wp2_with (first | ((with_reducible refine d1_ 6 ?_); refine by_ 6 (#[.int .i64 0, .int .i64 0, .int .i64 0, .slice none 0 0]) 28 ?_; intro Al hg C1 hbox hb; replace Ac := rv_ Ac hb; have n3_ := A_ (IsS118.below (IsS118.a) hb); have n5_ := A_ (below_step below_i hb); have As := A_ (hbox); have Cw := A_ ((by rw [hg]; exact (below_size below_i) : w.heap.size ≤ Al)); have Cx := A_ ((by rw [hg]; exact (below_size below_i) : w.heap.size ≤ Al)); obtain ⟨Bp, Aj⟩ := bu_ Ah hg; obtain ⟨Bq, Ak⟩ := bu_ Ai hg; obtain ⟨Br, A5⟩ := bu_ Ae hg; have Bs := A_ ((by rw [hg]; exact Nat.ne_of_lt (IsS118.lt (show IsS118 w _ Ap Ay A7 from IsS118.a)) : Ap ≠ Al)); have A6 := A_ ((by rw [hg]; exact Nat.ne_of_gt (IsS118.lt (show IsS118 w _ Ap Ay A7 from IsS118.a)) : Al ≠ Ap)); replace Ag := bw_ Ah hb; replace Ad := bw_ Ai hb; replace Am := n3_; replace Af := bw_ Ae hb; replace HB := n5_; clear n3_ n5_; clear hb hbox hg; have := nn_ Aj; have := nn_ Ak; have := nn_ A5; have := nn_ A6; have := bc4_ As.out; have := bc4_ Af.out) | ((with_reducible refine f1_ 63 ?_); refine gl_ (some 16) Try.func63 #[.slice A1 Av.length Az] ?_; (with_reducible refine (spec_l1Copy.calls _ _ Av A8 _ ?_ ?_ C0.out).mono ?_); (refine (Kd.R_reads' (e := 5) (base := w.heap.size) (ok := fun k_ => True) (n := Av.length) (c := Az) ?_).2.2; exact (rp_ Ac)); exact cl_ Ac; rintro e C2 ⟨C3, rfl, Be, hb⟩; refine ⟨_, rfl, ?_⟩; replace Ac := rv_ Ac hb; have Aw := A_ (Kd.R_lower Be (below_size below_i)); have n4_ := A_ (IsS118.below (show IsS118 w ((((C1.setCell ⟨Al, 0, none⟩ (.int .i64 Ao)).setCell ⟨Al, 1, none⟩ (.int .i64 Aq)).setCell ⟨Al, 2, none⟩ (.int .i64 Au)).setCell ⟨Al, 3, none⟩ (.slice A1 Av.length Az)) Ap Ay A7 from IsS118.a) hb); replace As := A_ (blk_below (g := Al) (o := .cells #[.int .i64 Ao, .int .i64 Aq, .int .i64 Au, .slice A1 Av.length Az] 28 (0, 0)) bk_a hb); replace HB := A_ (below_step below_i hb); replace Ag := bw_ Ah hb; replace Ad := bw_ Ai hb; replace Am := n4_; replace Af := bw_ Ae hb; clear n4_; (try clear hb Be); obtain ⟨Bb, Bc, rfl⟩ := Kd.R_slice Aw.out; have := bc4_ As.out))
  generalize hW_ : (C2.setCell ⟨Al, 3, none⟩ (.slice Bb A8.length Bc)) = Cf at ⊢; have n0_ := g1_ hW_ Ac; have n1_ := g1_ hW_ Aw; have n2_ := gb_ hW_ Ag; have n3_ := gb_ hW_ Ad; have n4_ := gb_ hW_ Af; have n5_ : Aside0 (Cf.heap[Al]? = some (.cells #[.int .i64 Ao, .int .i64 Aq, .int .i64 Au, .slice Bb A8.length Bc] 28 (0, 0))) := hW_ ▸ ⟨blk_a⟩; have n6_ : Aside0 (IsS118 w Cf Ap Ay A7) := hW_ ▸ ⟨IsS118.a⟩; have n7_ : Aside0 (Below w.heap.size w Cf) := hW_ ▸ ⟨below_i⟩; skip; clear hW_; have Ac := n0_; have Aw := n1_; have Ag := n2_; have Ad := n3_; have Af := n4_; have As := n5_; have Am := n6_; have HB := n7_; clear n0_ n1_ n2_ n3_ n4_ n5_ n6_ n7_; replace Ac := hd_ Ac; replace Aw := hd_ Aw; replace Ag := bd_ Ag; replace Ad := bd_ Ad; replace Af := bd_ Af; replace As := bd_ As; replace Am := A_ (IsS118.drew Am.out); replace HB := A_ (below_drew1 HB.out); refine start_ (n := 4) (S := fun w' => w'.cell? ⟨Ae, 0, none⟩ = some (.int .i64 Ao) ∧ w'.cell? ⟨Ae, 1, none⟩ = some (.int .i64 Aq) ∧ w'.cell? ⟨Ae, 2, none⟩ = some (.int .i64 Au) ∧ w'.cell? ⟨Ae, 3, none⟩ = some (.slice A1 Av.length Az) ∧ w'.cell? ⟨Al, 0, none⟩ = some (.int .i64 Ao) ∧ w'.cell? ⟨Al, 1, none⟩ = some (.int .i64 Aq) ∧ w'.cell? ⟨Al, 2, none⟩ = some (.int .i64 Au) ∧ w'.cell? ⟨Al, 3, none⟩ = some (.slice Bb A8.length Bc)) (ds := []) #[Z',Z',Z',Z'] (by kernel_rfl) rfl rfl (by4_ Af.out (bz4_ As.out)) (fun hHeld => ?_); generalize Cf.drew = C8 at Ac Aw Ag Ad Af As Am HB hHeld ⊢; refine take_ (i := 0) (N := some 18) (v := ?_) (a' := ?_) #[Y',Z',Z',Z'] rfl rfl (by kernel_rfl) (fun _ _ _ h => h) (Or.inl ⟨by rfl, ?_⟩) hHeld ?_ ?_; rotate_left
  ·
   rintro w' ⟨s0, s1, s2, s3, s4, s5, s6, s7⟩
   go_simp
   with_reducible rfl
  rotate_left
  ·
   simp only [P4_]; rfl
  refine take_ (i := 1) (N := some 19) (v := ?_) (a' := ?_) #[Y',Y',Z',Z'] rfl rfl (by kernel_rfl) (fun _ _ _ h => h) (Or.inl ⟨by rfl, ?_⟩) hHeld ?_ ?_; rotate_left
  ·
   rintro w' ⟨s0, s1, s2, s3, s4, s5, s6, s7⟩
   go_simp
   with_reducible rfl
  rotate_left
  ·
   simp only [P4_]; rfl
  refine one_ (i := 2) (N := none) #[Y',Y',Y',Z'] rfl rfl (by kernel_rfl) (by decide) (fun K hK => ?_); have := bc4_ Ag.out; have := nn_ An; have := nn_ Aa; have := nn_ Aj; refine skip_ (w1 := ?_) (by rfl) rfl ?_ ?_; rotate_left
  ·
   go_simp
   rfl
  refine hK.out _ _ ⟨((far4_ Aa.out).trans (hHeld.1)), ((far4_ Aa.out).trans (hHeld.2.1)), ((far4_ Aa.out).trans (hHeld.2.2.1)), ((far4_ Aa.out).trans (hHeld.2.2.2.1)), ((far4_ Aj.out).trans (hHeld.2.2.2.2.1)), ((far4_ Aj.out).trans (hHeld.2.2.2.2.2.1)), ((far4_ Aj.out).trans (hHeld.2.2.2.2.2.2.1)), ((far4_ Aj.out).trans (hHeld.2.2.2.2.2.2.2))⟩ (fun hHeld => ?_); clear hK K; refine one_ (i := 3) (N := none) #[Y',Y',Y',Y'] rfl rfl (by kernel_rfl) (by decide) (fun K hK => ?_); have := bc4_ Ad.out; have := nn_ Ax; have := nn_ Ab; have := nn_ Ak; refine skip_ (w1 := ?_) (by rfl) rfl ?_ ?_; rotate_left
  ·
   go_simp
   rfl
  refine hK.out _ _ ⟨((far4_ Ab.out).trans (hHeld.1)), ((far4_ Ab.out).trans (hHeld.2.1)), ((far4_ Ab.out).trans (hHeld.2.2.1)), ((far4_ Ab.out).trans (hHeld.2.2.2.1)), ((far4_ Ak.out).trans (hHeld.2.2.2.2.1)), ((far4_ Ak.out).trans (hHeld.2.2.2.2.2.1)), ((far4_ Ak.out).trans (hHeld.2.2.2.2.2.2.1)), ((far4_ Ak.out).trans (hHeld.2.2.2.2.2.2.2))⟩ (fun hHeld => ?_); clear hK K; refine done_ (by kernel_rfl) ?_
  try go_wp2
  refine bodyPost_ret (results_cc rfl _ _ Ah Ai 28 28 #[.int .i64 Ao, .int .i64 Aq, .int .i64 Au, .slice A1 Av.length Az] #[.int .i64 Ao, .int .i64 Aq, .int .i64 Au, .slice Bb A8.length Bc] (0, 0) (0, 0) _ _ rfl bk_a Try.underlying28 rfl (by kernel_rfl) rfl (by (with_reducible repeat (first | refine blk_drewN ?_ _ | refine blk_drew ?_ | refine blk_alloc ?_ _)); refine blk_put (cs := #[.int .i64 Ao, .int .i64 Aq, .int .i64 Au, .slice none 0 0]) ?_ 3 _ rfl; refine blk_put (cs := #[.int .i64 Ao, .int .i64 Aq, .int .i64 0, .slice none 0 0]) ?_ 2 _ rfl; refine blk_put (cs := #[.int .i64 Ao, .int .i64 0, .int .i64 0, .slice none 0 0]) ?_ 1 _ rfl; refine blk_put (cs := #[.int .i64 0, .int .i64 0, .int .i64 0, .slice none 0 0]) ?_ 0 _ rfl; (iterate 4 ((with_reducible repeat (first | refine blk_drewN ?_ _ | refine blk_drew ?_ | refine blk_alloc ?_ _)); refine blk_far ?_ An.out _)); exact bl_ Ad.out) Try.underlying28 rfl (by kernel_rfl)) rfl ?_; exact ⟨_, _, eq_a, rp_ Ac, rp_ Aw, below_i⟩
 replace Ce := Bool.eq_false_iff.mpr Ce; subst Ce; rw [if_neg ff_] at H; obtain ⟨⟨B4, Ca⟩, C4, H⟩ := bj_ H; (try dsimp only at H); obtain ⟨⟨A9, Bd, Bh, Cb, Ch⟩, C5, H⟩ := bj_ H; (try dsimp only at H); simp only [Option.some.injEq, Prod.mk.injEq] at H; obtain ⟨rfl, rfl, rfl, rfl, rfl, rfl, rfl, rfl⟩ := H
 try go_wp2
 replace Ac := hd_ Ac; replace Ag := bd_ Ag; replace Ad := bd_ Ad; replace Af := bd_ Af; replace Am := A_ (IsS118.drew Am.out); replace HB := A_ (below_drew1 HB.out); refine start_ (n := 6) (S := fun w' => w'.cell? ⟨Ae, 0, none⟩ = some (.int .i64 Ao) ∧ w'.cell? ⟨Ae, 1, none⟩ = some (.int .i64 Aq) ∧ w'.cell? ⟨Ae, 2, none⟩ = some (.int .i64 Au) ∧ w'.cell? ⟨Ae, 3, none⟩ = some (.slice A1 Av.length Az)) (ds := []) #[Z',Z',Z',Z',Z',Z'] (by kernel_rfl) rfl rfl (bz4_ Af.out) (fun hHeld => ?_); generalize Cz.drew = C9 at Ac Ag Ad Af Am HB hHeld ⊢; refine pure_ (i := 1) (N := some 21) (v := ?_) (a' := ?_) #[Z',Y',Z',Z',Z',Z'] rfl rfl (by kernel_rfl) (fun _ _ _ h => h) (Or.inl ⟨by rfl, ?_⟩) ?_ ?_; rotate_left
 ·
  intro w'
  go_simp
  with_reducible rfl
 rotate_left
 ·
  simp only [P4_]; rfl
 refine take_ (i := 0) (N := some 20) (v := ?_) (a' := ?_) #[Y',Y',Z',Z',Z',Z'] rfl rfl (by kernel_rfl) (fun _ _ _ h => h) (Or.inl ⟨by rfl, ?_⟩) hHeld ?_ ?_; rotate_left
 ·
  rintro w' ⟨s0, s1, s2, s3⟩
  go_simp
  with_reducible rfl
 rotate_left
 ·
  simp only [P4_]; rfl
 refine one_ (i := 2) (N := some 22) #[Y',Y',Y',Z',Z',Z'] rfl rfl (by kernel_rfl) (by decide) (fun K hK => ?_); refine gs_ Try.func49 #[.slice A0 l0.length c0] ?_
 with_reducible refine (spec_l1Source.calls _ _ l0 B4 Ca w _ ?_ ?_ ?_ C4.out).mono ?_
 exact below_i; exact Cm.out; exact Cn.out; rintro e Da ⟨Cc, rfl, hi, hb, hb2⟩; refine ⟨_, rfl, ?_⟩; (try clear Am); replace Ac := A_ (Kd.R_below (R_a Ac.out) hb2); have n1_ := A_ (blk_below (g := Ah) blk_c hb2); have n2_ := A_ (blk_below (g := Ai) blk_c hb2); have n3_ := A_ (blk_below (g := Ae) blk_c hb2); replace HB := A_ (hb); have Bf := A_ (hi); have Bt := A_ (IsS118.ne_blk hi (blk_below (g := Ah) blk_c hb2) (by decide)); have Bu := A_ (Ne.symm (IsS118.ne_blk hi (blk_below (g := Ah) blk_c hb2) (by decide))); have Bv := A_ (IsS118.ne_blk hi (blk_below (g := Ai) blk_c hb2) (by decide)); have Bw := A_ (Ne.symm (IsS118.ne_blk hi (blk_below (g := Ai) blk_c hb2) (by decide))); have Bx := A_ (IsS118.ne_blk hi (blk_below (g := Ae) blk_c hb2) (by decide)); have Bz := A_ (Ne.symm (IsS118.ne_blk hi (blk_below (g := Ae) blk_c hb2) (by decide))); replace Ag := n1_; replace Ad := n2_; replace Af := n3_; clear n1_ n2_ n3_; (try clear hb hb2 hi); refine k1_ hK (bz4_ Af.out) (fun hHeld => ?_); clear hK K; refine one_ (i := 3) (N := some 23) #[Y',Y',Y',Y',Z',Z'] rfl rfl (by kernel_rfl) (by decide) (fun K hK => ?_); refine gs_ Try.func51 #[.pointer (some ⟨Cc, 0, none⟩)] ?_
 with_reducible refine (spec_l5Bent.calls k Cc B4 Ca A9 Bd Bh Cb Ch w _ ?_ ?_ C5.out).mono ?_
 exact IsS118.a; exact below_i; rintro e Db ⟨C6, rfl, Be, hi, hb, hk⟩; refine ⟨_, rfl, ?_⟩; replace Ac := rk_ Bf Ac hk; replace Af := kb_ Ae hk; have Bg := A_ (Kd.R_lower Be (below_size below_i)); replace HB := A_ (hb); replace Bf := A_ (hi); replace Ag := kb_ Ah hk; replace Ad := kb_ Ai hk; (try clear hb hk hi Be); obtain ⟨Ci, Cj, Cd⟩ := Kd.R_slice Bg.out; (first | subst Cd | (injection Cd with f1_ f2_ f3_; have f4_ := f1_.symm; have f5_ := f3_.symm; clear f1_ f2_ f3_; subst f4_; subst f5_)); refine k1_ hK (bz4_ Af.out) (fun hHeld => ?_); clear hK K; refine one_ (i := 4) (N := none) #[Y',Y',Y',Y',Y',Z'] rfl rfl (by kernel_rfl) (by decide) (fun K hK => ?_); have := bc4_ Ag.out; have := nn_ An; have := nn_ Aa; refine skip_ (w1 := ?_) (by rfl) rfl ?_ ?_; rotate_left
 ·
  go_simp
  rfl
 refine hK.out _ _ ⟨((far4_ Aa.out).trans (hHeld.1)), ((far4_ Aa.out).trans (hHeld.2.1)), ((far4_ Aa.out).trans (hHeld.2.2.1)), ((far4_ Aa.out).trans (hHeld.2.2.2))⟩ (fun hHeld => ?_); clear hK K; refine one_ (i := 5) (N := none) #[Y',Y',Y',Y',Y',Y'] rfl rfl (by kernel_rfl) (by decide) (fun K hK => ?_); have := bc4_ Ad.out; have := nn_ Ax; have := nn_ Ab; refine skip_ (w1 := ?_) (by rfl) rfl ?_ ?_; rotate_left
 ·
  go_simp
  rfl
 refine hK.out _ _ ⟨((far4_ Ab.out).trans (hHeld.1)), ((far4_ Ab.out).trans (hHeld.2.1)), ((far4_ Ab.out).trans (hHeld.2.2.1)), ((far4_ Ab.out).trans (hHeld.2.2.2))⟩ (fun hHeld => ?_); clear hK K; refine done_ (by kernel_rfl) ?_
 try go_wp2
 refine bodyPost_ret (results_cc rfl _ _ Ah Ai 28 28 #[.int .i64 Ao, .int .i64 Aq, .int .i64 Au, .slice A1 Av.length Az] #[.int .i64 A9, .int .i64 Bd, .int .i64 Bh, .slice Ci Cb.length Cj] (0, 0) (0, 0) _ _ rfl bk_a Try.underlying28 rfl (by kernel_rfl) rfl (by (with_reducible repeat (first | refine blk_drewN ?_ _ | refine blk_drew ?_ | refine blk_alloc ?_ _)); refine blk_put (cs := #[.int .i64 A9, .int .i64 Bd, .int .i64 Bh, .slice none 0 0]) ?_ 3 _ rfl; refine blk_put (cs := #[.int .i64 A9, .int .i64 Bd, .int .i64 0, .slice none 0 0]) ?_ 2 _ rfl; refine blk_put (cs := #[.int .i64 A9, .int .i64 0, .int .i64 0, .slice none 0 0]) ?_ 1 _ rfl; refine blk_put (cs := #[.int .i64 0, .int .i64 0, .int .i64 0, .slice none 0 0]) ?_ 0 _ rfl; (iterate 4 ((with_reducible repeat (first | refine blk_drewN ?_ _ | refine blk_drew ?_ | refine blk_alloc ?_ _)); refine blk_far ?_ An.out _)); exact bl_ Ad.out) Try.underlying28 rfl (by kernel_rfl)) rfl ?_; exact ⟨_, _, eq_a, rp_ Ac, rp_ Bg, below_i⟩
def impl_SameLetters.f (Aa : Int) (Ab : Int) (Ac : Int) (Ad : List Int) (Ae : Int) (Af : Int) (Ag : Int) (Ah : List Int) : Option (Bool) := if Aa = Ae then (if Ab = Af then (if Ac = Ag then ((bytes_Equal.f Ad Ah).bind fun Ai => (some Ai)) else (some false)) else (some false)) else (some false)
theorem impl_SameLetters.calls (Ah : Int) (Ai : Int) (Aj : Int) (An : Option Addr) (Ao : Nat) (Af : List Int) (Ak : Int) (Al : Int) (Am : Int) (Ap : Option Addr) (Aq : Nat) (Ag : List Int) (r : Bool) (w : World) (Av : Kd.C (Kd.int .u8) w An Af.length Af) (Aw : Af.length ≤ Ao) (Ax : Kd.C (Kd.int .u8) w Ap Ag.length Ag) (Ay : Ag.length ≤ Aq) (h : impl_SameLetters.f Ah Ai Aj Af Ak Al Am Ag = some r) :
  Calls Try.prog 28 #[.agg #[.int .i64 Ah, .int .i64 Ai, .int .i64 Aj, .slice An Af.length Ao], .agg #[.int .i64 Ak, .int .i64 Al, .int .i64 Am, .slice Ap Ag.length Aq]] w fun e w' => e = .returned (.bool r) ∧ Below w.heap.size w w' := by
 have hu28 := Try.underlying28
 have Az := A_ Av
 have A0 := A_ Aw
 clear Av Aw
 have A1 := A_ Ax
 have A3 := A_ Ay
 clear Ax Ay
 have HB := A_ (Below.refl w.heap.size w)
 unfold impl_SameLetters.f at h; have H := h; clear h
 by_cases c3 : Ah = Ak
 ·
  rw [if_pos c3] at H; obtain ⟨A5, A7⟩ := be_ c3; clear c3
  by_cases c4 : Ai = Al
  ·
   rw [if_pos c4] at H; obtain ⟨A8, A9⟩ := be_ c4; clear c4
   by_cases c5 : Aj = Am
   ·
    rw [if_pos c5] at H; obtain ⟨Ba, Bb⟩ := be_ c5; clear c5; obtain ⟨A4, A6, H⟩ := bj_ H; replace H : (some A4) = some r := H; obtain rfl := Option.some.inj H
    go_enter Try.func28, Try.ntmps28
    go_wp2_with (first | ((with_reducible refine d1_ 2 ?_); refine by_ 2 (#[.int .i64 Ah, .int .i64 Ai, .int .i64 Aj, .slice An Af.length Ao]) 28 ?_; intro Ab hg w7 hbox hb; have Ac := A_ (hbox); have Ar := gw_ (w := w) hg; replace HB := bs_ hb; clear hb hbox hg) | ((with_reducible refine d1_ 3 ?_); refine by_ 3 (#[.int .i64 Ak, .int .i64 Al, .int .i64 Am, .slice Ap Ag.length Aq]) 28 ?_; intro As hg w8 hbox hb; have Ae := A_ (hbox); have Au := gw_ (w := w) hg; obtain ⟨Aa, Ad⟩ := bu_ Ab hg; replace Ac := bw_ Ab hb; replace HB := bs_ hb; clear hb hbox hg; have := nn_ Aa; have := bc4_ Ac.out; have := bc4_ Ae.out) | (go_at_call 69; (with_reducible refine (bytes_Equal.calls _ _ Af _ _ Ag A4 _ ?_ ?_ ?_ ?_ A6.out).mono ?_); exact ca_ (Kd.C_below Az.out HB.out); exact A0.out; exact ca_ (Kd.C_below A1.out HB.out); exact A3.out; rintro e w' ⟨rfl, ⟨nd, rfl⟩⟩))
    go_ret
    exact ⟨eq_a, below_a⟩
   rw [if_neg c5] at H; obtain ⟨Ba, Bb⟩ := nb_ c5; obtain rfl := Option.some.inj H
   go_enter Try.func28, Try.ntmps28
   go_wp2_with (first | ((with_reducible refine d1_ 2 ?_); refine by_ 2 (#[.int .i64 Ah, .int .i64 Ai, .int .i64 Aj, .slice An Af.length Ao]) 28 ?_; intro Ab hg Bc hbox hb; have Ac := A_ (hbox); have Ar := gw_ (w := w) hg; replace HB := bs_ hb; clear hb hbox hg) | ((with_reducible refine d1_ 3 ?_); refine by_ 3 (#[.int .i64 Ak, .int .i64 Al, .int .i64 Am, .slice Ap Ag.length Aq]) 28 ?_; intro As hg Bd hbox hb; have Ae := A_ (hbox); have Au := gw_ (w := w) hg; obtain ⟨Aa, Ad⟩ := bu_ Ab hg; replace Ac := bw_ Ab hb; replace HB := bs_ hb; clear hb hbox hg; have := nn_ Aa; have := bc4_ Ac.out; have := bc4_ Ae.out))
   go_ret
   exact ⟨eq_a, below_a⟩
  rw [if_neg c4] at H; obtain ⟨A8, A9⟩ := nb_ c4; obtain rfl := Option.some.inj H
  go_enter Try.func28, Try.ntmps28
  go_wp2_with (first | ((with_reducible refine d1_ 2 ?_); refine by_ 2 (#[.int .i64 Ah, .int .i64 Ai, .int .i64 Aj, .slice An Af.length Ao]) 28 ?_; intro Ab hg Be hbox hb; have Ac := A_ (hbox); have Ar := gw_ (w := w) hg; replace HB := bs_ hb; clear hb hbox hg) | ((with_reducible refine d1_ 3 ?_); refine by_ 3 (#[.int .i64 Ak, .int .i64 Al, .int .i64 Am, .slice Ap Ag.length Aq]) 28 ?_; intro As hg Bf hbox hb; have Ae := A_ (hbox); have Au := gw_ (w := w) hg; obtain ⟨Aa, Ad⟩ := bu_ Ab hg; replace Ac := bw_ Ab hb; replace HB := bs_ hb; clear hb hbox hg; have := nn_ Aa; have := bc4_ Ac.out; have := bc4_ Ae.out))
  go_ret
  exact ⟨eq_a, below_a⟩
 rw [if_neg c3] at H; obtain ⟨A5, A7⟩ := nb_ c3; obtain rfl := Option.some.inj H
 go_enter Try.func28, Try.ntmps28
 go_wp2_with (first | ((with_reducible refine d1_ 2 ?_); refine by_ 2 (#[.int .i64 Ah, .int .i64 Ai, .int .i64 Aj, .slice An Af.length Ao]) 28 ?_; intro Ab hg Bg hbox hb; have Ac := A_ (hbox); have Ar := gw_ (w := w) hg; replace HB := bs_ hb; clear hb hbox hg) | ((with_reducible refine d1_ 3 ?_); refine by_ 3 (#[.int .i64 Ak, .int .i64 Al, .int .i64 Am, .slice Ap Ag.length Aq]) 28 ?_; intro As hg Bh hbox hb; have Ae := A_ (hbox); have Au := gw_ (w := w) hg; obtain ⟨Aa, Ad⟩ := bu_ Ab hg; replace Ac := bw_ Ab hb; replace HB := bs_ hb; clear hb hbox hg; have := nn_ Aa; have := bc4_ Ac.out; have := bc4_ Ae.out))
 go_ret
 exact ⟨eq_a, below_a⟩
def spec_SameLetters.f (Aa : Int) (Ab : Int) (Ac : Int) (Ad : List Int) (Ae : Int) (Af : Int) (Ag : Int) (Ah : List Int) : Option (Bool) := if Aa = Ae then (if Ab = Af then (if Ac = Ag then (some ((strOfNums Ad).toList == (strOfNums Ah).toList)) else (some false)) else (some false)) else (some false)
theorem spec_SameLetters.calls (Ah : Int) (Ai : Int) (Aj : Int) (Ak : Option Addr) (Al : Nat) (Af : List Int) (Am : Int) (An : Int) (Ao : Int) (Ap : Option Addr) (Aq : Nat) (Ag : List Int) (r : Bool) (w : World) (Av : Kd.C (Kd.int .u8) w Ak Af.length Af) (Aw : Af.length ≤ Al) (Ax : Kd.C (Kd.int .u8) w Ap Ag.length Ag) (Ay : Ag.length ≤ Aq) (h : spec_SameLetters.f Ah Ai Aj Af Am An Ao Ag = some r) :
  Calls Try.prog 29 #[.agg #[.int .i64 Ah, .int .i64 Ai, .int .i64 Aj, .slice Ak Af.length Al], .agg #[.int .i64 Am, .int .i64 An, .int .i64 Ao, .slice Ap Ag.length Aq]] w fun e w' => e = .returned (.bool r) ∧ Below w.heap.size w w' := by
 have hu28 := Try.underlying28
 have Az := A_ Av
 have A8 := A_ Aw
 clear Av Aw
 have A0 := A_ Ax
 have A9 := A_ Ay
 clear Ax Ay
 have HB := A_ (Below.refl w.heap.size w)
 unfold spec_SameLetters.f at h; have H := h; clear h
 by_cases c3 : Ah = Am
 ·
  rw [if_pos c3] at H; obtain ⟨A1, A3⟩ := be_ c3; clear c3
  by_cases c4 : Ai = An
  ·
   rw [if_pos c4] at H; obtain ⟨A4, A5⟩ := be_ c4; clear c4
   by_cases c5 : Aj = Ao
   ·
    rw [if_pos c5] at H; obtain ⟨A6, A7⟩ := be_ c5; clear c5; obtain rfl := Option.some.inj H
    go_enter Try.func29, Try.ntmps29
    go_wp2_with (first | ((with_reducible refine d1_ 2 ?_); refine by_ 2 (#[.int .i64 Ah, .int .i64 Ai, .int .i64 Aj, .slice Ak Af.length Al]) 28 ?_; intro Ab hg w6 hbox hb; have Ac := A_ (hbox); have Ar := gw_ (w := w) hg; replace HB := bs_ hb; clear hb hbox hg) | ((with_reducible refine d1_ 3 ?_); refine by_ 3 (#[.int .i64 Am, .int .i64 An, .int .i64 Ao, .slice Ap Ag.length Aq]) 28 ?_; intro As hg w7 hbox hb; have Ae := A_ (hbox); have Au := gw_ (w := w) hg; obtain ⟨Aa, Ad⟩ := bu_ Ab hg; replace Ac := bw_ Ab hb; replace HB := bs_ hb; clear hb hbox hg; have := nn_ Aa; have := bc4_ Ac.out; have := bc4_ Ae.out; have hcv11 := Kd.C_string (P := Try.prog) (A := Ak) (c := Al) Try.underlying25 Try.underlying5 Try.underlying9 (Kd.C_below Az.out HB.out); have hcv12 := Kd.C_string (P := Try.prog) (A := Ap) (c := Aq) Try.underlying25 Try.underlying5 Try.underlying9 (Kd.C_below A0.out HB.out)))
    go_ret
    exact ⟨eq_a, below_a⟩
   rw [if_neg c5] at H; obtain ⟨A6, A7⟩ := nb_ c5; obtain rfl := Option.some.inj H
   go_enter Try.func29, Try.ntmps29
   go_wp2_with (first | ((with_reducible refine d1_ 2 ?_); refine by_ 2 (#[.int .i64 Ah, .int .i64 Ai, .int .i64 Aj, .slice Ak Af.length Al]) 28 ?_; intro Ab hg Ba hbox hb; have Ac := A_ (hbox); have Ar := gw_ (w := w) hg; replace HB := bs_ hb; clear hb hbox hg) | ((with_reducible refine d1_ 3 ?_); refine by_ 3 (#[.int .i64 Am, .int .i64 An, .int .i64 Ao, .slice Ap Ag.length Aq]) 28 ?_; intro As hg Bb hbox hb; have Ae := A_ (hbox); have Au := gw_ (w := w) hg; obtain ⟨Aa, Ad⟩ := bu_ Ab hg; replace Ac := bw_ Ab hb; replace HB := bs_ hb; clear hb hbox hg; have := nn_ Aa; have := bc4_ Ac.out; have := bc4_ Ae.out))
   go_ret
   exact ⟨eq_a, below_a⟩
  rw [if_neg c4] at H; obtain ⟨A4, A5⟩ := nb_ c4; obtain rfl := Option.some.inj H
  go_enter Try.func29, Try.ntmps29
  go_wp2_with (first | ((with_reducible refine d1_ 2 ?_); refine by_ 2 (#[.int .i64 Ah, .int .i64 Ai, .int .i64 Aj, .slice Ak Af.length Al]) 28 ?_; intro Ab hg Bc hbox hb; have Ac := A_ (hbox); have Ar := gw_ (w := w) hg; replace HB := bs_ hb; clear hb hbox hg) | ((with_reducible refine d1_ 3 ?_); refine by_ 3 (#[.int .i64 Am, .int .i64 An, .int .i64 Ao, .slice Ap Ag.length Aq]) 28 ?_; intro As hg Bd hbox hb; have Ae := A_ (hbox); have Au := gw_ (w := w) hg; obtain ⟨Aa, Ad⟩ := bu_ Ab hg; replace Ac := bw_ Ab hb; replace HB := bs_ hb; clear hb hbox hg; have := nn_ Aa; have := bc4_ Ac.out; have := bc4_ Ae.out))
  go_ret
  exact ⟨eq_a, below_a⟩
 rw [if_neg c3] at H; obtain ⟨A1, A3⟩ := nb_ c3; obtain rfl := Option.some.inj H
 go_enter Try.func29, Try.ntmps29
 go_wp2_with (first | ((with_reducible refine d1_ 2 ?_); refine by_ 2 (#[.int .i64 Ah, .int .i64 Ai, .int .i64 Aj, .slice Ak Af.length Al]) 28 ?_; intro Ab hg Be hbox hb; have Ac := A_ (hbox); have Ar := gw_ (w := w) hg; replace HB := bs_ hb; clear hb hbox hg) | ((with_reducible refine d1_ 3 ?_); refine by_ 3 (#[.int .i64 Am, .int .i64 An, .int .i64 Ao, .slice Ap Ag.length Aq]) 28 ?_; intro As hg Bf hbox hb; have Ae := A_ (hbox); have Au := gw_ (w := w) hg; obtain ⟨Aa, Ad⟩ := bu_ Ab hg; replace Ac := bw_ Ab hb; replace HB := bs_ hb; clear hb hbox hg; have := nn_ Aa; have := bc4_ Ac.out; have := bc4_ Ae.out))
 go_ret
 exact ⟨eq_a, below_a⟩
def laws_lwSame.f (l0 : List Int) (l1 : List Int) : Option (Bool) := some ((strOfNums l0).toList == (strOfNums l1).toList)
theorem laws_lwSame.calls (A0 : Option Addr) (c0 : Nat) (l0 : List Int) (A1 : Option Addr) (c1 : Nat) (l1 : List Int) (r : Bool) (w : World) (Aa : Kd.C (Kd.int .u8) w A0 l0.length l0) (Ab : l0.length ≤ c0) (Ac : Kd.C (Kd.int .u8) w A1 l1.length l1) (Ad : l1.length ≤ c1) (h : laws_lwSame.f l0 l1 = some r) :
  Calls Try.prog 30 #[.slice A0 l0.length c0, .slice A1 l1.length c1] w fun e w' => e = .returned (.bool r) ∧ Drawn0 w w' := by
 have Ae := A_ Aa
 have Ag := A_ Ab
 clear Aa Ab
 have Af := A_ Ac
 have Ah := A_ Ad
 clear Ac Ad
 unfold laws_lwSame.f at h; have H := h; clear h
 obtain rfl := Option.some.inj H
 have hcv3 := Kd.C_string (P := Try.prog) (A := A0) (c := c0) Try.underlying25 Try.underlying5 Try.underlying9 Ae.out
 have hcv4 := Kd.C_string (P := Try.prog) (A := A1) (c := c1) Try.underlying25 Try.underlying5 Try.underlying9 Af.out
 go_enter Try.func30, Try.ntmps30
 go_wp2
 go_ret
 exact ⟨eq_b, by repeat (first | exact Drawn0.refl _ | apply Drawn0.step)⟩
def spec_l4Copy.l0 : Nat → Int → Int → List (S59) → Int → List (S59) → Option (Int × (List (S59)))
 | 0, _, _, _, _, _ => none
 | k + 1, x4, Ad, Ab, Ac, Aa => if x4 < (Ab.length : Int) then (if 0 ≤ x4 then ((spec_l1Copy.f ((rd_T59 Ab x4).f1)).bind fun Ae => (if Aa.length < 4398046511104 then (spec_l4Copy.l0 k (wrap64 (x4 + 1)) Ad Ab Ac (Aa ++ [(⟨(rd_T59 Ab x4).f0, Ae⟩ : S59)])) else (none))) else (none)) else (some (Ac, Aa))
def spec_l4Copy.f (k : Nat) (a0_0 : Int) (l0_1 : List (S59)) : Option (Int × (List (S59))) := spec_l4Copy.l0 k 0 a0_0 l0_1 a0_0 ([] : List (S59))
def spec_l4Copy.T5 : Bool × List (List Nat × List Nat) := (true, [([], []), ([0], [0]), ([], []), ([2], [2]), ([3], [3]), ([4], [4]), ([], []), ([5, 6], [5, 6]), ([7], [7]), ([8], [8]), ([], []), ([10], [10]), ([11], [11]), ([12], [12]), ([], []), ([13, 14], [13, 14]), ([15], [15]), ([16], [16]), ([17], [17]), ([9, 18], [9, 18]), ([19], [19]), ([1, 20, 18], [1, 20]), ([0, 1, 2, 3, 4, 5, 6, 7, 8, 9, 10, 11, 12, 13, 14, 15, 16, 17, 18, 19, 20, 21], []), ([22, 21, 21, 0, 1, 2, 3, 4, 5, 6, 7, 8, 9, 10, 11, 12, 13, 14, 15, 16, 17, 18, 19, 20, 21], [21, 22])])
def spec_l4Copy.B5 : List Nat := [0, 1, 0, 4, 12, 28, 0, 124, 252, 508, 0, 1024, 3072, 7168, 0, 31744, 64512, 130048, 261120, 524284, 1048572, 2097151, 4194303, 8388607]
theorem spec_l4Copy.tab5 : rtab .any (opsOf Try.f71 5) = spec_l4Copy.T5 := by kernel_rfl
theorem spec_l4Copy.bits5 : waitsOk spec_l4Copy.T5.2 spec_l4Copy.B5 = true := by kernel_rfl
theorem spec_l4Copy.calls (k : Nat) (p : Addr) (Aq : Int) (A7 : Option Addr) (A4 : Nat) (Ah : List (S59)) (r1 : Int) (r2 : List (S59)) (w : World) (Bd : Kd.C k59 w A7 Ah.length Ah) (Be : Ah.length ≤ A4) (hxp_0 : w.cell? p = some (.int .i64 Aq)) (hxp_1 : w.cell? ⟨p.block, p.off + 1, none⟩ = some (.slice A7 Ah.length A4)) (h : spec_l4Copy.f k Aq Ah = some (r1, r2)) :
  Calls Try.prog 71 #[.pointer (some p)] w fun e w' => ∃ v1_ : Value, e = .returned (.agg #[.int .i64 r1, v1_]) ∧ Kd.S k59 59 w' w.heap.size (fun _ => True) v1_ r2 ∧ Below w.heap.size w w' := by
 have hu34 := Try.underlying34
 have hu59 := Try.underlying59
 have HXP_0 := A_ hxp_0
 have HXP_1 := A_ hxp_1
 have HLP := A_ (show p.block < w.heap.size from World.block_lt_of_cell? w _ hxp_0)
 clear hxp_0 hxp_1
 have Bf := A_ Bd
 have Cd := A_ Be
 clear Bd Be
 have HB := A_ (Below.refl w.heap.size w)
 unfold spec_l4Copy.f at h; have H := h; clear h
 have H' := A_ H
 clear H
 go_enter Try.func71, Try.ntmps71
 go_wp2_with (first | ((with_reducible refine d1_ 2 ?_); refine by_ 2 (#[.int .i64 0, .slice none 0 0]) 34 ?_; intro Ak hg w2 hbox hb; have Al := A_ (hbox); have A8 := gw_ (w := w) hg; replace HB := bs_ hb; clear hb hbox hg; have hcz3_0 : w2.cell? p = some (.int .i64 Aq) := (HB.out.cell (p := p) HLP.out).trans HXP_0.out; have hcz3_1 : w2.cell? ⟨p.block, p.off + 1, none⟩ = some (.slice A7 Ah.length A4) := (HB.out.cell (p := ⟨p.block, p.off + 1, none⟩) HLP.out).trans HXP_1.out; have hnpz3_809 : p.block ≠ Ak := Nat.ne_of_lt (Nat.lt_of_lt_of_le HLP.out A8.out)) | ((with_reducible refine d1_ 3 ?_); refine by_ 3 (#[.int .i64 0, .slice none 0 0]) 34 ?_; intro Ao hg w4 hbox hb; have Ai := A_ (hbox); have Bg := gw_ (w := w) hg; obtain ⟨A5, Au⟩ := bu_ Ak hg; replace Al := bw_ Ak hb; replace HB := bs_ hb; clear hb hbox hg; have := nn_ Au; obtain ⟨hcz6_0, hcz6_1, hfz6_0, hfz6_1⟩ := bc2_ Ai.out))
 go_loopg [4] k (fun kq v4 w' => ∃ (Ab : Int) (Ac : List (S59)) (Aj : Value), v4 = .int .i64 Ab ∧ Aside0 (spec_l4Copy.l0 kq Ab Aq Ah Aq Ac = some (r1, r2)) ∧ Aside0 (kq ≤ k) ∧ Aside0 (Kd.S k59 59 w' w.heap.size (fun _ => True) Aj Ac) ∧ Aside0 (w'.heap[Ak]? = some (.cells #[.int .i64 0, (.slice none 0 0)] 34 (0, 0))) ∧ Aside0 (w'.heap[Ao]? = some (.cells #[.int .i64 Aq, Aj] 34 (0, 0))) ∧ Aside0 (Below w.heap.size w w'))
 case atStart => exact ⟨(0), (([] : List (S59))), (.slice none 0 0), eq_b, H', ⟨Nat.le_refl _⟩, ⟨by first | exact Kd.S_nil _ _ _ _ _ | exact Kd.N_nil _ _ _ _ _ | exact Kd.V_nil _ _ _ _ _ | exact Kd.Q_nil _ _ _ _ _ | exact Kd.R_nil _ _ _ _ _⟩, ⟨blk_a⟩, ⟨blk_a⟩, ⟨below_a⟩⟩
 case round =>
  clear H'
  try clear p2
  try clear c5
  try clear hcz3_0 hcz3_1
  try clear hcz6_0 hcz6_1
  try clear hfz6_0 hfz6_1
  obtain ⟨Ab, Ac, Aj, rfl, HA, HK1, Aa, Al, Ai, HB⟩ := hrel
  cases gk with
  | zero => exact absurd HA.out (by simp [spec_l4Copy.l0])
  | succ k1 =>
   have H := HA.out; clear HA; simp only [spec_l4Copy.l0] at H
   by_cases c7 : Ab < (Ah.length : Int)
   ·
    rw [if_pos c7] at H; have Bz := decide_eq_true c7; clear c7
    obtain ⟨c8, H⟩ := iq_ H; have Cf := decide_eq_true c8; clear c8; obtain ⟨A6, A9, H⟩ := bj_ H; (try dsimp only at H)
    obtain ⟨Ce, H⟩ := iq_ H; have LMc10 := A_ Ce; clear Ce; obtain ⟨Bi, Ba⟩ := ey_ (Ac ++ [(⟨(rd_T59 Ah Ab).f0, A6⟩ : S59)] : List (S59)); (try (with_reducible replace H := os_ H)); (try dsimp only at H); (try rw [← Ba] at H)
    have Bn := A_ Ba; clear Ba; have H' := A_ H; clear H; have hcz11_0 : wr.cell? p = some (.int .i64 Aq) := (HB.out.cell (p := p) HLP.out).trans HXP_0.out; have hcz11_1 : wr.cell? ⟨p.block, p.off + 1, none⟩ = some (.slice A7 Ah.length A4) := (HB.out.cell (p := ⟨p.block, p.off + 1, none⟩) HLP.out).trans HXP_1.out; have hnpz11_809 : p.block ≠ Ak := Nat.ne_of_lt (Nat.lt_of_lt_of_le HLP.out A8.out); have hnpz11_810 : p.block ≠ Ao := Nat.ne_of_lt (Nat.lt_of_lt_of_le HLP.out Bg.out)
    try go_wp2
    replace Aa := A_ (Kd.S_drew Aa.out); replace Al := bd_ Al; replace Ai := bd_ Ai; replace HB := A_ (below_drew1 HB.out); have Bj : 0 ≤ (Ab : Int) := od_; have Bk : Ab < (Ah.length : Int) := od_; obtain ⟨Ap, Av, Aw, B0, Ar, Am, Ax, Ay⟩ := at_T59 Bf.out Ab Bj Bk; have Ad := Am; have Ae := Ar
    cases B0
    replace Ar := hc_ HB Ar; replace Am := hc_ HB Am; have Bb := A_ Ay; have Bx := A_ Ax; clear Ay Ax; replace Bj := eq_true Bj; replace Bk := eq_true Bk; have Bl : 0 ≤ (Ab : Int) := od_; have Bm : Ab < (Ah.length : Int) := od_; obtain ⟨Bo, B3, B4, Ca, As, An, Az, A0⟩ := at_T59 Bf.out Ab Bl Bm; have Af := An; have Ag := As; obtain rfl : Ap = Bo := (by injection Ca); replace As := hc_ HB As; replace An := hc_ HB An; have A1 := A_ A0; have Bc := A_ Az; clear A0 Az; replace Bl := eq_true Bl; replace Bm := eq_true Bm; have ea_ := Option.some.inj (Am.symm.trans An)
    injection ea_ with ea_ en_ ec_
    subst ea_; subst ec_; clear en_; refine start_ (n := 24) (S := fun w' => w'.cell? ⟨Ao, 0, none⟩ = some (.int .i64 Aq) ∧ w'.cell? ⟨Ao, 1, none⟩ = some (Aj) ∧ w'.cell? p = some (.int .i64 Aq) ∧ w'.cell? ⟨p.block, p.off + 1, none⟩ = some (.slice (some Ap) Ah.length A4) ∧ w'.cell? (Ap.add ((Ab).toNat * 2)) = some (.int .i64 ((rd_T59 Ah Ab).f0)) ∧ w'.cell? ⟨(Ap.add ((Ab).toNat * 2)).block, (Ap.add ((Ab).toNat * 2)).off + 1, none⟩ = some (.slice Av ((rd_T59 Ah Ab).f1).length Aw) ∧ w'.cell? (Ap.add ((Ab).toNat * 2)) = some (.int .i64 ((rd_T59 Ah Ab).f0)) ∧ w'.cell? ⟨(Ap.add ((Ab).toNat * 2)).block, (Ap.add ((Ab).toNat * 2)).off + 1, none⟩ = some (.slice Av ((rd_T59 Ah Ab).f1).length Aw)) (ds := [23]) (rl_ [0, 24]) (by kernel_rfl) rfl rfl (by2_ Ai.out ⟨((HB.out.cell (p := p) HLP.out).trans HXP_0.out), ((HB.out.cell (p := ⟨p.block, p.off + 1, none⟩) HLP.out).trans HXP_1.out), ((HB.out.cell (World.block_lt_of_cell? w _ Ae)).trans Ae), ((HB.out.cell (World.block_lt_of_cell? w _ Ad)).trans Ad), ((HB.out.cell (World.block_lt_of_cell? w _ Ag)).trans Ag), ((HB.out.cell (World.block_lt_of_cell? w _ Af)).trans Af)⟩) (fun hHeld => ?_); refine with_tabW spec_l4Copy.tab5 spec_l4Copy.bits5 (fun HT_ HW_ => ?_); generalize wr.drew = Ci at Aa Al Ai HB Bb A1 Ar Am As An hHeld ⊢; refine p1_ 0 (rl_ [1, 23]) HT_ ?_
    refine p1_ 2 (rl_ [1, 1, 1, 21]) HT_ ?_
    refine p1_ 3 (rl_ [1, 1, 2, 20]) HT_ ?_
    refine p1_ 4 (rl_ [1, 1, 3, 19]) HT_ ?_
    refine p1_ 6 (rl_ [1, 1, 3, 1, 1, 17]) HT_ ?_
    refine p1_ 10 (rl_ [1, 1, 3, 1, 1, 3, 1, 13]) HT_ ?_
    refine p1_ 11 (rl_ [1, 1, 3, 1, 1, 3, 2, 12]) HT_ ?_
    refine p1_ 12 (rl_ [1, 1, 3, 1, 1, 3, 3, 11]) HT_ ?_
    refine p1_ 14 (rl_ [1, 1, 3, 1, 1, 3, 3, 1, 1, 9]) HT_ ?_
    refine t1_ 1 (rl_ [5, 1, 1, 3, 3, 1, 1, 9]) HT_ HW_ hHeld ?_
    refine t1_ 5 (rl_ [7, 3, 3, 1, 1, 9]) HT_ HW_ hHeld ?_
    refine p1_ 7 (rl_ [8, 2, 3, 1, 1, 9]) HT_ ?_
    refine p1_ 8 (rl_ [9, 1, 3, 1, 1, 9]) HT_ ?_
    refine t1_ 9 (rl_ [13, 1, 1, 9]) HT_ HW_ hHeld ?_
    refine t1_ 13 (rl_ [15, 9]) HT_ HW_ hHeld ?_
    refine p1_ 15 (rl_ [16, 8]) HT_ ?_
    refine p1_ 16 (rl_ [17, 7]) HT_ ?_
    refine t1_ 17 (rl_ [18, 6]) HT_ HW_ hHeld ?_
    refine o1_ 18 (rl_ [19, 5]) HT_ fun K hK => ?_; refine gs_ Try.func63 #[.slice Av ((rd_T59 Ah Ab).f1).length Aw] ?_
    with_reducible refine (spec_l1Copy.calls _ _ ((rd_T59 Ah Ab).f1) A6 _ ?_ ?_ A9.out).mono ?_
    exact ca_ (Kd.C_below A1.out HB.out); exact Bc.out; rintro e Cj ⟨Cg, rfl, Cb, hb⟩; refine ⟨_, rfl, ?_⟩; replace Aa := A_ (Kd.S_elder' (by (with_reducible repeat (first | apply Kd.S_alloc | apply Kd.S_drewN | apply Kd.S_drew)); exact Aa.out) (Kd.R_base Cb) hb); have A3 := A_ (Kd.R_lower Cb (below_size below_a)); replace Al := bw_ Ak hb; replace Ai := bw_ Ao hb; replace HB := bs_ hb; (try clear hb Cb); obtain ⟨Bp, Bq, Br⟩ := Kd.R_slice A3.out; (first | subst Br | (injection Br with f1_ f2_ f3_; have f4_ := f1_.symm; have f5_ := f3_.symm; clear f1_ f2_ f3_; subst f4_; subst f5_)); refine k1_ hK (by2_ Ai.out ⟨((HB.out.cell (p := p) HLP.out).trans HXP_0.out), ((HB.out.cell (p := ⟨p.block, p.off + 1, none⟩) HLP.out).trans HXP_1.out), ((HB.out.cell (World.block_lt_of_cell? w _ Ae)).trans Ae), ((HB.out.cell (World.block_lt_of_cell? w _ Ad)).trans Ad), ((HB.out.cell (World.block_lt_of_cell? w _ Ag)).trans Ag), ((HB.out.cell (World.block_lt_of_cell? w _ Af)).trans Af)⟩) (fun hHeld => ?_); clear hK K; refine p1_ 19 (rl_ [20, 4]) HT_ ?_
    refine o1_ 20 (rl_ [21, 3]) HT_ fun K hK => ?_; refine value_ (w1 := ?_) (v := ?_) (by rfl) rfl ?_ ?_; rotate_left 2
    ·
     go_simp
     constructor
     ·
      rfl
     rfl
    refine k1_ hK (by2_ (blk_alloc Ai.out _) ⟨(World.cell?_alloc_lt _ _ _ (World.block_lt_of_cell? _ _ (((HB.out.cell (p := p) HLP.out).trans HXP_0.out)))).trans (((HB.out.cell (p := p) HLP.out).trans HXP_0.out)), (World.cell?_alloc_lt _ _ _ (World.block_lt_of_cell? _ _ (((HB.out.cell (p := ⟨p.block, p.off + 1, none⟩) HLP.out).trans HXP_1.out)))).trans (((HB.out.cell (p := ⟨p.block, p.off + 1, none⟩) HLP.out).trans HXP_1.out)), (World.cell?_alloc_lt _ _ _ (World.block_lt_of_cell? _ _ (((HB.out.cell (World.block_lt_of_cell? w _ Ae)).trans Ae)))).trans (((HB.out.cell (World.block_lt_of_cell? w _ Ae)).trans Ae)), (World.cell?_alloc_lt _ _ _ (World.block_lt_of_cell? _ _ (((HB.out.cell (World.block_lt_of_cell? w _ Ad)).trans Ad)))).trans (((HB.out.cell (World.block_lt_of_cell? w _ Ad)).trans Ad)), (World.cell?_alloc_lt _ _ _ (World.block_lt_of_cell? _ _ (((HB.out.cell (World.block_lt_of_cell? w _ Ag)).trans Ag)))).trans (((HB.out.cell (World.block_lt_of_cell? w _ Ag)).trans Ag)), (World.cell?_alloc_lt _ _ _ (World.block_lt_of_cell? _ _ (((HB.out.cell (World.block_lt_of_cell? w _ Af)).trans Af)))).trans (((HB.out.cell (World.block_lt_of_cell? w _ Af)).trans Af))⟩) (fun hHeld => ?_); clear hK K; refine o1_ 21 (rl_ [22, 2]) HT_ fun K hK => ?_; refine Kd.S_append_step k59 (w0 := w) w.heap.size (by rfl) (.tmp 20) (.tmp 39) 32 59 (.agg #[(.int .i64 0), (.slice none 0 0)]) 32 rfl Try.underlying32 info59 rfl (by decide) (by omega) Aj Ac (⟨(rd_T59 Ah Ab).f0, A6⟩ : S59) [.int .i64 ((rd_T59 Ah Ab).f0), .slice Bp A6.length Bq] (fun _ => True) (fun k_ => some k_ = (.slice Bp A6.length Bq : Value).ownBlock) rfl rfl ?aP (fun k_ hk_ => ((Kd.R_mono (ok' := fun k_ => ((fun _ => True)) k_ ∧ some k_ ≠ (Aj : Value).ownBlock) (Kd.R_apart' (A3.out) (Kd.S_typed Aa.out) (by decide)) (fun k_ hk => ⟨trivial, hk.2⟩))).1 k_ hk_.symm) ?aF ?aO ?aB ?aS ?aL ?_; (case aP => exact k59_mkM _ _ _ (⟨(rd_T59 Ah Ab).f0, A6⟩ : S59) (Kd.R_mono (Kd.R_tight rfl (Kd.R_mono (ok' := fun k_ => ((fun _ => True)) k_ ∧ some k_ ≠ (Aj : Value).ownBlock) (Kd.R_apart' (A3.out) (Kd.S_typed Aa.out) (by decide)) (fun k_ hk => ⟨trivial, hk.2⟩))) (fun _ h_ => h_))); (case aB => exact below_a); (case aF => exact (fun _ _ => trivial)); (case aO => exact (by (with_reducible repeat (first | apply Kd.S_alloc | apply Kd.S_drewN | apply Kd.S_drew)); exact Kd.S_mono Aa.out (fun k_ hk => ⟨trivial, fun e_ => hk.2 e_⟩))); (case aS => exact (below_size below_a)); (case aL => have := LMc10.out; omega); intro Ch Ck ho hb hg hat; rw [← Bn.out] at ho; replace Al := A_ (blk_grown (g := Ak) blk_c hg (Kd.S_ne Aa.out Al.out (by decide))); replace Ai := A_ (blk_grown (g := Ao) blk_c hg (Kd.S_ne Aa.out Ai.out (by decide))); replace HB := A_ (hb); have Bh := A_ (ho); clear Aa A3 ho hb hg hat; obtain ⟨Bs, Bt, Bu⟩ := Kd.S_slice Bh.out; (first | subst Bu | (injection Bu with f1_ f2_ f3_; have f4_ := f1_.symm; have f5_ := f3_.symm; clear f1_ f2_ f3_; subst f4_; subst f5_)); refine k1_ hK (by2_ Ai.out ⟨((HB.out.cell (p := p) HLP.out).trans HXP_0.out), ((HB.out.cell (p := ⟨p.block, p.off + 1, none⟩) HLP.out).trans HXP_1.out), ((HB.out.cell (World.block_lt_of_cell? w _ Ae)).trans Ae), ((HB.out.cell (World.block_lt_of_cell? w _ Ad)).trans Ad), ((HB.out.cell (World.block_lt_of_cell? w _ Ag)).trans Ag), ((HB.out.cell (World.block_lt_of_cell? w _ Af)).trans Af)⟩) (fun hHeld => ?_); clear hK K; refine p1_ 22 (rl_ [23, 1]) HT_ ?_
    refine last_ (i := 23) (N := none) (rl_ [24]) rfl rfl (one_of HT_.out (by kernel_rfl)) (by decide) (fun K hK => ?_); have := bc2_ Ai.out; have := nn_ A5; refine skip_ (w1 := ?_) (by rfl) rfl ?_ ?_; rotate_left
    ·
     go_simp
     rfl
    refine hK.out _ _ ?_; clear hK K; refine done_ (done_of HT_.out (by kernel_rfl)) ?_
    try go_wp2
    go_roundg k1
    case measure => have := HK1.out; omega
    case rel => exact ⟨(wrap64 (Ab + 1)), (Bi), (.slice Bs Bi.length Bt), eq_b, H', ⟨by have := HK1.out; omega⟩, ⟨by (with_reducible repeat (first | apply Kd.S_alloc | apply Kd.S_drewN | apply Kd.S_drew)); exact Kd.S_mono (Kd.S_far (p := ⟨Ao, 1, none⟩) (Kd.S_types Bh.out Ai.out (by decide)) (fun _ hk => hk.2) (.slice Bs Bi.length Bt)) (fun _ hk => trivial)⟩, ⟨blk_a⟩, ⟨blk_a⟩, ⟨below_a⟩⟩
   rw [if_neg c7] at H; have Bz := decide_eq_false c7; clear c7; obtain ⟨rfl, rfl⟩ := s2_ H; have hcz18_0 : wr.cell? p = some (.int .i64 Aq) := (HB.out.cell (p := p) HLP.out).trans HXP_0.out; have hcz18_1 : wr.cell? ⟨p.block, p.off + 1, none⟩ = some (.slice A7 Ah.length A4) := (HB.out.cell (p := ⟨p.block, p.off + 1, none⟩) HLP.out).trans HXP_1.out; have hnpz18_809 : p.block ≠ Ak := Nat.ne_of_lt (Nat.lt_of_lt_of_le HLP.out A8.out); have hnpz18_810 : p.block ≠ Ao := Nat.ne_of_lt (Nat.lt_of_lt_of_le HLP.out Bg.out); have := nn_ Au; have := bc2_ Ai.out; have := bc2_ Al.out; obtain ⟨Bv, Bw, Cc⟩ := Kd.S_slice Aa.out; subst Cc
   go_wp2
   refine bodyPost_ret (v := .agg #[.int .i64 Aq, .slice Bv Ac.length Bw]) ?_ rfl ?_; exact rc_ Ak Try.underlying34; exact ⟨_, eq_a, by (with_reducible repeat (first | apply Kd.S_alloc | apply Kd.S_drewN | apply Kd.S_drew)); exact Kd.S_mono (Kd.S_far (p := ⟨Ak, 1, none⟩) (Kd.S_far (p := ⟨Ak, 0, none⟩) (Kd.S_types Aa.out Al.out (by decide)) (fun _ hk => hk.2) (.int .i64 Aq)) (fun _ hk => hk.2) (.slice Bv Ac.length Bw)) (fun _ hk => trivial), below_a⟩
def spec_FindKey.f (k : Nat) (Ac : Int) (Ad : List (S59)) (a1 : Int) : Option (Int × Int × List Int) := (spec_RingFault.f k Ac Ad).bind fun Ae => (if Ae = 0 then ((spec_l4Find.f k Ac Ad a1).bind fun Aa => (if Aa < 0 then (some (4, 0, ([] : List Int))) else ((spec_l4Copy.f k Ac Ad).bind fun Ab => (if 0 ≤ Aa then (if Aa < (Ab.2.length : Int) then (some (0, (rd_T59 Ab.2 Aa).f0, (rd_T59 Ab.2 Aa).f1)) else (none)) else (none))))) else (some (Ae, 0, ([] : List Int))))
theorem spec_FindKey.calls (k : Nat) (Ae : Int) (Ah : Option Addr) (Ai : Nat) (Aa : List (S59)) (a1 : Int) (r1 : Int) (r2 : Int) (r3 : List Int) (w : World) (A5 : Kd.C k59 w Ah Aa.length Aa) (A6 : Aa.length ≤ Ai) (h : spec_FindKey.f k Ae Aa a1 = some (r1, r2, r3)) :
  Calls Try.prog 32 #[.agg #[.int .i64 Ae, .slice Ah Aa.length Ai], .int .i64 a1] w fun e w' => ∃ v2_ : Value, e = .returned (.agg #[.int .i64 r1, .int .i64 r2, v2_]) ∧ Kd.R (Kd.int .u8) 5 w' w.heap.size (fun _ => True) v2_ r3 ∧ Below w.heap.size w w' := by
 have hu34 := Try.underlying34
 have hu61 := Try.underlying61
 have hu59 := Try.underlying59
 have Au := A_ A5
 have Av := A_ A6
 clear A5 A6
 have HB := A_ (Below.refl w.heap.size w)
 unfold spec_FindKey.f at h; have H := h; clear h
 obtain ⟨A7, Bl, H⟩ := bi_ H
 (try dsimp only at H)
 have A3 := A_ Bl
 clear Bl
 have Bm := A_ H
 clear H
 go_enter Try.func32, Try.ntmps32
 go_upto_if 10 with (first | ((with_reducible refine d1_ 2 ?_); refine by_ 2 (#[.int .i64 Ae, .slice Ah Aa.length Ai]) 34 ?_; intro Ak hg w5 hbox hb; have Al := A_ (hbox); have Bn := gw_ (w := w) hg; replace HB := bs_ hb; clear hb hbox hg) | ((with_reducible refine d1_ 4 ?_); refine by_ 4 (#[.int .i64 0, .int .i64 0, .slice none 0 0]) 61 ?_; intro Ab hg w6 hbox hb; have Af := A_ (hbox); have Bo := gw_ (w := w) hg; obtain ⟨As, Ad⟩ := bu_ Ak hg; replace Al := bw_ Ak hb; replace HB := bs_ hb; clear hb hbox hg; have := nn_ As; have := bc2_ Al.out) | ((with_reducible refine f1_ 34 ?_); refine gl_ (some 8) Try.func34 #[.agg #[.int .i64 Ae, .slice Ah Aa.length Ai]] ?_; (with_reducible refine (spec_RingFault.calls k Ae _ _ Aa A7 _ ?_ ?_ A3.out).mono ?_); exact ca_ (Kd.C_below Au.out HB.out); exact Av.out; rintro e w9 ⟨rfl, hb⟩; refine ⟨_, rfl, ?_⟩; replace Al := bw_ Ak hb; replace Af := bw_ Ab hb; replace HB := bs_ hb; (try clear hb)))
 (try simp only [P4_])
 have H := Bm.out
 clear Bm
 by_cases Bb : A7 = 0
 ·
  rw [if_pos Bb] at H; obtain ⟨Am, Bc⟩ := be_ Bb; clear Bb; (first | rw [Am] | (simp only [i64_w, i32_w]; rw [Am]) | skip); obtain ⟨Ag, Bw, H⟩ := bj_ H; (try dsimp only at H); have Bd := A_ H; clear H
  go_upto_if 16 with (first | (go_at_call 35; (with_reducible refine (spec_l4Find.calls k _ Ae Ah Ai Aa a1 Ag _ ?_ ?_ ?_ ?_ Bw.out).mono ?_); exact ca_ (Kd.C_below Au.out HB.out); exact Av.out; exact (blk_cell (cs := #[.int .i64 Ae, .slice Ah Aa.length Ai]) (t := 34) blk_a 0).trans rfl; exact (blk_cell (cs := #[.int .i64 Ae, .slice Ah Aa.length Ai]) (t := 34) blk_a 1).trans rfl; rintro e B4 ⟨rfl, hb⟩; replace Al := bw_ Ak hb; replace Af := bw_ Ab hb; replace HB := bs_ hb; (try clear hb)))
  (try simp only [P4_]); have H := Bd.out; clear Bd
  by_cases Ba : Ag < 0
  ·
   rw [if_pos Ba] at H; have An := decide_eq_true Ba; clear Ba; (first | rw [An] | (simp only [i64_w, i32_w]; rw [An]) | skip); obtain ⟨rfl, rfl, rfl⟩ := s3_ H; have := nn_ Ad; have := bc3_ Af.out
   go_wp2
   refine bodyPost_ret (v := .agg #[.int .i64 4, .int .i64 0, .slice none 0 0]) ?_ rfl ?_; exact rc_ Ab Try.underlying61; exact ⟨_, eq_a, by first | exact Kd.R_nil _ _ _ _ _ | exact Kd.N_nil _ _ _ _ _ | exact Kd.V_nil _ _ _ _ _ | exact Kd.Q_nil _ _ _ _ _ | exact Kd.S_nil _ _ _ _ _, below_a⟩
  rw [if_neg Ba] at H; have An := decide_eq_false Ba; clear Ba; (first | rw [An] | (simp only [i64_w, i32_w]; rw [An]) | skip); obtain ⟨⟨Bi, Ao⟩, Bx, H⟩ := bj_ H; (try dsimp only at H)
  obtain ⟨Bp, H⟩ := iq_ H; have Bq := decide_eq_true Bp; clear Bp
  obtain ⟨Br, H⟩ := iq_ H; have Bs := decide_eq_true Br; clear Br; obtain ⟨rfl, rfl, rfl⟩ := s3_ H
  go_wp2_with (first | (go_at_call 71; (with_reducible refine (spec_l4Copy.calls k _ Ae Ah Ai Aa Bi Ao _ ?_ ?_ ?_ ?_ Bx.out).mono ?_); exact ca_ (Kd.C_below Au.out HB.out); exact Av.out; exact (blk_cell (cs := #[.int .i64 Ae, .slice Ah Aa.length Ai]) (t := 34) blk_a 0).trans rfl; exact (blk_cell (cs := #[.int .i64 Ae, .slice Ah Aa.length Ai]) (t := 34) blk_a 1).trans rfl; rintro e Ca ⟨Bz, rfl, Bt, hb⟩; have Ap := A_ (Kd.S_lower Bt (below_size below_a)); replace Al := bw_ Ak hb; replace Af := bw_ Ab hb; replace HB := bs_ hb; (try clear hb Bt); obtain ⟨B0, B3, Bj⟩ := Kd.S_slice Ap.out; subst Bj; have Az : 0 ≤ (Ag : Int) := od_; have A0 : Ag < (Ao.length : Int) := od_; obtain ⟨Bu, Aw, Ax, Bk, Be, A1, Aq, Ar⟩ := at_T59 (Kd.S_reads' Ap.out).2.2 Ag Az A0; cases Bk; obtain ⟨Bv, A8, A9, Ay⟩ := Kd.S_get Ap.out z59 Ag Az (by first | exact A0 | exact od_ | (have e_ := (Kd.S_reads' Ap.out).1; omega)); obtain ⟨Bf, rfl, Aj⟩ := k59_openM A9; have Ac := Ay 1 _ rfl; rw [add_field _ _ 1 (by omega)] at Ac; replace Ac := Option.some.inj (Ac.symm.trans A1); rw [Ac] at Aj; have A4 := A_ (show Kd.R (Kd.int .u8) 5 _ _ _ _ ((rd_T59 Ao Ag).f1) from Aj); clear Ac Aj; clear Ay A8; have Bg := A_ Ar; have Bh := A_ Aq; clear Ar Aq; replace Az := eq_true Az; replace A0 := eq_true A0; have := nn_ Ad; have := bc3_ Af.out))
  refine bodyPost_ret (v := .agg #[.int .i64 0, .int .i64 ((rd_T59 Ao Ag).f0), .slice Aw ((rd_T59 Ao Ag).f1).length Ax]) ?_ rfl ?_; exact rc_ Ab Try.underlying61; exact ⟨_, eq_a, by (with_reducible repeat (first | apply Kd.R_alloc | apply Kd.R_drewN | apply Kd.R_drew)); exact Kd.R_mono (Kd.R_far (p := ⟨Ab, 2, none⟩) (Kd.R_far (p := ⟨Ab, 1, none⟩) (Kd.R_far (p := ⟨Ab, 0, none⟩) (Kd.R_types A4.out Af.out (by decide)) (fun _ hk => hk.2) (.int .i64 0)) (fun _ hk => hk.2) (.int .i64 ((rd_T59 Ao Ag).f0))) (fun _ hk => hk.2) (.slice Aw ((rd_T59 Ao Ag).f1).length Ax)) (fun _ hk => trivial), below_a⟩
 rw [if_neg Bb] at H; obtain ⟨Am, Bc⟩ := nb_ Bb; (first | rw [Am] | (simp only [i64_w, i32_w]; rw [Am]) | skip); obtain ⟨rfl, rfl, rfl⟩ := s3_ H; have := nn_ Ad; have := bc3_ Af.out
 go_wp2
 refine bodyPost_ret (v := .agg #[.int .i64 A7, .int .i64 0, .slice none 0 0]) ?_ rfl ?_; exact rc_ Ab Try.underlying61; exact ⟨_, eq_a, by first | exact Kd.R_nil _ _ _ _ _ | exact Kd.N_nil _ _ _ _ _ | exact Kd.V_nil _ _ _ _ _ | exact Kd.Q_nil _ _ _ _ _ | exact Kd.S_nil _ _ _ _ _, below_a⟩
end Go.Proofs.Ytiioiohdifkbgaa.MFnLetters
