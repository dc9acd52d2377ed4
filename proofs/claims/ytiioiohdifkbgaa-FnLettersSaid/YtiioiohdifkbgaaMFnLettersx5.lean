-- Laid by a program of this session (the kit's print, turned where it falls short; the texts of functions that it does not take are proved by hand).
import Derived.Test.YtiioiohdifkbgaaMFnLettersx4
namespace Go.Proofs.Ytiioiohdifkbgaa.MFnLetters
open Go.RowKit Go.Proofs.YtiioiohdifkbgaaW.PrintWords Go.Proofs.YtiioiohdifkbgaaW.PrintLast Go.Proofs.YtiioiohdifkbgaaW.PrintMore
set_option maxHeartbeats 80000000
set_option maxRecDepth 100000
attribute [local go_sem] max2_int min2_int max_two min_two max_three min_three max_four min_four   -- for this text's walks alone
set_option linter.unusedVariables false
set_option linter.unusedSimpArgs false
attribute [local go_sem] isSome_setCell
def spec_l5Nonce.f (k : Nat) (a0 : Int) (a1 : Int) : Option (List Int) := (spec_l1Pack.f k a0 4).bind fun t262 => ((spec_l1Pack.f k a1 8).bind fun t265 => (if t262.length + t265.length < 140737488355328 then (some (t262 ++ t265)) else (none)))
theorem spec_l5Nonce.calls (k : Nat) (a0 : Int) (a1 : Int) (r : List Int) (w : World) (h : spec_l5Nonce.f k a0 a1 = some r) :
  Calls Try.prog 37 #[.int .i64 a0, .int .i64 a1] w fun e w' => ∃ v0_ : Value, e = .returned (v0_) ∧ Kd.R (Kd.int .u8) 5 w' w.heap.size (fun _ => True) v0_ r ∧ Below w.heap.size w w' := by
 have HB := A_ (Below.refl w.heap.size w)
 unfold spec_l5Nonce.f at h; have H := h; clear h
 obtain ⟨Ae, Aj, H⟩ := bi_ H
 (try dsimp only at H)
 have A3 := A_ Aj
 clear Aj
 obtain ⟨Ad, Ak, H⟩ := bi_ H
 (try dsimp only at H)
 have A4 := A_ Ak
 clear Ak
 obtain ⟨c5, H⟩ := iq_ H; have LMc5 := A_ c5; clear c5; obtain ⟨Al, Ac⟩ := ey_ (Ae ++ Ad : List Int); (try (with_reducible replace H := os_ H)); (try dsimp only at H); (try rw [← Ac] at H)
 have Ag := A_ Ac; clear Ac; obtain rfl := Option.some.inj H
 go_enter Try.func37, Try.ntmps37
 go_wp2_with (first | ((with_reducible refine f1_ 79 ?_); refine gl_ (some 6) Try.func79 #[.int .i64 a0, .int .i64 4] ?_; (with_reducible refine (spec_l1Pack.calls k a0 4 Ae _ A3.out).mono ?_); rintro e w6 ⟨Ai, rfl, Af, hb⟩; refine ⟨_, rfl, ?_⟩; have Aa := A_ (Kd.R_lower Af (below_size below_a)); replace HB := bs_ hb; (try clear hb Af)) | ((with_reducible refine f1_ 79 ?_); refine gl_ (some 8) Try.func79 #[.int .i64 a1, .int .i64 8] ?_; (with_reducible refine (spec_l1Pack.calls k a1 8 Ad _ A4.out).mono ?_); rintro e w7 ⟨Am, rfl, Af, hb⟩; refine ⟨_, rfl, ?_⟩; have n0_ := re_ Aa hb (Kd.R_base Af); have Ab := A_ (Kd.R_lower (Kd.R_new' Af (Kd.R_lt (R_a Aa.out))) (below_size below_a)); replace HB := bs_ hb; replace Aa := n0_; clear n0_; (try clear hb Af); obtain ⟨An, Ao, Ap⟩ := Kd.R_slice Ab.out; subst Ap) | ((with_reducible refine gate_builtin (b := .append) (xs := #[.tmp 6, .tmp 8]) rfl ?_); at_builtin; refine Kd.R_append_rows (Kd.int .u8) (w0 := w) w.heap.size rfl (.tmp 6) (.tmp 8) 25 5 (.int .u8 0) 1 rfl Try.underlying25 info5 rfl (by decide) (by omega) Ai Ae Ad _ _ _ (fun k_ => some k_ ≠ (.slice An Ad.length Ao : Value).ownBlock) (fun _ => False) rfl rfl ?aO ?aR (fun _ _ h => h) (fun _ h => h.elim) ?aF ?aB ?aS ?aL ?_; (case aR => exact cr_ Ab); (case aB => exact below_a); (case aF => exact (fun k_ hk => Kd.fresh' (Kd.R_lt (R_a Ab.out)) k_ hk)); (case aO => exact (rp_ Aa)); (case aS => exact (below_size below_a)); (case aL => have := LMc5.out; omega); intro Aq w8 ho hb hg hat; rw [← Ag.out] at ho; replace Ab := A_ (Kd.R_after (ok := (fun _ => True)) (R_a Ab.out) hg hat); replace HB := A_ (hb); have Ah := A_ (ho); clear Aa; clear ho hb hg hat))
 go_ret
 exact ⟨_, eq_a, rp_ Ah, below_a⟩
def spec_l5HeadOf.f (k : Nat) (Ac : Int) (Ad : Int) (Ae : Int) (Af : List Int) : Option (List Int) := (some (([1, (Ac) % 256, (Ad) % 256] : List Int) : List Int)).bind fun Aa => ((spec_l1Pack.f k Ae 8).bind fun Ab => (if Aa.length + Ab.length < 140737488355328 then (some (Aa ++ Ab)) else (none)))
def spec_l5HeadOf.T1 : Bool × List (List Nat × List Nat) := (true, [([], []), ([0], [0]), ([1], [1]), ([2], [2]), ([3], [3]), ([], []), ([5], [5]), ([6], [6]), ([7], [7]), ([8], [8]), ([4, 9], [4, 9]), ([], []), ([11], [11]), ([12], [12]), ([13], [13]), ([14], [14]), ([10, 15, 15], [10, 15]), ([16, 16, 0, 1, 2, 3, 4, 5, 6, 7, 8, 9, 10, 11, 12, 13, 14, 15, 16], [16])])
def spec_l5HeadOf.B1 : List Nat := [0, 1, 3, 7, 15, 0, 32, 96, 224, 480, 1023, 0, 2048, 6144, 14336, 30720, 65535, 131071]
theorem spec_l5HeadOf.tab1 : rtab .any (opsOf Try.f38 1) = spec_l5HeadOf.T1 := by kernel_rfl
theorem spec_l5HeadOf.bits1 : waitsOk spec_l5HeadOf.T1.2 spec_l5HeadOf.B1 = true := by kernel_rfl
theorem spec_l5HeadOf.calls (k : Nat) (p : Addr) (Ab : Int) (Ac : Int) (Ae : Int) (Aj : Option Addr) (Ak : Nat) (Ag : List Int) (r : List Int) (w : World) (Ap : Kd.C (Kd.int .u8) w Aj Ag.length Ag) (Aq : Ag.length ≤ Ak) (hxp_0 : w.cell? p = some (.int .i64 Ab)) (hxp_1 : w.cell? ⟨p.block, p.off + 1, none⟩ = some (.int .i64 Ac)) (hxp_2 : w.cell? ⟨p.block, p.off + 2, none⟩ = some (.int .i64 Ae)) (hxp_3 : w.cell? ⟨p.block, p.off + 3, none⟩ = some (.slice Aj Ag.length Ak)) (h : spec_l5HeadOf.f k Ab Ac Ae Ag = some r) :
  Calls Try.prog 38 #[.pointer (some p)] w fun e w' => ∃ v0_ : Value, e = .returned (v0_) ∧ Kd.R (Kd.int .u8) 5 w' w.heap.size (fun _ => True) v0_ r ∧ Below w.heap.size w w' := by
 have HXP_0 := A_ hxp_0
 have HXP_1 := A_ hxp_1
 have HXP_2 := A_ hxp_2
 have HXP_3 := A_ hxp_3
 have HLP := A_ (show p.block < w.heap.size from World.block_lt_of_cell? w _ hxp_0)
 clear hxp_0 hxp_1 hxp_2 hxp_3
 have A0 := A_ Ap
 have A1 := A_ Aq
 clear Ap Aq
 have HB := A_ (Below.refl w.heap.size w)
 unfold spec_l5HeadOf.f at h; have H := h; clear h
 obtain ⟨Al, Ah⟩ : ∃ y_ : List Int, y_ = (([1, (Ab) % 256, (Ac) % 256] : List Int)) := ⟨_, rfl⟩
 replace H : ((spec_l1Pack.f k Ae 8).bind fun Af => (if Al.length + Af.length < 140737488355328 then (some (Al ++ Af)) else (none))) = some r := by first | (rw [Ah]; with_reducible exact H) | (have H2_ := os_ H; rw [Ah]; with_reducible exact H2_) | (have H2_ := os_ H; with_reducible exact H2_) | with_reducible exact H | (rw [Ah]; exact H) | exact H
 have Ai := A_ Ah
 clear Ah
 obtain ⟨Af, A3, H⟩ := bi_ H
 (try dsimp only at H)
 have A2 := A_ A3
 clear A3
 obtain ⟨c3, H⟩ := iq_ H; have LMc3 := A_ c3; clear c3; obtain ⟨A4, Am⟩ := ey_ (Al ++ Af : List Int); (try (with_reducible replace H := os_ H)); (try dsimp only at H); (try rw [← Am] at H)
 have Au := A_ Am; clear Am; obtain rfl := Option.some.inj H
 go_enter Try.func38, Try.ntmps38
 try go_wp2
 replace HB := A_ (below_drew1 HB.out); refine start_ (n := 18) (S := fun w' => w'.cell? p = some (.int .i64 Ab) ∧ w'.cell? ⟨p.block, p.off + 1, none⟩ = some (.int .i64 Ac) ∧ w'.cell? ⟨p.block, p.off + 2, none⟩ = some (.int .i64 Ae) ∧ w'.cell? ⟨p.block, p.off + 3, none⟩ = some (.slice Aj Ag.length Ak)) (ds := []) (rl_ [0, 18]) (by kernel_rfl) rfl rfl ⟨((HB.out.cell (p := p) HLP.out).trans HXP_0.out), ((HB.out.cell (p := ⟨p.block, p.off + 1, none⟩) HLP.out).trans HXP_1.out), ((HB.out.cell (p := ⟨p.block, p.off + 2, none⟩) HLP.out).trans HXP_2.out), ((HB.out.cell (p := ⟨p.block, p.off + 3, none⟩) HLP.out).trans HXP_3.out)⟩ (fun hHeld => ?_); refine with_tabW spec_l5HeadOf.tab1 spec_l5HeadOf.bits1 (fun HT_ HW_ => ?_); generalize w.drew = w4 at HB hHeld ⊢; refine p1_ 0 (rl_ [1, 17]) HT_ ?_
 refine p1_ 1 (rl_ [2, 16]) HT_ ?_
 refine p1_ 2 (rl_ [3, 15]) HT_ ?_
 refine p1_ 5 (rl_ [3, 2, 1, 12]) HT_ ?_
 refine p1_ 6 (rl_ [3, 2, 2, 11]) HT_ ?_
 refine p1_ 7 (rl_ [3, 2, 3, 10]) HT_ ?_
 refine p1_ 11 (rl_ [3, 2, 3, 3, 1, 6]) HT_ ?_
 refine p1_ 12 (rl_ [3, 2, 3, 3, 2, 5]) HT_ ?_
 refine p1_ 13 (rl_ [3, 2, 3, 3, 3, 4]) HT_ ?_
 refine t1_ 3 (rl_ [4, 1, 3, 3, 3, 4]) HT_ HW_ hHeld ?_
 refine p1_ 4 (rl_ [8, 3, 3, 4]) HT_ ?_
 refine t1_ 8 (rl_ [9, 2, 3, 4]) HT_ HW_ hHeld ?_
 refine p1_ 9 (rl_ [10, 1, 3, 4]) HT_ ?_
 refine t1_ 14 (rl_ [10, 1, 4, 3]) HT_ HW_ hHeld ?_
 refine join_ (σ := Value × Value) 2 (rl_ [16, 2]) (fun s_ => [(13, s_.1), (18, s_.2)]) (fun s_ w' => (w'.cell? p = some (.int .i64 Ab) ∧ w'.cell? ⟨p.block, p.off + 1, none⟩ = some (.int .i64 Ac) ∧ w'.cell? ⟨p.block, p.off + 2, none⟩ = some (.int .i64 Ae) ∧ w'.cell? ⟨p.block, p.off + 3, none⟩ = some (.slice Aj Ag.length Ak)) ∧ (Kd.R (Kd.int .u8) 5 w' w.heap.size (fun k_ => some k_ ≠ (s_.2 : Value).ownBlock) s_.1 Al) ∧ (Kd.R (Kd.int .u8) 5 w' w.heap.size (fun k_ => some k_ ≠ (s_.1 : Value).ownBlock) s_.2 Af) ∧ (Below w.heap.size w w')) ?_ ?_; rotate_left
 ·
  intro hCont; refine two_ (i := 10) (j := 15) (Ni := some 13) (Nj := some 18) (rl_ [15, 3]) (rl_ [10, 1, 5, 2]) rfl rfl rfl rfl (two_of HT_.out (by kernel_rfl)) (by decide) (by decide) (fun K hK => ?_) (fun K hK => ?_)
  ·
   refine Kd.R_lit_step (Kd.int .u8) _ 5 ?hg (N := 13) ?hd (xs := ([1, (Ab) % 256, (Ac) % 256] : List Int)) (inner := [.int .u8 1, .int .u8 ((Ab) % 256), .int .u8 ((Ac) % 256)]) (ok := fun _ => True) (okp := fun _ => True) ?hr ?hp (fun _ hk => hk) trivial (Below.refl _ _) (Nat.le_refl _) (by simp) ?_; (case hd => rfl); (case hg => rfl); (case hr => go_simp <;> rfl); (case hp => exact (Reps.one (show Kd.M (Kd.int .u8) _ _ _ 1 [.int .u8 1] from rfl) (Reps.one (show Kd.M (Kd.int .u8) _ _ _ ((Ab) % 256) [.int .u8 ((Ab) % 256)] from rfl) (Reps.one (show Kd.M (Kd.int .u8) _ _ _ ((Ac) % 256) [.int .u8 ((Ac) % 256)] from rfl) (Reps.none _ _))))); intro An w5 Av hb hg_ hnew_; clear hg_ hnew_; (first | rw [← Ai.out] at Av | (simp only [Int.reduceToNat] at Av; rw [← Ai.out] at Av)); have Ad := A_ (Kd.R_lower Av (below_size below_a)); replace HB := bs_ hb; clear hb Av; refine k1_ hK ⟨((HB.out.cell (p := p) HLP.out).trans HXP_0.out), ((HB.out.cell (p := ⟨p.block, p.off + 1, none⟩) HLP.out).trans HXP_1.out), ((HB.out.cell (p := ⟨p.block, p.off + 2, none⟩) HLP.out).trans HXP_2.out), ((HB.out.cell (p := ⟨p.block, p.off + 3, none⟩) HLP.out).trans HXP_3.out)⟩ (fun hHeld => ?_); clear hK K; refine o1_ 15 (rl_ [16, 2]) HT_ fun K hK => ?_; refine gs_ Try.func79 #[.int .i64 Ae, .int .i64 8] ?_
   with_reducible refine (spec_l1Pack.calls k Ae 8 Af _ A2.out).mono ?_
   rintro e w7 ⟨Ao, rfl, Ar, hb⟩; refine ⟨_, rfl, ?_⟩; have n0_ := re_ Ad hb (Kd.R_base Ar); have Aa := A_ (Kd.R_lower (Kd.R_new' Ar (Kd.R_lt (R_a Ad.out))) (below_size below_a)); replace HB := bs_ hb; replace Ad := n0_; clear n0_; (try clear hb Ar); refine k1_ hK ⟨((HB.out.cell (p := p) HLP.out).trans HXP_0.out), ((HB.out.cell (p := ⟨p.block, p.off + 1, none⟩) HLP.out).trans HXP_1.out), ((HB.out.cell (p := ⟨p.block, p.off + 2, none⟩) HLP.out).trans HXP_2.out), ((HB.out.cell (p := ⟨p.block, p.off + 3, none⟩) HLP.out).trans HXP_3.out)⟩ (fun hHeld => ?_); clear hK K; exact nm_ (hCont (An, Ao) _ ⟨hHeld, (rp_ Ad), (rp_ Aa), below_a⟩)
  refine gs_ Try.func79 #[.int .i64 Ae, .int .i64 8] ?_
  with_reducible refine (spec_l1Pack.calls k Ae 8 Af _ A2.out).mono ?_
  rintro e w5 ⟨Ao, rfl, Ar, hb⟩; refine ⟨_, rfl, ?_⟩; have Aa := A_ (Kd.R_lower Ar (below_size below_a)); replace HB := bs_ hb; (try clear hb Ar); refine k1_ hK ⟨((HB.out.cell (p := p) HLP.out).trans HXP_0.out), ((HB.out.cell (p := ⟨p.block, p.off + 1, none⟩) HLP.out).trans HXP_1.out), ((HB.out.cell (p := ⟨p.block, p.off + 2, none⟩) HLP.out).trans HXP_2.out), ((HB.out.cell (p := ⟨p.block, p.off + 3, none⟩) HLP.out).trans HXP_3.out)⟩ (fun hHeld => ?_); clear hK K; refine o1_ 10 (rl_ [16, 2]) HT_ fun K hK => ?_; refine Kd.R_lit_step (Kd.int .u8) _ 5 ?hg (N := 13) ?hd (xs := ([1, (Ab) % 256, (Ac) % 256] : List Int)) (inner := [.int .u8 1, .int .u8 ((Ab) % 256), .int .u8 ((Ac) % 256)]) (ok := fun _ => True) (okp := fun _ => True) ?hr ?hp (fun _ hk => hk) trivial (Below.refl _ _) (Nat.le_refl _) (by simp) ?_; (case hd => rfl); (case hg => rfl); (case hr => go_simp <;> rfl); (case hp => exact (Reps.one (show Kd.M (Kd.int .u8) _ _ _ 1 [.int .u8 1] from rfl) (Reps.one (show Kd.M (Kd.int .u8) _ _ _ ((Ab) % 256) [.int .u8 ((Ab) % 256)] from rfl) (Reps.one (show Kd.M (Kd.int .u8) _ _ _ ((Ac) % 256) [.int .u8 ((Ac) % 256)] from rfl) (Reps.none _ _))))); intro An w6 As hb hg_ hnew_; clear hg_ hnew_; (first | rw [← Ai.out] at As | (simp only [Int.reduceToNat] at As; rw [← Ai.out] at As)); have n0_ := re_ Aa hb (Kd.R_base As); have Ad := A_ (Kd.R_lower (Kd.R_new' As (Kd.R_lt (R_a Aa.out))) (below_size below_a)); replace HB := bs_ hb; replace Aa := n0_; clear n0_ hb As; refine k1_ hK ⟨((HB.out.cell (p := p) HLP.out).trans HXP_0.out), ((HB.out.cell (p := ⟨p.block, p.off + 1, none⟩) HLP.out).trans HXP_1.out), ((HB.out.cell (p := ⟨p.block, p.off + 2, none⟩) HLP.out).trans HXP_2.out), ((HB.out.cell (p := ⟨p.block, p.off + 3, none⟩) HLP.out).trans HXP_3.out)⟩ (fun hHeld => ?_); clear hK K; exact nm_ (hCont (An, Ao) _ ⟨hHeld, (rp_ Ad), (rp_ Aa), below_a⟩)
 rintro ⟨An, Ao⟩ w8 ⟨hS_, h0_, h1_, h2_⟩
 try dsimp only at hS_ h0_ h1_ h2_
 clear HB; have Ad := A_ h0_; have Aa := A_ h1_; have HB := A_ h2_; clear h0_ h1_ h2_; have hHeld : w8.cell? p = some (.int .i64 Ab) ∧ w8.cell? ⟨p.block, p.off + 1, none⟩ = some (.int .i64 Ac) ∧ w8.cell? ⟨p.block, p.off + 2, none⟩ = some (.int .i64 Ae) ∧ w8.cell? ⟨p.block, p.off + 3, none⟩ = some (.slice Aj Ag.length Ak) := hS_; obtain ⟨Ay, Az, Aw⟩ := Kd.R_slice Aa.out; (first | subst Aw | (injection Aw with f1_ f2_ f3_; have f4_ := f1_.symm; have f5_ := f3_.symm; clear f1_ f2_ f3_; subst f4_; subst f5_)); refine norm_ (a' := ?_) ?_ ?_; rotate_left
 ·
  simp only [putAll, Act.put, List.setIfInBounds_toArray, List.set_cons_zero, List.set_cons_succ]; rfl
 refine o1_ 16 (rl_ [17, 1]) HT_ fun K hK => ?_; refine Kd.R_append_rows_step (Kd.int .u8) (w0 := w) w.heap.size (by rfl) (.tmp 13) (.tmp 18) 25 5 (.int .u8 0) 1 rfl Try.underlying25 info5 rfl (by decide) (by omega) An Al Af _ _ _ (fun k_ => some k_ ≠ (.slice Ay Af.length Az : Value).ownBlock) (fun _ => False) rfl rfl ?aO ?aR (fun _ _ h => h) (fun _ h => h.elim) ?aF ?aB ?aS ?aL ?_; (case aR => exact cr_ Aa); (case aB => exact below_a); (case aF => exact (fun k_ hk => Kd.fresh' (Kd.R_lt (R_a Aa.out)) k_ hk)); (case aO => exact (R_a Ad.out)); (case aS => exact (below_size below_a)); (case aL => have := LMc3.out; omega); intro A5 w9 ho hb hg hat; rw [← Au.out] at ho; replace Aa := A_ (Kd.R_after (ok := (fun _ => True)) (rp_ Aa) hg hat); replace HB := A_ (hb); have Ax := A_ (ho); clear Ad ho hb hg hat; refine k1_ hK ⟨((HB.out.cell (p := p) HLP.out).trans HXP_0.out), ((HB.out.cell (p := ⟨p.block, p.off + 1, none⟩) HLP.out).trans HXP_1.out), ((HB.out.cell (p := ⟨p.block, p.off + 2, none⟩) HLP.out).trans HXP_2.out), ((HB.out.cell (p := ⟨p.block, p.off + 3, none⟩) HLP.out).trans HXP_3.out)⟩ (fun hHeld => ?_); clear hK K; refine p1_ 17 (rl_ [18]) HT_ ?_
 refine done_ (done_of HT_.out (by kernel_rfl)) ?_
 try go_wp2
 go_ret
 exact ⟨_, eq_a, rp_ Ax, below_a⟩
def spec_OpenLetter.f (k : Nat) (Ae : Int) (Ab : List (S59)) (l1 : List Int) : Option (Int × Int × Int × Int × List Int) := (spec_RingFault.f k Ae Ab).bind fun Af => (if Af = 0 then (if (l1.length : Int) > 327 then (some (2, 0, 0, 0, ([] : List Int))) else ((spec_ReadHead.f k l1).bind fun Aa => (if Aa.1 = 0 then ((spec_l4Find.f k Ae Ab Aa.2.1).bind fun Ac => (if Ac < 0 then (some (4, 0, 0, 0, ([] : List Int))) else (if 0 ≤ Ac then (if Ac < (Ab.length : Int) then ((spec_l5Nonce.f k Aa.2.2.1 Aa.2.2.2.1).bind fun Ag => ((spec_l5HeadOf.f k Aa.2.1 Aa.2.2.1 Aa.2.2.2.1 Aa.2.2.2.2).bind fun Ah => (if 11 ≤ (l1.length : Int) then ((spec_l3Open.f k ((rd_T59 Ab Ac).f1) Ag Ah (l1.drop 11)).bind fun Ad => (if Ad.2 = true then (some (Aa.1, Aa.2.1, Aa.2.2.1, Aa.2.2.2.1, Ad.1)) else (some (9, 0, 0, 0, ([] : List Int))))) else (none)))) else (none)) else (none)))) else (some (Aa.1, Aa.2.1, Aa.2.2.1, Aa.2.2.2.1, Aa.2.2.2.2))))) else (some (Af, 0, 0, 0, ([] : List Int))))
def spec_OpenLetter.T12 : Bool × List (List Nat × List Nat) := (true, [([], []), ([0], [0]), ([], []), ([1, 2], [1, 2]), ([3], [3]), ([4], [4]), ([], []), ([6], [6]), ([7], [7]), ([], []), ([9], [9]), ([10], [10]), ([8, 11], [8, 11]), ([], []), ([13, 12], [13]), ([], []), ([15], [15]), ([5, 12, 14, 16, 14], [5, 12, 14, 16]), ([17], [17]), ([18], [18]), ([18], [18]), ([19, 17, 0, 1, 2, 3, 4, 5, 6, 7, 8, 9, 10, 11, 12, 13, 14, 15, 16, 17, 18, 19], [19]), ([20, 21, 0, 1, 2, 3, 4, 5, 6, 7, 8, 9, 10, 11, 12, 13, 14, 15, 16, 17, 18, 19, 20, 21], [20])])
def spec_OpenLetter.B12 : List Nat := [0, 1, 0, 7, 15, 31, 0, 64, 192, 0, 512, 1536, 4032, 0, 16320, 0, 32768, 131071, 262143, 524287, 524287, 1048575, 4194303]
theorem spec_OpenLetter.tab12 : rtab .any (opsOf Try.f6 12) = spec_OpenLetter.T12 := by kernel_rfl
theorem spec_OpenLetter.bits12 : waitsOk spec_OpenLetter.T12.2 spec_OpenLetter.B12 = true := by kernel_rfl
theorem spec_OpenLetter.calls (k : Nat) (Ay : Int) (Ba : Option Addr) (A0 : Nat) (Aj : List (S59)) (A1 : Option Addr) (c1 : Nat) (l1 : List Int) (r1 : Int) (r2 : Int) (r3 : Int) (r4 : Int) (r5 : List Int) (w : World) (Bl : Kd.C k59 w Ba Aj.length Aj) (Bm : Aj.length ≤ A0) (Cu : Kd.C (Kd.int .u8) w A1 l1.length l1) (Cv : l1.length ≤ c1) (h : spec_OpenLetter.f k Ay Aj l1 = some (r1, r2, r3, r4, r5)) :
  Calls Try.prog 6 #[.agg #[.int .i64 Ay, .slice Ba Aj.length A0], .slice A1 l1.length c1] w fun e w' => ∃ v4_ : Value, e = .returned (.agg #[.int .i64 r1, .int .i64 r2, .int .i64 r3, .int .i64 r4, v4_]) ∧ Kd.R (Kd.int .u8) 5 w' w.heap.size (fun _ => True) v4_ r5 ∧ Below w.heap.size w w' := by
 have hu34 := Try.underlying34
 have hu30 := Try.underlying30
 have Bg := A_ Bl
 have Bn := A_ Bm
 clear Bl Bm
 have Cw := A_ Cu
 have Cx := A_ Cv
 clear Cu Cv
 have HB := A_ (Below.refl w.heap.size w)
 unfold spec_OpenLetter.f at h; have H := h; clear h
 obtain ⟨Br, Cy, H⟩ := bi_ H
 (try dsimp only at H)
 have A3 := A_ Cy
 clear Cy
 have Cz := A_ H
 clear H
 go_enter Try.func6, Try.ntmps6
 go_upto_if 13 with (first | ((with_reducible refine d1_ 2 ?_); refine by_ 2 (#[.int .i64 Ay, .slice Ba Aj.length A0]) 34 ?_; intro Ai hg w5 hbox hb; have Aa := A_ (hbox); have C0 := gw_ (w := w) hg; replace HB := bs_ hb; clear hb hbox hg) | ((with_reducible refine d1_ 4 ?_); refine by_ 4 (#[.int .i64 0, .int .i64 0, .int .i64 0, .int .i64 0, .slice none 0 0]) 30 ?_; intro Af hg w6 hbox hb; have Ab := A_ (hbox); have C1 := gw_ (w := w) hg; obtain ⟨Bf, Ad⟩ := bu_ Ai hg; replace Aa := bw_ Ai hb; replace HB := bs_ hb; clear hb hbox hg; have := nn_ Bf; have := bc2_ Aa.out) | ((with_reducible refine f1_ 34 ?_); refine gl_ (some 11) Try.func34 #[.agg #[.int .i64 Ay, .slice Ba Aj.length A0]] ?_; (with_reducible refine (spec_RingFault.calls k Ay _ _ Aj Br _ ?_ ?_ A3.out).mono ?_); exact ca_ (Kd.C_below Bg.out HB.out); exact Bn.out; rintro e w9 ⟨rfl, hb⟩; refine ⟨_, rfl, ?_⟩; replace Aa := bw_ Ai hb; replace Ab := bw_ Af hb; replace HB := bs_ hb; (try clear hb)))
 (try simp only [P4_])
 have H := Cz.out
 clear Cz
 by_cases Bz : Br = 0
 ·
  rw [if_pos Bz] at H; obtain ⟨A4, B0⟩ := be_ Bz; clear Bz; (first | rw [A4] | (simp only [i64_w, i32_w]; rw [A4]) | skip)
  by_cases Bw : (l1.length : Int) > 327
  ·
   rw [if_pos Bw] at H; have B3 := dt_ Bw; have B4 : decide (327 < l1.length) = true := decide_eq_true (by omega); clear Bw; obtain ⟨rfl, rfl, rfl, rfl, rfl⟩ := s5_ H; have := nn_ Ad; have := bc5_ Ab.out
   go_wp2
   refine bodyPost_ret (v := .agg #[.int .i64 2, .int .i64 0, .int .i64 0, .int .i64 0, .slice none 0 0]) ?_ rfl ?_; exact rc_ Af Try.underlying30; exact ⟨_, eq_a, by first | exact Kd.R_nil _ _ _ _ _ | exact Kd.N_nil _ _ _ _ _ | exact Kd.V_nil _ _ _ _ _ | exact Kd.Q_nil _ _ _ _ _ | exact Kd.S_nil _ _ _ _ _, below_a⟩
  rw [if_neg Bw] at H; have B3 := df_ Bw; have B4 : decide (327 < l1.length) = false := decide_eq_false (by omega); clear Bw; obtain ⟨⟨Ax, Av, Ap, Aq, Az⟩, C9, H⟩ := bj_ H; (try dsimp only at H); have Ca := A_ H; clear H
  go_upto_if 24 with (first | ((with_reducible refine f1_ 25 ?_); refine gl_ (some 21) Try.func25 #[.slice A1 l1.length c1] ?_; (with_reducible refine (spec_ReadHead.calls k _ _ l1 Ax Av Ap Aq Az _ ?_ ?_ C9.out).mono ?_); exact ca_ (Kd.C_below Cw.out HB.out); exact Cx.out; rintro e Dl ⟨Da, rfl, Bh, hb⟩; refine ⟨_, rfl, ?_⟩; have Ac := A_ (Kd.R_lower Bh (below_size below_a)); replace Aa := bw_ Ai hb; replace Ab := bw_ Af hb; replace HB := bs_ hb; (try clear hb Bh)) | ((with_reducible refine d1_ 6 ?_); refine by_ 6 (#[.int .i64 0, .int .i64 0, .int .i64 0, .int .i64 0, .slice none 0 0]) 30 ?_; intro An hg Dm hbox hb; replace Ac := rv_ Ac hb; have Ae := A_ (hbox); have C2 := gw_ (w := w) hg; obtain ⟨Ak, Al⟩ := bu_ Ai hg; obtain ⟨Ao, Am⟩ := bu_ Af hg; replace Aa := bw_ Ai hb; replace Ab := bw_ Af hb; replace HB := bs_ hb; clear hb hbox hg; have := nn_ Al; have := nn_ Am; have := bc5_ Ae.out; obtain ⟨A5, A6, Cl⟩ := Kd.R_slice Ac.out; subst Cl))
  (try simp only [P4_]); have H := Ca.out; clear Ca
  by_cases Cb : Ax = 0
  ·
   rw [if_pos Cb] at H; obtain ⟨A7, Cc⟩ := be_ Cb; clear Cb; (first | rw [A7] | (simp only [i64_w, i32_w]; rw [A7]) | skip); obtain ⟨Ar, Db, H⟩ := bj_ H; (try dsimp only at H); have Cd := A_ H; clear H; have := nn_ Al; have := nn_ Am; have := bc5_ Ae.out
   go_upto_if 31 with (first | (go_at_call 35; (with_reducible refine (spec_l4Find.calls k _ Ay Ba A0 Aj Av Ar _ ?_ ?_ ?_ ?_ Db.out).mono ?_); exact Kd.C_below Bg.out below_a; exact Bn.out; (exact (blk_cell (cs := #[.int .i64 Ay, .slice Ba Aj.length A0]) (t := 34) (by (with_reducible repeat (first | refine blk_drewN ?_ _ | refine blk_drew ?_ | refine blk_alloc ?_ _)); refine blk_far ?_ Ak.out _; (iterate 4 ((with_reducible repeat (first | refine blk_drewN ?_ _ | refine blk_drew ?_ | refine blk_alloc ?_ _)); refine blk_far ?_ Ak.out _)); exact bl_ Aa.out) 0).trans rfl); (exact (blk_cell (cs := #[.int .i64 Ay, .slice Ba Aj.length A0]) (t := 34) (by (with_reducible repeat (first | refine blk_drewN ?_ _ | refine blk_drew ?_ | refine blk_alloc ?_ _)); refine blk_far ?_ Ak.out _; (iterate 4 ((with_reducible repeat (first | refine blk_drewN ?_ _ | refine blk_drew ?_ | refine blk_alloc ?_ _)); refine blk_far ?_ Ak.out _)); exact bl_ Aa.out) 1).trans rfl); rintro e Dc ⟨rfl, hb⟩; replace Ac := rv_ Ac hb; replace Ae := A_ (blk_below (g := An) (o := .cells #[.int .i64 Ax, .int .i64 Av, .int .i64 Ap, .int .i64 Aq, .slice A5 Az.length A6] 30 (0, 0)) bk_a hb); replace HB := bs_ hb; replace Aa := bw_ Ai hb; replace Ab := bw_ Af hb; (try clear hb)))
   (try simp only [P4_]); have H := Cd.out; clear Cd
   by_cases Bx : Ar < 0
   ·
    rw [if_pos Bx] at H; have A8 := decide_eq_true Bx; clear Bx; (first | rw [A8] | (simp only [i64_w, i32_w]; rw [A8]) | skip); obtain ⟨rfl, rfl, rfl, rfl, rfl⟩ := s5_ H; have := nn_ Ad; have := nn_ Ao; have := bc5_ Ab.out
    go_wp2
    refine bodyPost_ret (v := .agg #[.int .i64 4, .int .i64 0, .int .i64 0, .int .i64 0, .slice none 0 0]) ?_ rfl ?_; exact rc_ Af Try.underlying30; exact ⟨_, eq_a, by first | exact Kd.R_nil _ _ _ _ _ | exact Kd.N_nil _ _ _ _ _ | exact Kd.V_nil _ _ _ _ _ | exact Kd.Q_nil _ _ _ _ _ | exact Kd.S_nil _ _ _ _ _, below_a⟩
   rw [if_neg Bx] at H; have A8 := decide_eq_false Bx; clear Bx; (first | rw [A8] | (simp only [i64_w, i32_w]; rw [A8]) | skip)
   obtain ⟨C3, H⟩ := iq_ H; have C4 := decide_eq_true C3; clear C3
   obtain ⟨C5, H⟩ := iq_ H; have C6 := decide_eq_true C5; clear C5; obtain ⟨Bs, Dd, H⟩ := bj_ H; (try dsimp only at H); obtain ⟨Bt, De, H⟩ := bj_ H; (try dsimp only at H)
   obtain ⟨Cm, H⟩ := iq_ H; have C7 := eq_true Cm; have C8 : decide (11 ≤ (l1.length : Int)) = true := decide_eq_true Cm; clear Cm; obtain ⟨⟨Ce, Cf⟩, Df, H⟩ := bj_ H; (try dsimp only at H); have Cg := A_ H; clear H
   try go_wp2
   replace Ac := hd_ Ac; replace Aa := bd_ Aa; replace Ab := bd_ Ab; replace Ae := bd_ Ae; replace HB := A_ (below_drew1 HB.out); have Bu : 0 ≤ (Ar : Int) := od_; have Bv : Ar < (Aj.length : Int) := od_; obtain ⟨Bb, Bi, Bj, Cn, As, Au, Bc, Bd⟩ := at_T59 Bg.out Ar Bu Bv; have Ag := Au; have Ah := As
   cases Cn
   replace As := hc_ HB As; replace Au := hc_ HB Au; have Be := A_ Bd; have Bk := A_ Bc; clear Bd Bc; replace Bu := eq_true Bu; replace Bv := eq_true Bv; obtain ⟨Dg, Bo, _, hsz41, _⟩ := info_parts info5; obtain ⟨Dh, hcut41, hA41, hC41⟩ := print_drop_of (P := Try.prog) (Value.int .u8) 0 25 5 .i64 Try.underlying25 Bo hsz41 A1 c1 l1 11 (by omega) od_ Cx.out; have Bp := A_ (Kd.C_of_reads (h1 := fun _ => rfl) (hA41 _ (Kd.reads_of_C Cw.out))); have Ch := A_ hC41; clear hA41 hC41 Bo hsz41; refine start_ (n := 23) (S := fun w' => w'.cell? ⟨Ai, 0, none⟩ = some (.int .i64 Ay) ∧ w'.cell? ⟨Ai, 1, none⟩ = some (.slice (some Bb) Aj.length A0) ∧ w'.cell? ⟨An, 0, none⟩ = some (.int .i64 Ax) ∧ w'.cell? ⟨An, 1, none⟩ = some (.int .i64 Av) ∧ w'.cell? ⟨An, 2, none⟩ = some (.int .i64 Ap) ∧ w'.cell? ⟨An, 3, none⟩ = some (.int .i64 Aq) ∧ w'.cell? ⟨An, 4, none⟩ = some (.slice A5 Az.length A6) ∧ w'.cell? (Bb.add ((Ar).toNat * 2)) = some (.int .i64 ((rd_T59 Aj Ar).f0)) ∧ w'.cell? ⟨(Bb.add ((Ar).toNat * 2)).block, (Bb.add ((Ar).toNat * 2)).off + 1, none⟩ = some (.slice Bi ((rd_T59 Aj Ar).f1).length Bj)) (ds := []) (rl_ [0, 23]) (by kernel_rfl) rfl rfl (by2_ Aa.out (by5_ Ae.out ⟨((HB.out.cell (World.block_lt_of_cell? w _ Ah)).trans Ah), ((HB.out.cell (World.block_lt_of_cell? w _ Ag)).trans Ag)⟩)) (fun hHeld => ?_); refine with_tabW spec_OpenLetter.tab12 spec_OpenLetter.bits12 (fun HT_ HW_ => ?_); generalize Dc.drew = Dn at Ac Aa Ab Ae HB Be Bp As Au hHeld ⊢; refine p1_ 0 (rl_ [1, 22]) HT_ ?_
   refine p1_ 2 (rl_ [1, 1, 1, 20]) HT_ ?_
   refine p1_ 6 (rl_ [1, 1, 1, 3, 1, 16]) HT_ ?_
   refine p1_ 7 (rl_ [1, 1, 1, 3, 2, 15]) HT_ ?_
   refine p1_ 9 (rl_ [1, 1, 1, 3, 2, 1, 1, 13]) HT_ ?_
   refine p1_ 10 (rl_ [1, 1, 1, 3, 2, 1, 2, 12]) HT_ ?_
   refine p1_ 13 (rl_ [1, 1, 1, 3, 2, 1, 2, 2, 1, 9]) HT_ ?_
   refine p1_ 15 (rl_ [1, 1, 1, 3, 2, 1, 2, 2, 1, 1, 1, 7]) HT_ ?_
   refine p1_ 16 (rl_ [1, 1, 1, 3, 2, 1, 2, 2, 1, 1, 2, 6]) HT_ ?_
   refine t1_ 1 (rl_ [3, 3, 2, 1, 2, 2, 1, 1, 2, 6]) HT_ HW_ hHeld ?_
   refine p1_ 3 (rl_ [4, 2, 2, 1, 2, 2, 1, 1, 2, 6]) HT_ ?_
   refine p1_ 4 (rl_ [5, 1, 2, 1, 2, 2, 1, 1, 2, 6]) HT_ ?_
   refine t1_ 5 (rl_ [8, 1, 2, 2, 1, 1, 2, 6]) HT_ HW_ hHeld ?_
   refine t1_ 8 (rl_ [11, 2, 1, 1, 2, 6]) HT_ HW_ hHeld ?_
   refine t1_ 11 (rl_ [12, 1, 1, 1, 2, 6]) HT_ HW_ hHeld ?_
   refine o1_ 12 (rl_ [14, 1, 2, 6]) HT_ fun K hK => ?_; refine gs_ Try.func37 #[.int .i64 Ap, .int .i64 Aq] ?_
   with_reducible refine (spec_l5Nonce.calls k Ap Aq Bs _ Dd.out).mono ?_
   rintro e Dp ⟨Di, rfl, Bh, hb⟩; refine ⟨_, rfl, ?_⟩; replace Ac := rv_ Ac hb; have Aw := A_ (Kd.R_lower Bh (below_size below_a)); replace Aa := bw_ Ai hb; replace Ab := bw_ Af hb; replace Ae := bw_ An hb; replace HB := bs_ hb; (try clear hb Bh); refine k1_ hK (by2_ Aa.out (by5_ Ae.out ⟨((HB.out.cell (World.block_lt_of_cell? w _ Ah)).trans Ah), ((HB.out.cell (World.block_lt_of_cell? w _ Ag)).trans Ag)⟩)) (fun hHeld => ?_); clear hK K; refine o1_ 14 (rl_ [17, 6]) HT_ fun K hK => ?_; refine gs_ Try.func38 #[.pointer (some (⟨An, 1, none⟩))] ?_
   with_reducible refine (spec_l5HeadOf.calls k _ Av Ap Aq A5 A6 Az Bt _ ?_ ?_ ?_ ?_ ?_ ?_ De.out).mono ?_
   exact cr_ Ac; exact cl_ Ac; exact (blk_cell (cs := #[.int .i64 Ax, .int .i64 Av, .int .i64 Ap, .int .i64 Aq, .slice A5 Az.length A6]) (t := 30) blk_a 1).trans rfl; exact (blk_cell (cs := #[.int .i64 Ax, .int .i64 Av, .int .i64 Ap, .int .i64 Aq, .slice A5 Az.length A6]) (t := 30) blk_a 2).trans rfl; exact (blk_cell (cs := #[.int .i64 Ax, .int .i64 Av, .int .i64 Ap, .int .i64 Aq, .slice A5 Az.length A6]) (t := 30) blk_a 3).trans rfl; exact (blk_cell (cs := #[.int .i64 Ax, .int .i64 Av, .int .i64 Ap, .int .i64 Aq, .slice A5 Az.length A6]) (t := 30) blk_a 4).trans rfl; rintro e Dq ⟨Dj, rfl, Bh, hb⟩; refine ⟨_, rfl, ?_⟩; replace Ac := rv_ Ac hb; replace Aw := rv_ Aw hb; have A9 := A_ (Kd.R_lower Bh (below_size below_a)); replace Aa := bw_ Ai hb; replace Ab := bw_ Af hb; replace Ae := bw_ An hb; replace HB := bs_ hb; (try clear hb Bh); obtain ⟨Co, Cp, Ci⟩ := Kd.R_slice Aw.out; (first | subst Ci | (injection Ci with f1_ f2_ f3_; have f4_ := f1_.symm; have f5_ := f3_.symm; clear f1_ f2_ f3_; subst f4_; subst f5_)); obtain ⟨Cq, Cr, Cj⟩ := Kd.R_slice A9.out; (first | subst Cj | (injection Cj with f1_ f2_ f3_; have f4_ := f1_.symm; have f5_ := f3_.symm; clear f1_ f2_ f3_; subst f4_; subst f5_)); refine k1_ hK (by2_ Aa.out (by5_ Ae.out ⟨((HB.out.cell (World.block_lt_of_cell? w _ Ah)).trans Ah), ((HB.out.cell (World.block_lt_of_cell? w _ Ag)).trans Ag)⟩)) (fun hHeld => ?_); clear hK K; refine o1_ 17 (rl_ [18, 5]) HT_ fun K hK => ?_; refine goes_ Try.func36 (by kernel_rfl) rfl #[.slice Bi ((rd_T59 Aj Ar).f1).length Bj, .slice Co Bs.length Cp, .slice Cq Bt.length Cr, .slice Dh (l1.drop 11).length (c1 - 11)] (by rfl) rfl rfl (by (try simp only [List.map_toArray, List.map_cons, List.map_nil]); first | done | (rw [show (l1.drop 11).length = (l1.length - 11) from List.length_drop] <;> rfl) | rfl | (simp only [List.length_drop, List.length_take]; rfl)) ?_
   with_reducible refine (spec_l3Open.calls k _ _ ((rd_T59 Aj Ar).f1) _ _ Bs _ _ Bt _ _ (l1.drop 11) Ce Cf _ ?_ ?_ ?_ ?_ ?_ ?_ ?_ ?_ Df.out).mono ?_
   exact ca_ (Kd.C_below Be.out HB.out); exact Bk.out; exact cr_ Aw; exact cl_ Aw; exact cr_ A9; exact cl_ A9; exact ca_ (Kd.C_below Bp.out HB.out); exact Ch.out; rintro e Dr ⟨Dk, rfl, Bh, hb⟩; refine ⟨_, rfl, ?_⟩; replace Ac := rv_ Ac hb; replace Aw := rv_ Aw hb; replace A9 := rv_ A9 hb; have Bq := A_ (Kd.R_lower Bh (below_size below_a)); replace Aa := bw_ Ai hb; replace Ab := bw_ Af hb; replace Ae := bw_ An hb; replace HB := bs_ hb; (try clear hb Bh); refine k1_ hK (by2_ Aa.out (by5_ Ae.out ⟨((HB.out.cell (World.block_lt_of_cell? w _ Ah)).trans Ah), ((HB.out.cell (World.block_lt_of_cell? w _ Ag)).trans Ag)⟩)) (fun hHeld => ?_); clear hK K; refine p1_ 18 (rl_ [19, 4]) HT_ ?_
   refine p1_ 19 (rl_ [20, 3]) HT_ ?_
   refine p1_ 20 (rl_ [21, 2]) HT_ ?_
   refine p1_ 21 (rl_ [22, 1]) HT_ ?_
   refine p1_ 22 (rl_ [23]) HT_ ?_
   refine done_ (done_of HT_.out (by kernel_rfl)) ?_
   go_upto_if 55 with (fail)
   have H := Cg.out; clear Cg
   by_cases Ck : Cf = true
   ·
    subst Ck; rw [if_pos rfl] at H; obtain ⟨rfl, rfl, rfl, rfl, rfl⟩ := s5_ H; obtain ⟨Cs, Ct, rfl⟩ := Kd.R_slice Bq.out; have := nn_ Al; have := nn_ Am; have := bc5_ Ae.out; have := nn_ Ad; have := bc5_ Ab.out
    go_wp2
    refine bodyPost_ret (v := .agg #[.int .i64 Ax, .int .i64 Av, .int .i64 Ap, .int .i64 Aq, .slice Cs Ce.length Ct]) ?_ rfl ?_; exact rc_ Af Try.underlying30; exact ⟨_, eq_a, rp_ Bq, below_a⟩
   replace Ck := Bool.eq_false_iff.mpr Ck; subst Ck; rw [if_neg ff_] at H; obtain ⟨rfl, rfl, rfl, rfl, rfl⟩ := s5_ H; have := nn_ Ad; have := nn_ Ao; have := bc5_ Ab.out
   go_wp2
   refine bodyPost_ret (v := .agg #[.int .i64 9, .int .i64 0, .int .i64 0, .int .i64 0, .slice none 0 0]) ?_ rfl ?_; exact rc_ Af Try.underlying30; exact ⟨_, eq_a, by first | exact Kd.R_nil _ _ _ _ _ | exact Kd.N_nil _ _ _ _ _ | exact Kd.V_nil _ _ _ _ _ | exact Kd.Q_nil _ _ _ _ _ | exact Kd.S_nil _ _ _ _ _, below_a⟩
  rw [if_neg Cb] at H; obtain ⟨A7, Cc⟩ := nb_ Cb; (first | rw [A7] | (simp only [i64_w, i32_w]; rw [A7]) | skip); obtain ⟨rfl, rfl, rfl, rfl, rfl⟩ := s5_ H; have := nn_ Al; have := nn_ Am; have := bc5_ Ae.out; have := nn_ Ad; have := bc5_ Ab.out
  go_wp2
  refine bodyPost_ret (results_cell_row rfl _ _ Af 30 #[.int .i64 Ax, .int .i64 Av, .int .i64 Ap, .int .i64 Aq, .slice A5 Az.length A6] (0, 0) _ rfl (by (with_reducible repeat (first | refine blk_drewN ?_ _ | refine blk_drew ?_ | refine blk_alloc ?_ _)); refine bp5_ (cs := #[.int .i64 0, .int .i64 0, .int .i64 0, .int .i64 0, .slice none 0 0]) ?_ rfl; (iterate 5 ((with_reducible repeat (first | refine blk_drewN ?_ _ | refine blk_drew ?_ | refine blk_alloc ?_ _)); refine blk_far ?_ Ao.out _)); exact bl_ Ab.out) Try.underlying30 rfl (by kernel_rfl)) rfl ?_; exact ⟨_, eq_a, rp_ Ac, below_a⟩
 rw [if_neg Bz] at H; obtain ⟨A4, B0⟩ := nb_ Bz; (first | rw [A4] | (simp only [i64_w, i32_w]; rw [A4]) | skip); obtain ⟨rfl, rfl, rfl, rfl, rfl⟩ := s5_ H; have := nn_ Ad; have := bc5_ Ab.out
 go_wp2
 refine bodyPost_ret (v := .agg #[.int .i64 Br, .int .i64 0, .int .i64 0, .int .i64 0, .slice none 0 0]) ?_ rfl ?_; exact rc_ Af Try.underlying30; exact ⟨_, eq_a, by first | exact Kd.R_nil _ _ _ _ _ | exact Kd.N_nil _ _ _ _ _ | exact Kd.V_nil _ _ _ _ _ | exact Kd.Q_nil _ _ _ _ _ | exact Kd.S_nil _ _ _ _ _, below_a⟩
def impl_in.f (a0 : Int) (a1 : Int) (a2 : Int) : Option (Bool) := if a0 ≥ a1 then (some (decide (a0 ≤ a2))) else (some false)
theorem impl_in.calls (a0 : Int) (a1 : Int) (a2 : Int) (r : Bool) (w : World) (h : impl_in.f a0 a1 a2 = some r) :
  Calls Try.prog 68 #[.int .i64 a0, .int .i64 a1, .int .i64 a2] w fun e w' => e = .returned (.bool r) ∧ Drawn0 w w' := by
 unfold impl_in.f at h; have H := h; clear h
 by_cases c4 : a0 ≥ a1
 ·
  rw [if_pos c4] at H; have Aa : decide (a1 ≤ a0) = true := decide_eq_true c4; clear c4; obtain rfl := Option.some.inj H
  go_enter Try.func68, Try.ntmps68
  go_wp2
  go_ret
  exact ⟨eq_b, by repeat (first | exact Drawn0.refl _ | apply Drawn0.step)⟩
 rw [if_neg c4] at H; have Aa : decide (a1 ≤ a0) = false := decide_eq_false c4; clear c4; obtain rfl := Option.some.inj H
 go_enter Try.func68, Try.ntmps68
 go_wp2
 go_ret
 exact ⟨eq_b, by repeat (first | exact Drawn0.refl _ | apply Drawn0.step)⟩
def impl_isKeyId.f (a0 : Int) : Option (Bool) := (impl_in.f a0 1 255).bind fun t304 => (some t304)
theorem impl_isKeyId.calls (a0 : Int) (r : Bool) (w : World) (h : impl_isKeyId.f a0 = some r) :
  Calls Try.prog 67 #[.int .i64 a0] w fun e w' => e = .returned (.bool r) ∧ Drawn0 w w' := by
 unfold impl_isKeyId.f at h; have H := h; clear h
 obtain ⟨Aa, Ab, H⟩ := bi_ H
 replace H : (some Aa) = some r := H
 have A2 := A_ Ab
 clear Ab
 obtain rfl := Option.some.inj H
 go_enter Try.func67, Try.ntmps67
 go_wp2_with (first | ((with_reducible refine f1_ 68 ?_); refine gl_ (some 4) Try.func68 #[.int .i64 a0, .int .i64 1, .int .i64 255] ?_; (with_reducible refine (impl_in.calls a0 1 255 Aa _ A2.out).mono ?_); rintro e w' ⟨rfl, ⟨nd, rfl⟩⟩; refine ⟨_, rfl, ?_⟩))
 go_ret
 exact ⟨eq_b, by repeat (first | exact Drawn0.refl _ | apply Drawn0.step)⟩
def impl_LetterFault.j0 : Nat → Bool → Int → Int → Int → List Int → Option (Int)
 | 0, _, _, _, _, _ => none
 | k + 1, x3, x306000, x306001, x306002, x306003 => if x3 = true then (some 3) else (if (x306003.length : Int) > 300 then (some 2) else (some 0))
def impl_LetterFault.f (k : Nat) (Aa : Int) (Ab : Int) (Ac : Int) (Ad : List Int) : Option (Int) := (impl_isKeyId.f Aa).bind fun Ae => (if Ae = true then ((impl_in.f Ab 0 15).bind fun Af => (if Af = true then ((impl_in.f Ac 0 1000000000).bind fun Ag => (impl_LetterFault.j0 k (!Ag) Aa Ab Ac Ad)) else (impl_LetterFault.j0 k true Aa Ab Ac Ad))) else (impl_LetterFault.j0 k true Aa Ab Ac Ad))
theorem impl_LetterFault.calls (k : Nat) (Aa : Int) (Ad : Int) (Ae : Int) (Af : Option Addr) (Ag : Nat) (Ab : List Int) (r : Int) (w : World) (Ai : Kd.C (Kd.int .u8) w Af Ab.length Ab) (Aj : Ab.length ≤ Ag) (h : impl_LetterFault.f k Aa Ad Ae Ab = some r) :
  Calls Try.prog 26 #[.agg #[.int .i64 Aa, .int .i64 Ad, .int .i64 Ae, .slice Af Ab.length Ag]] w fun e w' => e = .returned (.int .i64 r) ∧ Below w.heap.size w w' := by
 have hu28 := Try.underlying28
 have Au := A_ Ai
 have Av := A_ Aj
 clear Ai Aj
 have HB := A_ (Below.refl w.heap.size w)
 unfold impl_LetterFault.f at h; have H := h; clear h
 have Aq := A_ H
 clear H
 go_enter Try.func26, Try.ntmps26
 go_upto_region 1 with (first | ((with_reducible refine d1_ 1 ?_); refine by_ 1 (#[.int .i64 Aa, .int .i64 Ad, .int .i64 Ae, .slice Af Ab.length Ag]) 28 ?_; intro Al hg w3 hbox hb; have Ac := A_ (hbox); have Aw := gw_ (w := w) hg; replace HB := bs_ hb; clear hb hbox hg))
 (try simp only [P4_])
 go_cut [3] (fun v3 wc => ∃ (kq : Nat) (Ah : Bool), v3 = .bool Ah ∧ Aside0 (impl_LetterFault.j0 kq Ah Aa Ad Ae Ab = some r) ∧ Aside0 (kq ≤ k) ∧ Aside0 (wc.heap[Al]? = some (.cells #[.int .i64 Aa, .int .i64 Ad, .int .i64 Ae, (.slice Af Ab.length Ag)] 28 (0, 0))) ∧ Aside0 (Below w.heap.size w wc))
 case first =>
  have H := Aq.out; clear Aq; obtain ⟨Ar, A4, H⟩ := bj_ H; (try dsimp only at H)
  by_cases c5 : Ar = true
  ·
   subst c5; rw [if_pos rfl] at H; obtain ⟨As, A6, H⟩ := bj_ H; (try dsimp only at H)
   by_cases c7 : As = true
   ·
    subst c7; rw [if_pos rfl] at H; obtain ⟨Am, A8, H⟩ := bj_ H; (try dsimp only at H); have H' := A_ H; clear H; obtain ⟨hcz9_0, hcz9_1, hcz9_2, hcz9_3, hfz9_0, hfz9_1, hfz9_2, hfz9_3⟩ := bc4_ Ac.out
    go_wp2_with (first | ((with_reducible refine f1_ 67 ?_); refine gl_ (some 6) Try.func67 #[.int .i64 Aa] ?_; (with_reducible refine (impl_isKeyId.calls Aa true _ A4.out).mono ?_); rintro e w' ⟨rfl, ⟨nd, rfl⟩⟩; refine ⟨_, rfl, ?_⟩) | (go_at_call 68; (with_reducible refine (impl_in.calls Ad 0 15 true _ A6.out).mono ?_); rintro e w' ⟨rfl, ⟨nd, rfl⟩⟩) | (go_at_call 68; (with_reducible refine (impl_in.calls Ae 0 1000000000 Am _ A8.out).mono ?_); rintro e w' ⟨rfl, ⟨nd, rfl⟩⟩))
    go_meet
    case rel => exact ⟨_, (!Am), eq_b, H', ⟨by first | omega | exact Nat.le_refl _⟩, ⟨blk_a⟩, ⟨below_a⟩⟩
   replace c7 := Bool.eq_false_iff.mpr c7; subst c7; rw [if_neg ff_] at H; have H' := A_ H; clear H; obtain ⟨hcz10_0, hcz10_1, hcz10_2, hcz10_3, hfz10_0, hfz10_1, hfz10_2, hfz10_3⟩ := bc4_ Ac.out
   go_wp2_with (first | ((with_reducible refine f1_ 67 ?_); refine gl_ (some 6) Try.func67 #[.int .i64 Aa] ?_; (with_reducible refine (impl_isKeyId.calls Aa true _ A4.out).mono ?_); rintro e w' ⟨rfl, ⟨nd, rfl⟩⟩; refine ⟨_, rfl, ?_⟩) | (go_at_call 68; (with_reducible refine (impl_in.calls Ad 0 15 false _ A6.out).mono ?_); rintro e w' ⟨rfl, ⟨nd, rfl⟩⟩))
   go_meet
   case rel => exact ⟨_, (true), eq_b, H', ⟨by first | omega | exact Nat.le_refl _⟩, ⟨blk_a⟩, ⟨below_a⟩⟩
  replace c5 := Bool.eq_false_iff.mpr c5; subst c5; rw [if_neg ff_] at H; have H' := A_ H; clear H; obtain ⟨hcz11_0, hcz11_1, hcz11_2, hcz11_3, hfz11_0, hfz11_1, hfz11_2, hfz11_3⟩ := bc4_ Ac.out
  go_wp2_with (first | ((with_reducible refine f1_ 67 ?_); refine gl_ (some 6) Try.func67 #[.int .i64 Aa] ?_; (with_reducible refine (impl_isKeyId.calls Aa false _ A4.out).mono ?_); rintro e w' ⟨rfl, ⟨nd, rfl⟩⟩; refine ⟨_, rfl, ?_⟩))
  go_meet
  case rel => exact ⟨_, (true), eq_b, H', ⟨by first | omega | exact Nat.le_refl _⟩, ⟨blk_a⟩, ⟨below_a⟩⟩
 case rest =>
  clear Aq
  try clear c2
  try clear p2
  try clear c5
  try clear c6
  try clear c7
  try clear hcz10_0 hcz10_1 hcz10_2 hcz10_3
  try clear hcz11_0 hcz11_1 hcz11_2 hcz11_3
  try clear hcz9_0 hcz9_1 hcz9_2 hcz9_3
  try clear hfz10_0 hfz10_1 hfz10_2 hfz10_3
  try clear hfz11_0 hfz11_1 hfz11_2 hfz11_3
  try clear hfz9_0 hfz9_1 hfz9_2 hfz9_3
  obtain ⟨kq, Ah, rfl, HA, HJ1, Ac, HB⟩ := hcut
  cases kq with
  | zero => exact absurd HA.out (by simp [impl_LetterFault.j0])
  | succ Ax =>
   have H := HA.out; clear HA; simp only [impl_LetterFault.j0] at H
   by_cases Ap : Ah = true
   ·
    subst Ap; rw [if_pos rfl] at H; obtain rfl := Option.some.inj H
    go_wp2
    go_ret
    exact ⟨eq_a, below_a⟩
   replace Ap := Bool.eq_false_iff.mpr Ap; subst Ap; rw [if_neg ff_] at H
   by_cases Ak : (Ab.length : Int) > 300
   ·
    rw [if_pos Ak] at H; have An := dt_ Ak; have Ao : decide (300 < Ab.length) = true := decide_eq_true (by omega); clear Ak; obtain rfl := Option.some.inj H; have := bc4_ Ac.out
    go_wp2
    go_ret
    exact ⟨eq_a, below_a⟩
   rw [if_neg Ak] at H; have An := df_ Ak; have Ao : decide (300 < Ab.length) = false := decide_eq_false (by omega); clear Ak; obtain rfl := Option.some.inj H; have := bc4_ Ac.out
   go_wp2
   go_ret
   exact ⟨eq_a, below_a⟩
def impl_noInt.f (a0 : Int) : Option (Int × Int) := some (a0, 0)
theorem impl_noInt.calls (a0 : Int) (r1 : Int) (r2 : Int) (w : World) (h : impl_noInt.f a0 = some (r1, r2)) :
  Calls Try.prog 93 #[.int .i64 a0] w fun e w' => e = .returned (.agg #[.int .i64 r1, .int .i64 r2]) ∧ Below w.heap.size w w' := by
 have hu90 := Try.underlying90
 have HB := A_ (Below.refl w.heap.size w)
 unfold impl_noInt.f at h; have H := h; clear h
 simp only [Option.some.injEq, Prod.mk.injEq] at H
 obtain ⟨rfl, rfl⟩ := H
 go_enter Try.func93, Try.ntmps93
 go_wp2_with (first | ((with_reducible refine d1_ 2 ?_); refine by_ 2 (#[.int .i64 0, .int .i64 0]) 90 ?_; intro Aa hg w2 hbox hb; have Ab := A_ (hbox); have Ac := gw_ (w := w) hg; replace HB := bs_ hb; clear hb hbox hg; have := bc2_ Ab.out))
 refine bodyPost_ret (results_cell_row rfl _ _ Aa 90 #[.int .i64 a0, .int .i64 0] (0, 0) _ rfl blk_a Try.underlying90 rfl (by kernel_rfl)) rfl ?_
 exact ⟨eq_a, below_a⟩
mutual
def impl_ReadWord.j0 : Nat → List Int → Int → Int → Bool → Option (Int × Int)
 | 0, _, _, _, _ => none
 | k + 1, x0, x1, x2, Ab => if Ab = true then ((impl_noInt.f 3).bind fun Aa => (some (Aa.1, Aa.2))) else (if 0 ≤ x1 then (if x1 ≤ (wrap64 (x1 + x2)) then (if (wrap64 (x1 + x2)) ≤ (x0.length : Int) then (impl_ReadWord.l0 k 0 ((x0.take ((wrap64 (x1 + x2)) : Int).toNat).drop (x1 : Int).toNat) (((x0.take ((wrap64 (x1 + x2)) : Int).toNat).drop (x1 : Int).toNat).length : Int) 0) else (none)) else (none)) else (none))
def impl_ReadWord.l0 : Nat → Int → List Int → Int → Int → Option (Int × Int)
 | 0, _, _, _, _ => none
 | k + 1, x7, Ac, Ad, Ab => if Ab < Ad then (if 0 ≤ Ab then (if Ab < (Ac.length : Int) then (impl_ReadWord.l0 k (Go.bits .or .u64 (IntKind.u64.wrap (x7 * 256)) (IntKind.u64.wrap (rd Ac Ab))) Ac Ad (wrap64 (Ab + 1))) else (none)) else (none)) else (if x7 > 9223372036854775807 then ((impl_noInt.f 1).bind fun Aa => (some (Aa.1, Aa.2))) else (some (0, wrap64 (x7))))
end
def impl_ReadWord.f (k : Nat) (l0 : List Int) (a1 : Int) (a2 : Int) : Option (Int × Int) := (impl_in.f a2 1 8).bind fun Aa => (if Aa = true then (if a1 < 0 then (impl_ReadWord.j0 k l0 a1 a2 true) else (if a1 > (l0.length : Int) then (impl_ReadWord.j0 k l0 a1 a2 true) else (impl_ReadWord.j0 k l0 a1 a2 (decide ((wrap64 ((l0.length : Int) - a1)) < a2))))) else (impl_ReadWord.j0 k l0 a1 a2 true))
theorem impl_ReadWord.calls (k : Nat) (A0 : Option Addr) (c0 : Nat) (l0 : List Int) (a1 : Int) (a2 : Int) (r1 : Int) (r2 : Int) (w : World) (Bg : Kd.C (Kd.int .u8) w A0 l0.length l0) (Bh : l0.length ≤ c0) (h : impl_ReadWord.f k l0 a1 a2 = some (r1, r2)) :
  Calls Try.prog 62 #[.slice A0 l0.length c0, .int .i64 a1, .int .i64 a2] w fun e w' => e = .returned (.agg #[.int .i64 r1, .int .i64 r2]) ∧ Below w.heap.size w w' := by
 have hu90 := Try.underlying90
 have Bs := A_ Bg
 have Bt := A_ Bh
 clear Bg Bh
 have HB := A_ (Below.refl w.heap.size w)
 unfold impl_ReadWord.f at h; have H := h; clear h
 have Bb := A_ H
 clear H
 go_enter Try.func62, Try.ntmps62
 go_upto_region 1 with (first | ((with_reducible refine d1_ 6 ?_); (try (refine gate_guard (by rfl) ?_; dsimp only)); refine by_ 6 (#[.int .i64 0, .int .i64 0]) 90 ?_; intro Ac hg w5 hbox hb; have Ad := A_ (hbox); have Bi := gw_ (w := w) hg; replace HB := bs_ hb; clear hb hbox hg))
 (try simp only [P4_])
 go_cut [30] (fun Bu wc => ∃ (kq : Nat) (Ae : Bool), Bu = .bool Ae ∧ Aside0 (impl_ReadWord.j0 kq l0 a1 a2 Ae = some (r1, r2)) ∧ Aside0 (kq ≤ k) ∧ Aside0 (wc.heap[Ac]? = some (.cells #[.int .i64 0, .int .i64 0] 90 (0, 0))) ∧ Aside0 (Below w.heap.size w wc))
 case first =>
  have H := Bb.out; clear Bb; obtain ⟨Bc, A6, H⟩ := bj_ H; (try dsimp only at H)
  by_cases c7 : Bc = true
  ·
   subst c7; rw [if_pos rfl] at H
   by_cases c8 : a1 < 0
   ·
    rw [if_pos c8] at H; have Aj := decide_eq_true c8; clear c8; have H' := A_ H; clear H
    go_wp2_with (first | ((with_reducible refine f1_ 68 ?_); refine gl_ (some 11) Try.func68 #[.int .i64 a2, .int .i64 1, .int .i64 8] ?_; (with_reducible refine (impl_in.calls a2 1 8 true _ A6.out).mono ?_); rintro e w' ⟨rfl, ⟨nd, rfl⟩⟩; refine ⟨_, rfl, ?_⟩))
    go_meet
    case rel => exact ⟨_, (true), eq_b, H', ⟨by first | omega | exact Nat.le_refl _⟩, ⟨blk_a⟩, ⟨below_a⟩⟩
   rw [if_neg c8] at H; have Aj := decide_eq_false c8; clear c8
   by_cases c9 : a1 > (l0.length : Int)
   ·
    rw [if_pos c9] at H; have Ak := dt_ c9; clear c9; have H' := A_ H; clear H
    go_wp2_with (first | ((with_reducible refine f1_ 68 ?_); refine gl_ (some 11) Try.func68 #[.int .i64 a2, .int .i64 1, .int .i64 8] ?_; (with_reducible refine (impl_in.calls a2 1 8 true _ A6.out).mono ?_); rintro e w' ⟨rfl, ⟨nd, rfl⟩⟩; refine ⟨_, rfl, ?_⟩))
    go_meet
    case rel => exact ⟨_, (true), eq_b, H', ⟨by first | omega | exact Nat.le_refl _⟩, ⟨blk_a⟩, ⟨below_a⟩⟩
   rw [if_neg c9] at H; have Ak := df_ c9; clear c9; have H' := A_ H; clear H
   go_wp2_with (first | ((with_reducible refine f1_ 68 ?_); refine gl_ (some 11) Try.func68 #[.int .i64 a2, .int .i64 1, .int .i64 8] ?_; (with_reducible refine (impl_in.calls a2 1 8 true _ A6.out).mono ?_); rintro e w' ⟨rfl, ⟨nd, rfl⟩⟩; refine ⟨_, rfl, ?_⟩))
   go_meet
   case rel => exact ⟨_, (decide ((wrap64 ((l0.length : Int) - a1)) < a2)), eq_b, H', ⟨by first | omega | exact Nat.le_refl _⟩, ⟨blk_a⟩, ⟨below_a⟩⟩
  replace c7 := Bool.eq_false_iff.mpr c7; subst c7; rw [if_neg ff_] at H; have H' := A_ H; clear H
  go_wp2_with (first | ((with_reducible refine f1_ 68 ?_); refine gl_ (some 11) Try.func68 #[.int .i64 a2, .int .i64 1, .int .i64 8] ?_; (with_reducible refine (impl_in.calls a2 1 8 false _ A6.out).mono ?_); rintro e w' ⟨rfl, ⟨nd, rfl⟩⟩; refine ⟨_, rfl, ?_⟩))
  go_meet
  case rel => exact ⟨_, (true), eq_b, H', ⟨by first | omega | exact Nat.le_refl _⟩, ⟨blk_a⟩, ⟨below_a⟩⟩
 case rest =>
  clear Bb
  try clear p2
  try clear c6
  try clear p6
  try clear c7
  try clear c8 Aj
  try clear c9 Ak
  obtain ⟨kq, Ae, rfl, HA, HJ3, Ad, HB⟩ := hcut
  cases kq with
  | zero => exact absurd HA.out (by simp [impl_ReadWord.j0])
  | succ Bj =>
   have H := HA.out; clear HA; simp only [impl_ReadWord.j0] at H
   by_cases Ao : Ae = true
   ·
    subst Ao; rw [if_pos rfl] at H; obtain ⟨⟨Ap, Aq⟩, Bv, H⟩ := bj_ H; (try dsimp only at H); obtain ⟨rfl, rfl⟩ := s2_ H
    go_wp2_with (first | ((with_reducible refine f1_ 93 ?_); refine gl_ (some 31) Try.func93 #[.int .i64 3] ?_; (with_reducible refine (impl_noInt.calls 3 Ap Aq _ Bv.out).mono ?_); rintro e B0 ⟨rfl, hb⟩; refine ⟨_, rfl, ?_⟩; replace Ad := bw_ Ac hb; replace HB := bs_ hb; (try clear hb); obtain ⟨hcz13_0, hcz13_1, hfz13_0, hfz13_1⟩ := bc2_ Ad.out))
    refine bodyPost_ret (v := .agg #[.int .i64 Ap, .int .i64 Aq]) ?_ rfl ?_; exact rc_ Ac Try.underlying90; exact ⟨eq_a, below_a⟩
   replace Ao := Bool.eq_false_iff.mpr Ao; subst Ao; rw [if_neg ff_] at H
   obtain ⟨Ba, H⟩ := iq_ H; have Ar := eq_true Ba; have As : decide (0 ≤ a1) = true := decide_eq_true Ba; clear Ba
   obtain ⟨Bd, H⟩ := iq_ H; have Au := eq_true Bd; have Av : decide (a1 ≤ (wrap64 (a1 + a2))) = true := decide_eq_true Bd
   obtain ⟨Be, H⟩ := iq_ H; have Aw := eq_true Be; have Ax : decide ((wrap64 (a1 + a2)) ≤ (l0.length : Int)) = true := decide_eq_true Be; have H' := A_ H; clear H; obtain ⟨Bw, Ai, _, hsz17, _⟩ := info_parts info5; obtain ⟨B3, hcut17, hA17, hC17⟩ := print_mid_of (P := Try.prog) (Value.int .u8) 0 25 5 .i64 .i64 Try.underlying25 Ai hsz17 A0 c0 l0 a1 (wrap64 (a1 + a2)) od_ (by first | omega | exact od_) od_ Bt.out; have Ay := A_ (Kd.C_of_reads (h1 := fun _ => rfl) (hA17 _ (Kd.reads_of_C Bs.out))); have Bk := A_ hC17; clear hA17 hC17 Ai hsz17; have Ab := A_ (show ((l0.take ((wrap64 (a1 + a2)) : Int).toNat).drop (a1 : Int).toNat).length = (wrap64 (a1 + a2)).toNat - a1.toNat from by have h_ : ((wrap64 (a1 + a2)) : Int) ≤ (l0.length : Int) := od_; rw [List.length_drop, List.length_take]; omega)
   go_wp2
   go_loopg [7, 39] Bj (fun kq v7 Bx w' => ∃ (Ag : Int) (Aa : Int), v7 = .int .u64 Ag ∧ Bx = .int .i64 Aa ∧ Aside0 (impl_ReadWord.l0 kq Ag ((l0.take ((wrap64 (a1 + a2)) : Int).toNat).drop (a1 : Int).toNat) (((l0.take ((wrap64 (a1 + a2)) : Int).toNat).drop (a1 : Int).toNat).length : Int) Aa = some (r1, r2)) ∧ Aside0 (kq ≤ Bj) ∧ Aside0 (w'.heap[Ac]? = some (.cells #[.int .i64 0, .int .i64 0] 90 (0, 0))) ∧ Aside0 (Below w.heap.size w w'))
   case atStart => exact ⟨(0), (0), eq_b, eq_b, H', ⟨Nat.le_refl _⟩, ⟨blk_a⟩, ⟨below_a⟩⟩
   case round =>
    clear H'
    try clear c1
    try clear p2 p2
    try clear c6
    try clear p6 p6
    try clear c7
    try clear c8 Aj
    try clear c9 Ak
    try clear Ao
    try clear Ba Ar As
    try clear Bd Au Av
    try clear Be Aw Ax
    try clear hcz13_0 hcz13_1
    try clear hfz13_0 hfz13_1
    obtain ⟨Ag, Aa, rfl, rfl, HA, HK2, Ad, HB⟩ := hrel
    cases gk with
    | zero => exact absurd HA.out (by simp [impl_ReadWord.l0])
    | succ k2 =>
     have H := HA.out; clear HA; simp only [impl_ReadWord.l0] at H
     by_cases Ah : Aa < (((l0.take ((wrap64 (a1 + a2)) : Int).toNat).drop (a1 : Int).toNat).length : Int)
     ·
      rw [if_pos Ah] at H; have Az := decide_eq_true Ah; (try (have A1 : decide (Aa < (((wrap64 (a1 + a2)).toNat - a1.toNat : Nat) : Int)) = true := by rw [← Ab.out]; exact decide_eq_true Ah)); (try (have A3 : (Aa < (((wrap64 (a1 + a2)).toNat - a1.toNat : Nat) : Int)) = True := by rw [← Ab.out]; exact eq_true (of_decide_eq_true (decide_eq_true Ah)))); (try (have A4 : decide (Aa < (((l0.take ((IntKind.i64.wrap (a1 + a2)) : Int).toNat).drop (a1 : Int).toNat).length : Int)) = true := by simp only [i64_w]; exact decide_eq_true Ah)); clear Ah
      obtain ⟨Bl, H⟩ := iq_ H; have Bm := decide_eq_true Bl; clear Bl
      obtain ⟨A5, H⟩ := iq_ H; have Bn := decide_eq_true A5; (try (have Bo : decide (Aa < (((wrap64 (a1 + a2)).toNat - a1.toNat : Nat) : Int)) = true := by rw [← Ab.out]; exact decide_eq_true A5)); (try (have Bp : (Aa < (((wrap64 (a1 + a2)).toNat - a1.toNat : Nat) : Int)) = True := by rw [← Ab.out]; exact eq_true (of_decide_eq_true (decide_eq_true A5)))); (try (have Bq : decide (Aa < (((l0.take ((IntKind.i64.wrap (a1 + a2)) : Int).toNat).drop (a1 : Int).toNat).length : Int)) = true := by simp only [i64_w]; exact decide_eq_true A5)); clear A5; have H' := A_ H; clear H; have Al : 0 ≤ (Aa : Int) := od_; have Am : Aa < (((l0.take ((wrap64 (a1 + a2)) : Int).toNat).drop (a1 : Int).toNat).length : Int) := od_; obtain ⟨Br, Bf, Af⟩ := Kd.at_int Ay.out Aa Al Am
      cases Bf
      replace Af := hc_ HB Af; replace Al := eq_true Al; replace Am := eq_true Am
      go_wp2
      go_roundg k2
      case measure => have := HJ3.out; have := HK2.out; omega
      case rel => exact ⟨(Go.bits .or .u64 (IntKind.u64.wrap (Ag * 256)) (IntKind.u64.wrap (rd ((l0.take ((wrap64 (a1 + a2)) : Int).toNat).drop (a1 : Int).toNat) Aa))), (wrap64 (Aa + 1)), eq_b, eq_b, H', ⟨by have := HJ3.out; have := HK2.out; omega⟩, ⟨blk_a⟩, ⟨below_a⟩⟩
     rw [if_neg Ah] at H; have Az := decide_eq_false Ah; (try (have A1 : decide (Aa < (((wrap64 (a1 + a2)).toNat - a1.toNat : Nat) : Int)) = false := by rw [← Ab.out]; exact decide_eq_false Ah)); (try (have A3 : (Aa < (((wrap64 (a1 + a2)).toNat - a1.toNat : Nat) : Int)) = False := by rw [← Ab.out]; exact eq_false (of_decide_eq_false (decide_eq_false Ah)))); (try (have A4 : decide (Aa < (((l0.take ((IntKind.i64.wrap (a1 + a2)) : Int).toNat).drop (a1 : Int).toNat).length : Int)) = false := by simp only [i64_w]; exact decide_eq_false Ah)); clear Ah
     by_cases An : Ag > 9223372036854775807
     ·
      rw [if_pos An] at H; have A7 := dt_ An; clear An; obtain ⟨⟨A8, A9⟩, Bz, H⟩ := bj_ H; (try dsimp only at H); obtain ⟨rfl, rfl⟩ := s2_ H
      go_wp2_with (first | ((with_reducible refine f1_ 93 ?_); refine gl_ (some 51) Try.func93 #[.int .i64 1] ?_; (with_reducible refine (impl_noInt.calls 1 A8 A9 _ Bz.out).mono ?_); rintro e B4 ⟨rfl, hb⟩; refine ⟨_, rfl, ?_⟩; replace Ad := bw_ Ac hb; replace HB := bs_ hb; (try clear hb); have := bc2_ Ad.out))
      refine bodyPost_ret (v := .agg #[.int .i64 A8, .int .i64 A9]) ?_ rfl ?_; exact rc_ Ac Try.underlying90; exact ⟨eq_a, below_a⟩
     rw [if_neg An] at H; have A7 := df_ An; clear An; obtain ⟨rfl, rfl⟩ := s2_ H; have := bc2_ Ad.out
     go_wp2
     try simp only [i64_w]
     refine bodyPost_ret (v := .agg #[.int .i64 0, .int .i64 (wrap64 (Ag))]) ?_ rfl ?_; exact rc_ Ac Try.underlying90; exact ⟨eq_a, below_a⟩
def impl_ReadHead.f (k : Nat) (l0 : List Int) : Option (Int × Int × Int × Int × List Int) := if (l0.length : Int) < 11 then (some (2, 0, 0, 0, ([] : List Int))) else (if 0 < (l0.length : Int) then (if (rd l0 0) = 1 then ((impl_ReadWord.f k l0 3 8).bind fun Aa => (if 1 < (l0.length : Int) then (if 2 < (l0.length : Int) then (if Aa.1 = 0 then ((impl_LetterFault.f k (wrap64 (rd l0 1)) (wrap64 (rd l0 2)) Aa.2 ([] : List Int)).bind fun Ab => (if Ab = 0 then (some (0, wrap64 (rd l0 1), wrap64 (rd l0 2), Aa.2, ([] : List Int))) else (some (3, 0, 0, 0, ([] : List Int))))) else (some (3, 0, 0, 0, ([] : List Int)))) else (none)) else (none))) else (some (1, 0, 0, 0, ([] : List Int)))) else (none))
def impl_ReadHead.T6 : Bool × List (List Nat × List Nat) := (true, [([], []), ([0], [0]), ([1], [1]), ([2], [2]), ([], []), ([4], [4]), ([5], [5]), ([6], [6]), ([], []), ([8], [8]), ([3, 7, 9], [3, 7, 9]), ([], []), ([11, 10, 0, 1, 2, 3, 4, 5, 6, 7, 8, 9, 10, 11], [10, 11])])
def impl_ReadHead.B6 : List Nat := [0, 1, 3, 7, 0, 16, 48, 112, 0, 256, 1023, 0, 4095]
theorem impl_ReadHead.tab6 : rtab .any (opsOf Try.f22 6) = impl_ReadHead.T6 := by kernel_rfl
theorem impl_ReadHead.bits6 : waitsOk impl_ReadHead.T6.2 impl_ReadHead.B6 = true := by kernel_rfl
theorem impl_ReadHead.calls (k : Nat) (A0 : Option Addr) (c0 : Nat) (l0 : List Int) (r1 : Int) (r2 : Int) (r3 : Int) (r4 : Int) (r5 : List Int) (w : World) (Bt : Kd.C (Kd.int .u8) w A0 l0.length l0) (Bu : l0.length ≤ c0) (h : impl_ReadHead.f k l0 = some (r1, r2, r3, r4, r5)) :
  Calls Try.prog 22 #[.slice A0 l0.length c0] w fun e w' => ∃ v4_ : Value, e = .returned (.agg #[.int .i64 r1, .int .i64 r2, .int .i64 r3, .int .i64 r4, v4_]) ∧ Kd.R (Kd.int .u8) 5 w' w.heap.size (fun _ => True) v4_ r5 ∧ Below w.heap.size w w' := by
 have hu30 := Try.underlying30
 have hu90 := Try.underlying90
 have hu28 := Try.underlying28
 have Ba := A_ Bt
 have Bv := A_ Bu
 clear Bt Bu
 have HB := A_ (Below.refl w.heap.size w)
 unfold impl_ReadHead.f at h; have H := h; clear h
 have Bw := A_ H
 clear H
 go_enter Try.func22, Try.ntmps22
 go_upto_if 5 with (first | ((with_reducible refine d1_ 2 ?_); refine by_ 2 (#[.int .i64 0, .int .i64 0, .int .i64 0, .int .i64 0, .slice none 0 0]) 30 ?_; intro Ak hg w3 hbox hb; have Ae := A_ (hbox); have Bx := gw_ (w := w) hg; replace HB := bs_ hb; clear hb hbox hg))
 (try simp only [P4_])
 have H := Bw.out
 clear Bw
 by_cases c4 : (l0.length : Int) < 11
 ·
  rw [if_pos c4] at H; have A5 := decide_eq_true c4; have Bo : decide (l0.length < 11) = true := decide_eq_true (by omega); clear c4; (first | rw [A5] | (simp only [i64_w, i32_w]; rw [A5]) | skip); obtain ⟨rfl, rfl, rfl, rfl, rfl⟩ := s5_ H; have := bc5_ Ae.out
  go_wp2
  refine bodyPost_ret (v := .agg #[.int .i64 2, .int .i64 0, .int .i64 0, .int .i64 0, .slice none 0 0]) ?_ rfl ?_; exact rc_ Ak Try.underlying30; exact ⟨_, eq_a, by first | exact Kd.R_nil _ _ _ _ _ | exact Kd.N_nil _ _ _ _ _ | exact Kd.V_nil _ _ _ _ _ | exact Kd.Q_nil _ _ _ _ _ | exact Kd.S_nil _ _ _ _ _, below_a⟩
 rw [if_neg c4] at H; have A5 := decide_eq_false c4; have Bo : decide (l0.length < 11) = false := decide_eq_false (by omega); clear c4; (first | rw [A5] | (simp only [i64_w, i32_w]; rw [A5]) | skip)
 obtain ⟨c6, H⟩ := iq_ H; have B4 := decide_eq_true c6; have Ca : decide (0 < l0.length) = true := decide_eq_true (by omega); clear c6
 by_cases c7 : (rd l0 0) = 1
 ·
  rw [if_pos c7] at H; obtain ⟨Bp, Bq⟩ := be_ c7; clear c7; obtain ⟨⟨Ax, Ar⟩, A8, H⟩ := bj_ H; (try dsimp only at H)
  obtain ⟨c9, H⟩ := iq_ H; have Cb := decide_eq_true c9; have Cc : decide (1 < l0.length) = true := decide_eq_true (by omega); clear c9
  obtain ⟨Bz, H⟩ := iq_ H; have B0 := decide_eq_true Bz; have B3 : decide (2 < l0.length) = true := decide_eq_true (by omega); clear Bz
  by_cases Be : Ax = 0
  ·
   rw [if_pos Be] at H; obtain ⟨Bf, Bg⟩ := be_ Be; clear Be; obtain ⟨Bh, Cd, H⟩ := bj_ H; (try dsimp only at H); have Bi := A_ H; clear H; have As : 0 ≤ (0 : Int) := (by omega); have Au : 0 < (l0.length : Int) := od_; obtain ⟨Al, A6, Ad⟩ := Kd.at_int Ba.out 0 As Au
   cases A6
   have Bb : (0 < l0.length) = True := eq_true (by omega); (try rw [show ((0 : Int)).toNat = 0 from rfl] at Ad); (try rw [Addr.add_zero'] at Ad); replace Ad := hc_ HB Ad; replace As := eq_true As; replace Au := eq_true Au
   try go_wp2_with (first | ((with_reducible refine f1_ 62 ?_); refine gl_ (some 17) Try.func62 #[.slice (some Al) l0.length c0, .int .i64 3, .int .i64 8] ?_; (with_reducible refine (impl_ReadWord.calls k _ _ l0 3 8 Ax Ar _ ?_ ?_ A8.out).mono ?_); exact ca_ (Kd.C_below Ba.out HB.out); exact Bv.out; rintro e Cg ⟨rfl, hb⟩; refine ⟨_, rfl, ?_⟩; replace Ae := bw_ Ak hb; replace HB := bs_ hb; (try clear hb)) | ((with_reducible refine d1_ 3 ?_); refine by_ 3 (#[.int .i64 0, .int .i64 0]) 90 ?_; intro Am hg Ce hbox hb; have Ai := A_ (hbox); have Bj := gw_ (w := w) hg; obtain ⟨Ao, Ap⟩ := bu_ Ak hg; replace Ae := bw_ Ak hb; replace HB := bs_ hb; clear hb hbox hg; have := nn_ Ap; have := bc2_ Ai.out))
   generalize hW_ : ((Ce.setCell ⟨Am, 0, none⟩ (.int .i64 Ax)).setCell ⟨Am, 1, none⟩ (.int .i64 Ar)) = Br at ⊢; have n0_ := gb_ hW_ Ae; have n1_ : Aside0 (Br.heap[Am]? = some (.cells #[.int .i64 Ax, .int .i64 Ar] 90 (0, 0))) := hW_ ▸ ⟨blk_a⟩; have n2_ : Aside0 (Below w.heap.size w Br) := hW_ ▸ ⟨below_a⟩; skip; clear hW_; have Ae := n0_; have Ai := n1_; have HB := n2_; clear n0_ n1_ n2_; replace Ae := bd_ Ae; replace Ai := bd_ Ai; replace HB := A_ (below_drew1 HB.out); have Az : 0 ≤ (1 : Int) := (by omega); have A1 : 1 < (l0.length : Int) := od_; obtain ⟨A7, Bc, Af⟩ := Kd.at_int Ba.out 1 Az A1; have Aa := Af; (try rw [show ((1 : Int)).toNat = 1 from rfl] at Aa); (try rw [show 1 * 1 = 1 from rfl] at Aa); (try simp only [Nat.reduceMul, Nat.reduceEqDiff, Go.Addr.add, ↓reduceIte] at Aa); obtain rfl : Al = A7 := (by injection Bc); (try simp only [show (1 : Int).toNat = 1 from rfl, Nat.reduceMul, Nat.reduceEqDiff, Go.Addr.add, ↓reduceIte] at Af); have Bk : (1 < l0.length) = True := eq_true (by omega); (try rw [show ((1 : Int)).toNat = 1 from rfl] at Af); replace Af := hc_ HB Af; replace Az := eq_true Az; replace A1 := eq_true A1; have A3 : 0 ≤ (2 : Int) := (by omega); have A4 : 2 < (l0.length : Int) := od_; obtain ⟨A9, Bd, Ag⟩ := Kd.at_int Ba.out 2 A3 A4; have Ab := Ag; (try rw [show ((2 : Int)).toNat = 2 from rfl] at Ab); (try rw [show 2 * 1 = 2 from rfl] at Ab); (try simp only [Nat.reduceMul, Nat.reduceEqDiff, Go.Addr.add, ↓reduceIte] at Ab); obtain rfl : Al = A9 := (by injection Bd); (try simp only [show (2 : Int).toNat = 2 from rfl, Nat.reduceMul, Nat.reduceEqDiff, Go.Addr.add, ↓reduceIte] at Ag); have Bl : (2 < l0.length) = True := eq_true (by omega); (try rw [show ((2 : Int)).toNat = 2 from rfl] at Ag); replace Ag := hc_ HB Ag; replace A3 := eq_true A3; replace A4 := eq_true A4; refine start_ (n := 13) (S := fun w' => w'.cell? ⟨Am, 0, none⟩ = some (.int .i64 Ax) ∧ w'.cell? ⟨Am, 1, none⟩ = some (.int .i64 Ar) ∧ w'.cell? ⟨Al.block, Al.off + 1, none⟩ = some (.int .u8 (rd l0 1)) ∧ w'.cell? ⟨Al.block, Al.off + 2, none⟩ = some (.int .u8 (rd l0 2))) (ds := []) (rl_ [0, 13]) (by kernel_rfl) rfl rfl (by2_ Ai.out ⟨((HB.out.cell (World.block_lt_of_cell? w _ Aa)).trans Aa), ((HB.out.cell (World.block_lt_of_cell? w _ Ab)).trans Ab)⟩) (fun hHeld => ?_); refine with_tabW impl_ReadHead.tab6 impl_ReadHead.bits6 (fun HT_ HW_ => ?_); generalize Br.drew = Ch at Ae Ai HB Af Ag hHeld ⊢; refine p1_ 0 (rl_ [1, 12]) HT_ ?_
   refine p1_ 1 (rl_ [2, 11]) HT_ ?_
   refine p1_ 4 (rl_ [2, 2, 1, 8]) HT_ ?_
   refine p1_ 5 (rl_ [2, 2, 2, 7]) HT_ ?_
   refine p1_ 8 (rl_ [2, 2, 2, 2, 1, 4]) HT_ ?_
   refine t1_ 2 (rl_ [3, 1, 2, 2, 1, 4]) HT_ HW_ hHeld ?_
   refine p1_ 3 (rl_ [6, 2, 1, 4]) HT_ ?_
   refine t1_ 6 (rl_ [7, 1, 1, 4]) HT_ HW_ hHeld ?_
   refine p1_ 7 (rl_ [9, 4]) HT_ ?_
   refine t1_ 9 (rl_ [10, 3]) HT_ HW_ hHeld ?_
   refine p1_ 10 (rl_ [11, 2]) HT_ ?_
   refine o1_ 11 (rl_ [12, 1]) HT_ fun K hK => ?_; refine b1_ 4 #[.int .i64 0, .int .i64 0, .int .i64 0, .slice none 0 0] 28 ?_; intro Aj hg Ci hbox hb; have Av := A_ (hbox); have Ac := gw_ (w := w) hg; obtain ⟨An, Aq⟩ := bu_ Ak hg; obtain ⟨Ah, Aw⟩ := bu_ Am hg; replace Ae := bw_ Ak hb; replace Ai := bw_ Am hb; replace HB := bs_ hb; clear hb hbox hg; refine k1_ hK (by2_ Ai.out ⟨((HB.out.cell (World.block_lt_of_cell? w _ Aa)).trans Aa), ((HB.out.cell (World.block_lt_of_cell? w _ Ab)).trans Ab)⟩) (fun hHeld => ?_); clear hK K; refine o1_ 12 (rl_ [13]) HT_ fun K hK => ?_; have := bc4_ Av.out; have := nn_ An; have := nn_ Ah; refine skip_ (w1 := ?_) (by rfl) rfl ?_ ?_; rotate_left
   ·
    go_simp
    rfl
   refine hK.out _ _ ⟨((far4_ Ah.out).trans (hHeld.1)), ((far4_ Ah.out).trans (hHeld.2.1)), ((cell_far (p := ⟨Aj, _, none⟩) (by first | exact nf_ Aa Ac.out | (rw [add_block]; exact nf_ Aa Ac.out) | (show (Addr.add _ _).block ≠ _; rw [add_block]; exact nf_ Aa Ac.out) | (dsimp only; exact nf_ Aa Ac.out)) _).trans (((cell_far (p := ⟨Aj, _, none⟩) (by first | exact nf_ Aa Ac.out | (rw [add_block]; exact nf_ Aa Ac.out) | (show (Addr.add _ _).block ≠ _; rw [add_block]; exact nf_ Aa Ac.out) | (dsimp only; exact nf_ Aa Ac.out)) _).trans (((cell_far (p := ⟨Aj, _, none⟩) (by first | exact nf_ Aa Ac.out | (rw [add_block]; exact nf_ Aa Ac.out) | (show (Addr.add _ _).block ≠ _; rw [add_block]; exact nf_ Aa Ac.out) | (dsimp only; exact nf_ Aa Ac.out)) _).trans (((cell_far (p := ⟨Aj, _, none⟩) (by first | exact nf_ Aa Ac.out | (rw [add_block]; exact nf_ Aa Ac.out) | (show (Addr.add _ _).block ≠ _; rw [add_block]; exact nf_ Aa Ac.out) | (dsimp only; exact nf_ Aa Ac.out)) _).trans (hHeld.2.2.1)))))))), ((cell_far (p := ⟨Aj, _, none⟩) (by first | exact nf_ Ab Ac.out | (rw [add_block]; exact nf_ Ab Ac.out) | (show (Addr.add _ _).block ≠ _; rw [add_block]; exact nf_ Ab Ac.out) | (dsimp only; exact nf_ Ab Ac.out)) _).trans (((cell_far (p := ⟨Aj, _, none⟩) (by first | exact nf_ Ab Ac.out | (rw [add_block]; exact nf_ Ab Ac.out) | (show (Addr.add _ _).block ≠ _; rw [add_block]; exact nf_ Ab Ac.out) | (dsimp only; exact nf_ Ab Ac.out)) _).trans (((cell_far (p := ⟨Aj, _, none⟩) (by first | exact nf_ Ab Ac.out | (rw [add_block]; exact nf_ Ab Ac.out) | (show (Addr.add _ _).block ≠ _; rw [add_block]; exact nf_ Ab Ac.out) | (dsimp only; exact nf_ Ab Ac.out)) _).trans (((cell_far (p := ⟨Aj, _, none⟩) (by first | exact nf_ Ab Ac.out | (rw [add_block]; exact nf_ Ab Ac.out) | (show (Addr.add _ _).block ≠ _; rw [add_block]; exact nf_ Ab Ac.out) | (dsimp only; exact nf_ Ab Ac.out)) _).trans (hHeld.2.2.2))))))))⟩ (fun hHeld => ?_); clear hK K; refine done_ (done_of HT_.out (by kernel_rfl)) ?_; have := nn_ Ah; have := bc2_ Ai.out; have := nn_ Aq; have := bc4_ Av.out
   go_upto_if 36 with (first | (go_at_call 26; (refine (impl_LetterFault.calls k (wrap64 (rd l0 1)) (wrap64 (rd l0 2)) Ar _ _ ([] : List Int) Bh _ ?_ ?_ Cd.out).mono ?_); exact Kd.C_nil _ _; exact Nat.le_refl _; rintro e Cj ⟨rfl, hb⟩; replace Av := A_ (blk_below (g := Aj) (o := .cells #[.int .i64 (wrap64 (rd l0 1)), .int .i64 (wrap64 (rd l0 2)), .int .i64 Ar, .slice none 0 0] 28 (0, 0)) bk_a hb); replace HB := bs_ hb; replace Ae := bw_ Ak hb; replace Ai := bw_ Am hb; (try clear hb)))
   (try simp only [P4_]); have H := Bi.out; clear Bi
   by_cases Bm : Bh = 0
   ·
    rw [if_pos Bm] at H; obtain ⟨Ay, Bn⟩ := be_ Bm; clear Bm; (first | rw [Ay] | (simp only [i64_w, i32_w]; rw [Ay]) | skip); obtain ⟨rfl, rfl, rfl, rfl, rfl⟩ := s5_ H; have := nn_ Aq; have := nn_ Aw; have := bc4_ Av.out; have := nn_ Ao; have := bc5_ Ae.out
    go_wp2
    try simp only [i64_w]
    refine bodyPost_ret (v := .agg #[.int .i64 0, .int .i64 (wrap64 (rd l0 1)), .int .i64 (wrap64 (rd l0 2)), .int .i64 Ar, .slice none 0 0]) ?_ rfl ?_; exact rc_ Ak Try.underlying30; exact ⟨_, eq_a, by first | exact Kd.R_nil _ _ _ _ _ | exact Kd.N_nil _ _ _ _ _ | exact Kd.V_nil _ _ _ _ _ | exact Kd.Q_nil _ _ _ _ _ | exact Kd.S_nil _ _ _ _ _, below_a⟩
   rw [if_neg Bm] at H; obtain ⟨Ay, Bn⟩ := nb_ Bm; (first | rw [Ay] | (simp only [i64_w, i32_w]; rw [Ay]) | skip); obtain ⟨rfl, rfl, rfl, rfl, rfl⟩ := s5_ H; have := nn_ Ao; have := nn_ An; have := bc5_ Ae.out
   go_wp2
   refine bodyPost_ret (v := .agg #[.int .i64 3, .int .i64 0, .int .i64 0, .int .i64 0, .slice none 0 0]) ?_ rfl ?_; exact rc_ Ak Try.underlying30; exact ⟨_, eq_a, by first | exact Kd.R_nil _ _ _ _ _ | exact Kd.N_nil _ _ _ _ _ | exact Kd.V_nil _ _ _ _ _ | exact Kd.Q_nil _ _ _ _ _ | exact Kd.S_nil _ _ _ _ _, below_a⟩
  rw [if_neg Be] at H; obtain ⟨Bf, Bg⟩ := nb_ Be; obtain ⟨rfl, rfl, rfl, rfl, rfl⟩ := s5_ H; have As : 0 ≤ (0 : Int) := (by omega); have Au : 0 < (l0.length : Int) := od_; obtain ⟨Al, A6, Ad⟩ := Kd.at_int Ba.out 0 As Au
  cases A6
  have Bb : (0 < l0.length) = True := eq_true (by omega); (try rw [show ((0 : Int)).toNat = 0 from rfl] at Ad); (try rw [Addr.add_zero'] at Ad); replace Ad := hc_ HB Ad; replace As := eq_true As; replace Au := eq_true Au
  try go_wp2_with (first | ((with_reducible refine f1_ 62 ?_); refine gl_ (some 17) Try.func62 #[.slice (some Al) l0.length c0, .int .i64 3, .int .i64 8] ?_; (with_reducible refine (impl_ReadWord.calls k _ _ l0 3 8 Ax Ar _ ?_ ?_ A8.out).mono ?_); exact ca_ (Kd.C_below Ba.out HB.out); exact Bv.out; rintro e Ck ⟨rfl, hb⟩; refine ⟨_, rfl, ?_⟩; replace Ae := bw_ Ak hb; replace HB := bs_ hb; (try clear hb)) | ((with_reducible refine d1_ 3 ?_); refine by_ 3 (#[.int .i64 0, .int .i64 0]) 90 ?_; intro Am hg Cf hbox hb; have Ai := A_ (hbox); have Bj := gw_ (w := w) hg; obtain ⟨Ao, Ap⟩ := bu_ Ak hg; replace Ae := bw_ Ak hb; replace HB := bs_ hb; clear hb hbox hg; have := nn_ Ap; have := bc2_ Ai.out))
  generalize hW_ : ((Cf.setCell ⟨Am, 0, none⟩ (.int .i64 Ax)).setCell ⟨Am, 1, none⟩ (.int .i64 Ar)) = Bs at ⊢; have n0_ := gb_ hW_ Ae; have n1_ : Aside0 (Bs.heap[Am]? = some (.cells #[.int .i64 Ax, .int .i64 Ar] 90 (0, 0))) := hW_ ▸ ⟨blk_a⟩; have n2_ : Aside0 (Below w.heap.size w Bs) := hW_ ▸ ⟨below_a⟩; skip; clear hW_; have Ae := n0_; have Ai := n1_; have HB := n2_; clear n0_ n1_ n2_; replace Ae := bd_ Ae; replace Ai := bd_ Ai; replace HB := A_ (below_drew1 HB.out); have Az : 0 ≤ (1 : Int) := (by omega); have A1 : 1 < (l0.length : Int) := od_; obtain ⟨A7, Bc, Af⟩ := Kd.at_int Ba.out 1 Az A1; have Aa := Af; (try rw [show ((1 : Int)).toNat = 1 from rfl] at Aa); (try rw [show 1 * 1 = 1 from rfl] at Aa); (try simp only [Nat.reduceMul, Nat.reduceEqDiff, Go.Addr.add, ↓reduceIte] at Aa); obtain rfl : Al = A7 := (by injection Bc); (try simp only [show (1 : Int).toNat = 1 from rfl, Nat.reduceMul, Nat.reduceEqDiff, Go.Addr.add, ↓reduceIte] at Af); have Bk : (1 < l0.length) = True := eq_true (by omega); (try rw [show ((1 : Int)).toNat = 1 from rfl] at Af); replace Af := hc_ HB Af; replace Az := eq_true Az; replace A1 := eq_true A1; have A3 : 0 ≤ (2 : Int) := (by omega); have A4 : 2 < (l0.length : Int) := od_; obtain ⟨A9, Bd, Ag⟩ := Kd.at_int Ba.out 2 A3 A4; have Ab := Ag; (try rw [show ((2 : Int)).toNat = 2 from rfl] at Ab); (try rw [show 2 * 1 = 2 from rfl] at Ab); (try simp only [Nat.reduceMul, Nat.reduceEqDiff, Go.Addr.add, ↓reduceIte] at Ab); obtain rfl : Al = A9 := (by injection Bd); (try simp only [show (2 : Int).toNat = 2 from rfl, Nat.reduceMul, Nat.reduceEqDiff, Go.Addr.add, ↓reduceIte] at Ag); have Bl : (2 < l0.length) = True := eq_true (by omega); (try rw [show ((2 : Int)).toNat = 2 from rfl] at Ag); replace Ag := hc_ HB Ag; replace A3 := eq_true A3; replace A4 := eq_true A4; refine start_ (n := 13) (S := fun w' => w'.cell? ⟨Am, 0, none⟩ = some (.int .i64 Ax) ∧ w'.cell? ⟨Am, 1, none⟩ = some (.int .i64 Ar) ∧ w'.cell? ⟨Al.block, Al.off + 1, none⟩ = some (.int .u8 (rd l0 1)) ∧ w'.cell? ⟨Al.block, Al.off + 2, none⟩ = some (.int .u8 (rd l0 2))) (ds := []) (rl_ [0, 13]) (by kernel_rfl) rfl rfl (by2_ Ai.out ⟨((HB.out.cell (World.block_lt_of_cell? w _ Aa)).trans Aa), ((HB.out.cell (World.block_lt_of_cell? w _ Ab)).trans Ab)⟩) (fun hHeld => ?_); refine with_tabW impl_ReadHead.tab6 impl_ReadHead.bits6 (fun HT_ HW_ => ?_); generalize Bs.drew = Cl at Ae Ai HB Af Ag hHeld ⊢; refine p1_ 0 (rl_ [1, 12]) HT_ ?_
  refine p1_ 1 (rl_ [2, 11]) HT_ ?_
  refine p1_ 4 (rl_ [2, 2, 1, 8]) HT_ ?_
  refine p1_ 5 (rl_ [2, 2, 2, 7]) HT_ ?_
  refine p1_ 8 (rl_ [2, 2, 2, 2, 1, 4]) HT_ ?_
  refine t1_ 2 (rl_ [3, 1, 2, 2, 1, 4]) HT_ HW_ hHeld ?_
  refine p1_ 3 (rl_ [6, 2, 1, 4]) HT_ ?_
  refine t1_ 6 (rl_ [7, 1, 1, 4]) HT_ HW_ hHeld ?_
  refine p1_ 7 (rl_ [9, 4]) HT_ ?_
  refine t1_ 9 (rl_ [10, 3]) HT_ HW_ hHeld ?_
  refine p1_ 10 (rl_ [11, 2]) HT_ ?_
  refine o1_ 11 (rl_ [12, 1]) HT_ fun K hK => ?_; refine b1_ 4 #[.int .i64 0, .int .i64 0, .int .i64 0, .slice none 0 0] 28 ?_; intro Aj hg Cm hbox hb; have Av := A_ (hbox); have Ac := gw_ (w := w) hg; obtain ⟨An, Aq⟩ := bu_ Ak hg; obtain ⟨Ah, Aw⟩ := bu_ Am hg; replace Ae := bw_ Ak hb; replace Ai := bw_ Am hb; replace HB := bs_ hb; clear hb hbox hg; refine k1_ hK (by2_ Ai.out ⟨((HB.out.cell (World.block_lt_of_cell? w _ Aa)).trans Aa), ((HB.out.cell (World.block_lt_of_cell? w _ Ab)).trans Ab)⟩) (fun hHeld => ?_); clear hK K; refine o1_ 12 (rl_ [13]) HT_ fun K hK => ?_; have := bc4_ Av.out; have := nn_ An; have := nn_ Ah; refine skip_ (w1 := ?_) (by rfl) rfl ?_ ?_; rotate_left
  ·
   go_simp
   rfl
  refine hK.out _ _ ⟨((far4_ Ah.out).trans (hHeld.1)), ((far4_ Ah.out).trans (hHeld.2.1)), ((cell_far (p := ⟨Aj, _, none⟩) (by first | exact nf_ Aa Ac.out | (rw [add_block]; exact nf_ Aa Ac.out) | (show (Addr.add _ _).block ≠ _; rw [add_block]; exact nf_ Aa Ac.out) | (dsimp only; exact nf_ Aa Ac.out)) _).trans (((cell_far (p := ⟨Aj, _, none⟩) (by first | exact nf_ Aa Ac.out | (rw [add_block]; exact nf_ Aa Ac.out) | (show (Addr.add _ _).block ≠ _; rw [add_block]; exact nf_ Aa Ac.out) | (dsimp only; exact nf_ Aa Ac.out)) _).trans (((cell_far (p := ⟨Aj, _, none⟩) (by first | exact nf_ Aa Ac.out | (rw [add_block]; exact nf_ Aa Ac.out) | (show (Addr.add _ _).block ≠ _; rw [add_block]; exact nf_ Aa Ac.out) | (dsimp only; exact nf_ Aa Ac.out)) _).trans (((cell_far (p := ⟨Aj, _, none⟩) (by first | exact nf_ Aa Ac.out | (rw [add_block]; exact nf_ Aa Ac.out) | (show (Addr.add _ _).block ≠ _; rw [add_block]; exact nf_ Aa Ac.out) | (dsimp only; exact nf_ Aa Ac.out)) _).trans (hHeld.2.2.1)))))))), ((cell_far (p := ⟨Aj, _, none⟩) (by first | exact nf_ Ab Ac.out | (rw [add_block]; exact nf_ Ab Ac.out) | (show (Addr.add _ _).block ≠ _; rw [add_block]; exact nf_ Ab Ac.out) | (dsimp only; exact nf_ Ab Ac.out)) _).trans (((cell_far (p := ⟨Aj, _, none⟩) (by first | exact nf_ Ab Ac.out | (rw [add_block]; exact nf_ Ab Ac.out) | (show (Addr.add _ _).block ≠ _; rw [add_block]; exact nf_ Ab Ac.out) | (dsimp only; exact nf_ Ab Ac.out)) _).trans (((cell_far (p := ⟨Aj, _, none⟩) (by first | exact nf_ Ab Ac.out | (rw [add_block]; exact nf_ Ab Ac.out) | (show (Addr.add _ _).block ≠ _; rw [add_block]; exact nf_ Ab Ac.out) | (dsimp only; exact nf_ Ab Ac.out)) _).trans (((cell_far (p := ⟨Aj, _, none⟩) (by first | exact nf_ Ab Ac.out | (rw [add_block]; exact nf_ Ab Ac.out) | (show (Addr.add _ _).block ≠ _; rw [add_block]; exact nf_ Ab Ac.out) | (dsimp only; exact nf_ Ab Ac.out)) _).trans (hHeld.2.2.2))))))))⟩ (fun hHeld => ?_); clear hK K; refine done_ (done_of HT_.out (by kernel_rfl)) ?_; have := nn_ Ah; have := bc2_ Ai.out; have := nn_ An; have := bc5_ Ae.out
  try go_wp2
  refine bodyPost_ret (results_cell_row rfl _ _ Ak 30 #[.int .i64 3, .int .i64 0, .int .i64 0, .int .i64 0, .slice none 0 0] (0, 0) _ rfl (by (with_reducible repeat (first | refine blk_drewN ?_ _ | refine blk_drew ?_ | refine blk_alloc ?_ _)); refine bp5_ (cs := #[.int .i64 0, .int .i64 0, .int .i64 0, .int .i64 0, .slice none 0 0]) ?_ rfl; (iterate 4 ((with_reducible repeat (first | refine blk_drewN ?_ _ | refine blk_drew ?_ | refine blk_alloc ?_ _)); refine blk_far ?_ An.out _)); exact bl_ Ae.out) Try.underlying30 rfl (by kernel_rfl)) rfl ?_; exact ⟨_, eq_a, by first | exact Kd.R_nil _ _ _ _ _ | exact Kd.N_nil _ _ _ _ _ | exact Kd.V_nil _ _ _ _ _ | exact Kd.Q_nil _ _ _ _ _ | exact Kd.S_nil _ _ _ _ _, below_a⟩
 rw [if_neg c7] at H; obtain ⟨Bp, Bq⟩ := nb_ c7; obtain ⟨rfl, rfl, rfl, rfl, rfl⟩ := s5_ H; have As : 0 ≤ (0 : Int) := (by omega); have Au : 0 < (l0.length : Int) := od_; obtain ⟨Al, A6, Ad⟩ := Kd.at_int Ba.out 0 As Au
 cases A6
 have Bb : (0 < l0.length) = True := eq_true (by omega); (try rw [show ((0 : Int)).toNat = 0 from rfl] at Ad); (try rw [Addr.add_zero'] at Ad); replace Ad := hc_ HB Ad; replace As := eq_true As; replace Au := eq_true Au; have := bc5_ Ae.out
 go_wp2
 refine bodyPost_ret (v := .agg #[.int .i64 1, .int .i64 0, .int .i64 0, .int .i64 0, .slice none 0 0]) ?_ rfl ?_; exact rc_ Ak Try.underlying30; exact ⟨_, eq_a, by first | exact Kd.R_nil _ _ _ _ _ | exact Kd.N_nil _ _ _ _ _ | exact Kd.V_nil _ _ _ _ _ | exact Kd.Q_nil _ _ _ _ _ | exact Kd.S_nil _ _ _ _ _, below_a⟩
def impl_Key_fault.f (a0_0 : Int) (l0_1 : List Int) : Option (Int) := (impl_isKeyId.f a0_0).bind fun t328 => (if t328 = true then (if (l0_1.length : Int) = 16 then (some 0) else (some 2)) else (some 3))
theorem impl_Key_fault.calls (Ab : Int) (Af : Option Addr) (Ag : Nat) (Aa : List Int) (r : Int) (w : World) (Ad : Kd.C (Kd.int .u8) w Af Aa.length Aa) (Ae : Aa.length ≤ Ag) (h : impl_Key_fault.f Ab Aa = some r) :
  Calls Try.prog 81 #[.agg #[.int .i64 Ab, .slice Af Aa.length Ag]] w fun e w' => e = .returned (.int .i64 r) ∧ Below w.heap.size w w' := by
 have hu59 := Try.underlying59
 have Ak := A_ Ad
 have Al := A_ Ae
 clear Ad Ae
 have HB := A_ (Below.refl w.heap.size w)
 unfold impl_Key_fault.f at h; have H := h; clear h
 obtain ⟨Ah, Am, H⟩ := bi_ H
 (try dsimp only at H)
 have A2 := A_ Am
 clear Am
 have An := A_ H
 clear H
 go_enter Try.func81, Try.ntmps81
 go_upto_if 6 with (first | ((with_reducible refine d1_ 1 ?_); refine by_ 1 (#[.int .i64 Ab, .slice Af Aa.length Ag]) 59 ?_; intro Ao hg w4 hbox hb; have Ac := A_ (hbox); have Ap := gw_ (w := w) hg; replace HB := bs_ hb; clear hb hbox hg; have := bc2_ Ac.out) | ((with_reducible refine f1_ 67 ?_); refine gl_ (some 5) Try.func67 #[.int .i64 Ab] ?_; (with_reducible refine (impl_isKeyId.calls Ab Ah _ A2.out).mono ?_); rintro e w' ⟨rfl, ⟨nd, rfl⟩⟩; refine ⟨_, rfl, ?_⟩))
 (try simp only [P4_])
 have H := An.out
 clear An
 by_cases c6 : Ah = true
 ·
  subst c6; rw [if_pos rfl] at H
  by_cases c7 : (Aa.length : Int) = 16
  ·
   rw [if_pos c7] at H; obtain ⟨Ai, Aj⟩ := be_ c7; clear c7; obtain rfl := Option.some.inj H; have := bc2_ Ac.out
   go_wp2
   go_ret
   exact ⟨eq_a, below_a⟩
  rw [if_neg c7] at H; obtain ⟨Ai, Aj⟩ := nb_ c7; obtain rfl := Option.some.inj H; have := bc2_ Ac.out
  go_wp2
  go_ret
  exact ⟨eq_a, below_a⟩
 replace c6 := Bool.eq_false_iff.mpr c6; subst c6; rw [if_neg ff_] at H; obtain rfl := Option.some.inj H
 go_wp2
 go_ret
 exact ⟨eq_a, below_a⟩
end Go.Proofs.Ytiioiohdifkbgaa.MFnLetters
