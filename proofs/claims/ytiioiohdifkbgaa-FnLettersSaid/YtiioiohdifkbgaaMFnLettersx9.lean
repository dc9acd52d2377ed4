-- Laid by a program of this session (the kit's print, turned where it falls short; the texts of functions that it does not take are proved by hand).
import Derived.Test.YtiioiohdifkbgaaMFnLettersx8
namespace Go.Proofs.Ytiioiohdifkbgaa.MFnLetters
open Go.RowKit Go.Proofs.YtiioiohdifkbgaaW.PrintWords Go.Proofs.YtiioiohdifkbgaaW.PrintLast Go.Proofs.YtiioiohdifkbgaaW.PrintMore
set_option maxHeartbeats 80000000
set_option maxRecDepth 100000
attribute [local go_sem] max2_int min2_int max_two min_two max_three min_three max_four min_four   -- for this text's walks alone
set_option linter.unusedVariables false
set_option linter.unusedSimpArgs false
attribute [local go_sem] isSome_setCell run_field30_0 run_field30_1 run_field34_1 run_field48_0 run_field48_1 run_field61_1
def impl_NonceOf.j0 : Nat → Int → Int → Bool → Option (Int × List Int)
 | 0, _, _, _ => none
 | k + 1, x0, x1, Ad => if Ad = true then ((impl_noBytes.f 3).bind fun Aa => (some (Aa.1, Aa.2))) else ((impl_word.f k x0 4).bind fun Ab => ((impl_word.f k x1 8).bind fun Ac => (if Ab.length + Ac.length < 140737488355328 then (some (0, (Ab ++ Ac))) else (none))))
def impl_NonceOf.f (k : Nat) (a0 : Int) (a1 : Int) : Option (Int × List Int) := (impl_in.f a0 0 15).bind fun t391 => (if t391 = true then ((impl_in.f a1 0 1000000000).bind fun t392 => (impl_NonceOf.j0 k a0 a1 (!t392))) else (impl_NonceOf.j0 k a0 a1 true))
theorem impl_NonceOf.calls (k : Nat) (a0 : Int) (a1 : Int) (r1 : Int) (r2 : List Int) (w : World) (h : impl_NonceOf.f k a0 a1 = some (r1, r2)) :
  Calls Try.prog 43 #[.int .i64 a0, .int .i64 a1] w fun e w' => ∃ v1_ : Value, e = .returned (.agg #[.int .i64 r1, v1_]) ∧ Kd.R (Kd.int .u8) 5 w' w.heap.size (fun _ => True) v1_ r2 ∧ Below w.heap.size w w' := by
 have hu48 := Try.underlying48
 have HB := A_ (Below.refl w.heap.size w)
 unfold impl_NonceOf.f at h; have H := h; clear h
 have Ap := A_ H
 clear H
 go_enter Try.func43, Try.ntmps43
 go_upto_region 1 with (first | ((with_reducible refine d1_ 4 ?_); refine by_ 4 (#[.int .i64 0, .slice none 0 0]) 48 ?_; intro Ab hg w4 hbox hb; have Aa := A_ (hbox); have A3 := gw_ (w := w) hg; replace HB := bs_ hb; clear hb hbox hg))
 (try simp only [P4_])
 go_cut [12] (fun A8 wc => ∃ (kq : Nat) (Ae : Bool), A8 = .bool Ae ∧ Aside0 (impl_NonceOf.j0 kq a0 a1 Ae = some (r1, r2)) ∧ Aside0 (kq ≤ k) ∧ Aside0 (wc.heap[Ab]? = some (.cells #[.int .i64 0, (.slice none 0 0)] 48 (0, 0))) ∧ Aside0 (Below w.heap.size w wc))
 case first =>
  have H := Ap.out; clear Ap; obtain ⟨Aq, A5, H⟩ := bj_ H; (try dsimp only at H)
  by_cases c6 : Aq = true
  ·
   subst c6; rw [if_pos rfl] at H; obtain ⟨Al, A7, H⟩ := bj_ H; (try dsimp only at H); have H' := A_ H; clear H
   go_wp2_with (first | ((with_reducible refine f1_ 68 ?_); refine gl_ (some 6) Try.func68 #[.int .i64 a0, .int .i64 0, .int .i64 15] ?_; (with_reducible refine (impl_in.calls a0 0 15 true _ A5.out).mono ?_); rintro e w' ⟨rfl, ⟨nd, rfl⟩⟩; refine ⟨_, rfl, ?_⟩) | (go_at_call 68; (with_reducible refine (impl_in.calls a1 0 1000000000 Al _ A7.out).mono ?_); rintro e w' ⟨rfl, ⟨nd, rfl⟩⟩))
   go_meet
   case rel => exact ⟨_, (!Al), eq_b, H', ⟨by first | omega | exact Nat.le_refl _⟩, ⟨blk_a⟩, ⟨below_a⟩⟩
  replace c6 := Bool.eq_false_iff.mpr c6; subst c6; rw [if_neg ff_] at H; have H' := A_ H; clear H
  go_wp2_with (first | ((with_reducible refine f1_ 68 ?_); refine gl_ (some 6) Try.func68 #[.int .i64 a0, .int .i64 0, .int .i64 15] ?_; (with_reducible refine (impl_in.calls a0 0 15 false _ A5.out).mono ?_); rintro e w' ⟨rfl, ⟨nd, rfl⟩⟩; refine ⟨_, rfl, ?_⟩))
  go_meet
  case rel => exact ⟨_, (true), eq_b, H', ⟨by first | omega | exact Nat.le_refl _⟩, ⟨blk_a⟩, ⟨below_a⟩⟩
 case rest =>
  clear Ap
  try clear p2
  try clear c4
  try clear c6
  obtain ⟨kq, Ae, rfl, HA, HJ2, Aa, HB⟩ := hcut
  cases kq with
  | zero => exact absurd HA.out (by simp [impl_NonceOf.j0])
  | succ A4 =>
   have H := HA.out; clear HA; simp only [impl_NonceOf.j0] at H
   by_cases c8 : Ae = true
   ·
    subst c8; rw [if_pos rfl] at H; obtain ⟨⟨Am, An⟩, A9, H⟩ := bj_ H; (try dsimp only at H); obtain ⟨rfl, rfl⟩ := s2_ H
    go_wp2_with (first | ((with_reducible refine f1_ 54 ?_); refine gl_ (some 13) Try.func54 #[.int .i64 3] ?_; (with_reducible refine (impl_noBytes.calls 3 Am An _ A9.out).mono ?_); rintro e Bf ⟨Ba, rfl, Ag, hb⟩; refine ⟨_, rfl, ?_⟩; have Ai := A_ (Kd.R_lower Ag (below_size below_a)); replace Aa := bw_ Ab hb; replace HB := bs_ hb; (try clear hb Ag); have := bc2_ Aa.out; obtain ⟨Ar, As, Au⟩ := Kd.R_slice Ai.out; subst Au))
    refine bodyPost_ret (v := .agg #[.int .i64 Am, .slice Ar An.length As]) ?_ rfl ?_; exact rc_ Ab Try.underlying48; exact ⟨_, eq_a, rp_ Ai, below_a⟩
   replace c8 := Bool.eq_false_iff.mpr c8; subst c8; rw [if_neg ff_] at H; obtain ⟨Ak, Bb, H⟩ := bj_ H; (try dsimp only at H); obtain ⟨Ah, Bc, H⟩ := bj_ H; (try dsimp only at H)
   obtain ⟨A6, H⟩ := iq_ H; have LMc15 := A_ A6; clear A6; obtain ⟨Av, Af⟩ := ey_ (Ak ++ Ah : List Int); (try (with_reducible replace H := os_ H)); (try dsimp only at H); (try rw [← Af] at H)
   have Ao := A_ Af; clear Af; obtain ⟨rfl, rfl⟩ := s2_ H
   go_wp2_with (first | ((with_reducible refine f1_ 70 ?_); refine gl_ (some 15) Try.func70 #[.int .i64 a0, .int .i64 4] ?_; (with_reducible refine (impl_word.calls A4 a0 4 Ak _ Bb.out).mono ?_); rintro e Bg ⟨Aw, rfl, Ag, hb⟩; refine ⟨_, rfl, ?_⟩; have Ac := A_ (Kd.R_lower Ag (below_size below_a)); replace Aa := bw_ Ab hb; replace HB := bs_ hb; (try clear hb Ag)) | ((with_reducible refine f1_ 70 ?_); refine gl_ (some 17) Try.func70 #[.int .i64 a1, .int .i64 8] ?_; (with_reducible refine (impl_word.calls A4 a1 8 Ah _ Bc.out).mono ?_); rintro e Bh ⟨Bd, rfl, Ag, hb⟩; refine ⟨_, rfl, ?_⟩; have n0_ := re_ Ac hb (Kd.R_base Ag); have Ad := A_ (Kd.R_lower (Kd.R_new' Ag (Kd.R_lt (R_a Ac.out))) (below_size below_a)); replace Aa := bw_ Ab hb; replace HB := bs_ hb; replace Ac := n0_; clear n0_; (try clear hb Ag); obtain ⟨Ax, Ay, Az⟩ := Kd.R_slice Ad.out; subst Az) | ((with_reducible refine gate_builtin (b := .append) (xs := #[.tmp 15, .tmp 17]) rfl ?_); at_builtin; refine Kd.R_append_rows (Kd.int .u8) (w0 := w) w.heap.size rfl (.tmp 15) (.tmp 17) 25 5 (.int .u8 0) 1 rfl Try.underlying25 info5 rfl (by decide) (by omega) Aw Ak Ah _ _ _ (fun k_ => some k_ ≠ (.slice Ax Ah.length Ay : Value).ownBlock) (fun _ => False) rfl rfl ?aO ?aR (fun _ _ h => h) (fun _ h => h.elim) ?aF ?aB ?aS ?aL ?_; (case aR => exact cr_ Ad); (case aB => exact below_a); (case aF => exact (fun k_ hk => Kd.fresh' (Kd.R_lt (R_a Ad.out)) k_ hk)); (case aO => exact (rp_ Ac)); (case aS => exact (below_size below_a)); (case aL => have := LMc15.out; omega); intro Be Bi ho hb hg hat; rw [← Ao.out] at ho; replace Aa := A_ (blk_grown (g := Ab) blk_c hg (Kd.R_ne Ac.out Aa.out (by decide))); replace Ad := A_ (Kd.R_after (ok := (fun _ => True)) (R_a Ad.out) hg hat); replace HB := A_ (hb); have Aj := A_ (ho); clear Ac; clear ho hb hg hat; obtain ⟨A0, A1, rfl⟩ := Kd.R_slice Aj.out; have := bc2_ Aa.out))
   refine bodyPost_ret (v := .agg #[.int .i64 0, .slice A0 Av.length A1]) ?_ rfl ?_; exact rc_ Ab Try.underlying48; exact ⟨_, eq_a, rp_ Aj, below_a⟩
def impl_OpenLetter.f (k : Nat) (Ad : Int) (Ae : List (S59)) (l1 : List Int) : Option (Int × Int × Int × Int × List Int) := (impl_RingFault.f k Ad Ae).bind fun Af => (if Af = 0 then (if (l1.length : Int) > 327 then (some (2, 0, 0, 0, ([] : List Int))) else ((impl_ReadHead.f k l1).bind fun Aa => (if Aa.1 = 0 then ((impl_FindKey.f k Ad Ae Aa.2.1).bind fun Ab => (if Ab.1 = 0 then ((impl_NonceOf.f k Aa.2.2.1 Aa.2.2.2.1).bind fun Ag => (if 11 ≤ (l1.length : Int) then ((impl_OpenText.f k Ab.2.2 Ag.2 (l1.take 11) (l1.drop 11)).bind fun Ac => (if Ac.1 = 0 then (some (Aa.1, Aa.2.1, Aa.2.2.1, Aa.2.2.2.1, Ac.2)) else (some (9, 0, 0, 0, ([] : List Int))))) else (none))) else (some (Ab.1, 0, 0, 0, ([] : List Int))))) else (some (Aa.1, Aa.2.1, Aa.2.2.1, Aa.2.2.2.1, Aa.2.2.2.2))))) else (some (Af, 0, 0, 0, ([] : List Int))))
def impl_OpenLetter.T13 : Bool × List (List Nat × List Nat) := (true, [([], []), ([0], [0]), ([1], [1]), ([], []), ([3], [3]), ([], []), ([5], [5]), ([4, 6], [4, 6]), ([7], [7]), ([], []), ([9], [9]), ([], []), ([11], [11]), ([2, 8, 10, 12, 7], [2, 8, 10, 12]), ([], []), ([14, 13, 13, 0, 1, 2, 3, 4, 5, 6, 7, 8, 9, 10, 11, 12, 13, 14], [13, 14])])
def impl_OpenLetter.B13 : List Nat := [0, 1, 3, 0, 8, 0, 32, 120, 248, 0, 512, 0, 2048, 8191, 0, 32767]
theorem impl_OpenLetter.tab13 : rtab .any (opsOf Try.f9 13) = impl_OpenLetter.T13 := by kernel_rfl
theorem impl_OpenLetter.bits13 : waitsOk impl_OpenLetter.T13.2 impl_OpenLetter.B13 = true := by kernel_rfl
theorem impl_OpenLetter.calls (k : Nat) (Bt : Int) (Ca : Option Addr) (Cb : Nat) (Bg : List (S59)) (A1 : Option Addr) (c1 : Nat) (l1 : List Int) (r1 : Int) (r2 : Int) (r3 : Int) (r4 : Int) (r5 : List Int) (w : World) (Cp : Kd.C k59 w Ca Bg.length Bg) (Cq : Bg.length ≤ Cb) (Dw : Kd.C (Kd.int .u8) w A1 l1.length l1) (Dx : l1.length ≤ c1) (h : impl_OpenLetter.f k Bt Bg l1 = some (r1, r2, r3, r4, r5)) :
  Calls Try.prog 9 #[.agg #[.int .i64 Bt, .slice Ca Bg.length Cb], .slice A1 l1.length c1] w fun e w' => ∃ v4_ : Value, e = .returned (.agg #[.int .i64 r1, .int .i64 r2, .int .i64 r3, .int .i64 r4, v4_]) ∧ Kd.R (Kd.int .u8) 5 w' w.heap.size (fun _ => True) v4_ r5 ∧ Below w.heap.size w w' := by
 have hu34 := Try.underlying34
 have hu30 := Try.underlying30
 have hu28 := Try.underlying28
 have hu61 := Try.underlying61
 have hu48 := Try.underlying48
 have Cr := A_ Cp
 have Cs := A_ Cq
 clear Cp Cq
 have Dl := A_ Dw
 have Dm := A_ Dx
 clear Dw Dx
 have HB := A_ (Below.refl w.heap.size w)
 unfold impl_OpenLetter.f at h; have H := h; clear h
 obtain ⟨Cv, Dy, H⟩ := bi_ H
 (try dsimp only at H)
 have A3 := A_ Dy
 clear Dy
 have Dz := A_ H
 clear H
 go_enter Try.func9, Try.ntmps9
 go_upto_if 13 with (first | ((with_reducible refine d1_ 2 ?_); refine by_ 2 (#[.int .i64 Bt, .slice Ca Bg.length Cb]) 34 ?_; intro Aj hg w5 hbox hb; have Al := A_ (hbox); have D0 := gw_ (w := w) hg; replace HB := bs_ hb; clear hb hbox hg) | ((with_reducible refine d1_ 4 ?_); refine by_ 4 (#[.int .i64 0, .int .i64 0, .int .i64 0, .int .i64 0, .slice none 0 0]) 30 ?_; intro Af hg w6 hbox hb; have Ag := A_ (hbox); have D1 := gw_ (w := w) hg; obtain ⟨Bl, Az⟩ := bu_ Aj hg; replace Al := bw_ Aj hb; replace HB := bs_ hb; clear hb hbox hg; have := nn_ Bl; have := bc2_ Al.out) | ((with_reducible refine f1_ 40 ?_); refine gl_ (some 11) Try.func40 #[.agg #[.int .i64 Bt, .slice Ca Bg.length Cb]] ?_; (with_reducible refine (impl_RingFault.calls k Bt _ _ Bg Cv _ ?_ ?_ A3.out).mono ?_); exact ca_ (Kd.C_below Cr.out HB.out); exact Cs.out; rintro e w9 ⟨rfl, hb⟩; refine ⟨_, rfl, ?_⟩; replace Al := bw_ Aj hb; replace Ag := bw_ Af hb; replace HB := bs_ hb; (try clear hb)))
 (try simp only [P4_])
 have H := Dz.out
 clear Dz
 by_cases C3 : Cv = 0
 ·
  rw [if_pos C3] at H; obtain ⟨Bu, C4⟩ := be_ C3; clear C3; (first | rw [Bu] | (simp only [i64_w, i32_w]; rw [Bu]) | skip)
  by_cases Cy : (l1.length : Int) > 327
  ·
   rw [if_pos Cy] at H; have C5 := dt_ Cy; have C6 : decide (327 < l1.length) = true := decide_eq_true (by omega); clear Cy; obtain ⟨rfl, rfl, rfl, rfl, rfl⟩ := s5_ H; have := nn_ Az; have := bc5_ Ag.out
   go_wp2
   refine bodyPost_ret (v := .agg #[.int .i64 2, .int .i64 0, .int .i64 0, .int .i64 0, .slice none 0 0]) ?_ rfl ?_; exact rc_ Af Try.underlying30; exact ⟨_, eq_a, by first | exact Kd.R_nil _ _ _ _ _ | exact Kd.N_nil _ _ _ _ _ | exact Kd.V_nil _ _ _ _ _ | exact Kd.Q_nil _ _ _ _ _ | exact Kd.S_nil _ _ _ _ _, below_a⟩
  rw [if_neg Cy] at H; have C5 := df_ Cy; have C6 : decide (327 < l1.length) = false := decide_eq_false (by omega); clear Cy; obtain ⟨⟨Bv, Ba, A5, A6, Bc⟩, Ea, H⟩ := bj_ H; (try dsimp only at H); have C7 := A_ H; clear H
  go_upto_if 24 with (first | ((with_reducible refine f1_ 22 ?_); refine gl_ (some 21) Try.func22 #[.slice A1 l1.length c1] ?_; (with_reducible refine (impl_ReadHead.calls k _ _ l1 Bv Ba A5 A6 Bc _ ?_ ?_ Ea.out).mono ?_); exact ca_ (Kd.C_below Dl.out HB.out); exact Dm.out; rintro e Ej ⟨Eb, rfl, Bm, hb⟩; refine ⟨_, rfl, ?_⟩; have Ab := A_ (Kd.R_lower Bm (below_size below_a)); replace Al := bw_ Aj hb; replace Ag := bw_ Af hb; replace HB := bs_ hb; (try clear hb Bm)) | ((with_reducible refine d1_ 6 ?_); refine by_ 6 (#[.int .i64 0, .int .i64 0, .int .i64 0, .int .i64 0, .slice none 0 0]) 30 ?_; intro Ao hg Ek hbox hb; replace Ab := rv_ Ab hb; have Ap := A_ (hbox); have D2 := gw_ (w := w) hg; obtain ⟨Cz, A0⟩ := bu_ Aj hg; obtain ⟨Bd, A4⟩ := bu_ Af hg; replace Al := bw_ Aj hb; replace Ag := bw_ Af hb; replace HB := bs_ hb; clear hb hbox hg; have := nn_ A0; have := nn_ A4; have := bc5_ Ap.out; obtain ⟨Bh, Bi, Dn⟩ := Kd.R_slice Ab.out; subst Dn))
  (try simp only [P4_]); have H := C7.out; clear C7
  by_cases C8 : Bv = 0
  ·
   rw [if_pos C8] at H; obtain ⟨Bw, C9⟩ := be_ C8; clear C8; (first | rw [Bw] | (simp only [i64_w, i32_w]; rw [Bw]) | skip); obtain ⟨⟨Bs, B0, A9⟩, Ec, H⟩ := bj_ H; (try dsimp only at H); have Da := A_ H; clear H; have := nn_ A0; have := nn_ A4; have := bc5_ Ap.out
   go_upto_if 34 with (first | ((with_reducible refine d1_ 7 ?_); refine by_ 7 (#[.int .i64 0, .int .i64 0, .int .i64 0, .slice none 0 0]) 28 ?_; intro Ae hg El hbox hb; replace Ab := rv_ Ab hb; have n3_ := A_ (blk_below (g := Ao) (o := .cells #[.int .i64 Bv, .int .i64 Ba, .int .i64 A5, .int .i64 A6, .slice Bh Bc.length Bi] 30 (0, 0)) bk_a hb); have Ah := A_ (hbox); have D3 := gw_ (w := w) hg; obtain ⟨C0, Cc⟩ := bu_ Aj hg; obtain ⟨Be, Cd⟩ := bu_ Af hg; have Ce := A_ ((by rw [hg]; exact Nat.ne_of_lt (blk_lt (g := Ao) (o := .cells #[.int .i64 Bv, .int .i64 Ba, .int .i64 A5, .int .i64 A6, .slice Bh Bc.length Bi] 30 (0, 0)) bk_a) : Ao ≠ Ae)); have Cf := A_ ((by rw [hg]; exact Nat.ne_of_gt (blk_lt (g := Ao) (o := .cells #[.int .i64 Bv, .int .i64 Ba, .int .i64 A5, .int .i64 A6, .slice Bh Bc.length Bi] 30 (0, 0)) bk_a) : Ae ≠ Ao)); replace Al := bw_ Aj hb; replace Ag := bw_ Af hb; replace Ap := n3_; replace HB := bs_ hb; clear n3_; clear hb hbox hg; have := nn_ Cc; have := nn_ Cd; have := nn_ Cf; have := bc4_ Ah.out; have := nn_ Bl; have := bc2_ Al.out) | ((with_reducible refine f1_ 41 ?_); refine gl_ (some 31) Try.func41 #[.agg #[.int .i64 Bt, .slice Ca Bg.length Cb], .int .i64 Ba] ?_; (with_reducible refine (impl_FindKey.calls k Bt _ _ Bg Ba Bs B0 A9 _ ?_ ?_ Ec.out).mono ?_); exact Kd.C_below Cr.out below_a; exact Cs.out; rintro e Em ⟨Ed, rfl, Bm, hb⟩; refine ⟨_, rfl, ?_⟩; replace Ab := rv_ Ab hb; have Ac := A_ (Kd.R_lower Bm (below_size below_a)); replace Ah := A_ (blk_below (g := Ae) (o := .cells #[.int .i64 Ba, .int .i64 A5, .int .i64 A6, .slice Bh Bc.length Bi] 28 (0, 0)) bk_a hb); replace HB := bs_ hb; replace Al := bw_ Aj hb; replace Ag := bw_ Af hb; replace Ap := bw_ Ao hb; (try clear hb Bm)) | ((with_reducible refine d1_ 8 ?_); refine by_ 8 (#[.int .i64 0, .int .i64 0, .slice none 0 0]) 61 ?_; intro Ai hg Ee hbox hb; replace Ab := rv_ Ab hb; replace Ac := rv_ Ac hb; have Ak := A_ (hbox); have D4 := gw_ (w := w) hg; obtain ⟨C1, Bn⟩ := bu_ Aj hg; obtain ⟨Bo, Bp⟩ := bu_ Af hg; obtain ⟨Cg, Bq⟩ := bu_ Ao hg; obtain ⟨C2, Br⟩ := bu_ Ae hg; replace Al := bw_ Aj hb; replace Ag := bw_ Af hb; replace Ap := bw_ Ao hb; replace Ah := bw_ Ae hb; replace HB := bs_ hb; clear hb hbox hg; have := nn_ Bn; have := nn_ Bp; have := nn_ Bq; have := nn_ Br; have := bc3_ Ak.out; obtain ⟨Bj, Bk, Dp⟩ := Kd.R_slice Ac.out; subst Dp))
   (try simp only [P4_]); have H := Da.out; clear Da
   by_cases Db : Bs = 0
   ·
    rw [if_pos Db] at H; obtain ⟨Bx, Dc⟩ := be_ Db; clear Db; (first | rw [Bx] | (simp only [i64_w, i32_w]; rw [Bx]) | skip); obtain ⟨⟨Cw, Bf⟩, D5, H⟩ := bj_ H; (try dsimp only at H)
    obtain ⟨Dq, H⟩ := iq_ H; have D6 := eq_true Dq; have D7 : decide (11 ≤ (l1.length : Int)) = true := decide_eq_true Dq; clear Dq; have D8 := eq_true (od_ : 11 ≤ (l1.length : Int)); obtain ⟨⟨Ci, Cj⟩, Dr, H⟩ := bj_ H; (try dsimp only at H); have Dd := A_ H; clear H
    try go_wp2
    generalize hW_ : (((Ee.setCell ⟨Ai, 0, none⟩ (.int .i64 Bs)).setCell ⟨Ai, 1, none⟩ (.int .i64 B0)).setCell ⟨Ai, 2, none⟩ (.slice Bj A9.length Bk)) = Ds at ⊢; have n0_ := g1_ hW_ Ab; have n1_ := g1_ hW_ Ac; have n2_ := gb_ hW_ Al; have n3_ := gb_ hW_ Ag; have n4_ := gb_ hW_ Ap; have n5_ := gb_ hW_ Ah; have n6_ : Aside0 (Ds.heap[Ai]? = some (.cells #[.int .i64 Bs, .int .i64 B0, .slice Bj A9.length Bk] 61 (0, 0))) := hW_ ▸ ⟨blk_a⟩; have n7_ : Aside0 (Below w.heap.size w Ds) := hW_ ▸ ⟨below_a⟩; skip; clear hW_; have Ab := n0_; have Ac := n1_; have Al := n2_; have Ag := n3_; have Ap := n4_; have Ah := n5_; have Ak := n6_; have HB := n7_; clear n0_ n1_ n2_ n3_ n4_ n5_ n6_ n7_; replace Ab := hd_ Ab; replace Ac := hd_ Ac; replace Al := bd_ Al; replace Ag := bd_ Ag; replace Ap := bd_ Ap; replace Ah := bd_ Ah; replace Ak := bd_ Ak; replace HB := A_ (below_drew1 HB.out); obtain ⟨Ef, Ct, _, hsz51, _⟩ := info_parts info5; obtain ⟨hcut51, hA51, hC51⟩ := print_take_of (P := Try.prog) (Value.int .u8) 0 25 5 .i64 Try.underlying25 Ct hsz51 A1 c1 l1 11 (by omega) od_ Dm.out; have B3 := A_ (Kd.C_of_reads (h1 := fun _ => rfl) (hA51 _ (Kd.reads_of_C Dl.out))); have Ck := A_ hC51; clear hA51 hC51 Ct hsz51; obtain ⟨Eg, Cu, _, hsz52, _⟩ := info_parts info5; obtain ⟨Dt, hcut52, hA52, hC52⟩ := print_drop_of (P := Try.prog) (Value.int .u8) 0 25 5 .i64 Try.underlying25 Cu hsz52 A1 c1 l1 11 (by omega) od_ Dm.out; have B4 := A_ (Kd.C_of_reads (h1 := fun _ => rfl) (hA52 _ (Kd.reads_of_C Dl.out))); have Cl := A_ hC52; clear hA52 hC52 Cu hsz52; refine start_ (n := 16) (S := fun w' => w'.cell? ⟨Ai, 0, none⟩ = some (.int .i64 Bs) ∧ w'.cell? ⟨Ai, 1, none⟩ = some (.int .i64 B0) ∧ w'.cell? ⟨Ai, 2, none⟩ = some (.slice Bj A9.length Bk) ∧ w'.cell? ⟨Ae, 0, none⟩ = some (.int .i64 Ba) ∧ w'.cell? ⟨Ae, 1, none⟩ = some (.int .i64 A5) ∧ w'.cell? ⟨Ae, 2, none⟩ = some (.int .i64 A6) ∧ w'.cell? ⟨Ae, 3, none⟩ = some (.slice Bh Bc.length Bi)) (ds := []) (rl_ [0, 16]) (by kernel_rfl) rfl rfl (by3_ Ak.out (bz4_ Ah.out)) (fun hHeld => ?_); refine with_tabW impl_OpenLetter.tab13 impl_OpenLetter.bits13 (fun HT_ HW_ => ?_); generalize Ds.drew = En at Ab Ac Al Ag Ap Ah Ak HB B3 B4 hHeld ⊢; refine p1_ 0 (rl_ [1, 15]) HT_ ?_
    refine p1_ 1 (rl_ [2, 14]) HT_ ?_
    refine p1_ 3 (rl_ [2, 1, 1, 12]) HT_ ?_
    refine p1_ 5 (rl_ [2, 1, 1, 1, 1, 10]) HT_ ?_
    refine p1_ 9 (rl_ [2, 1, 1, 1, 1, 3, 1, 6]) HT_ ?_
    refine p1_ 10 (rl_ [2, 1, 1, 1, 1, 3, 2, 5]) HT_ ?_
    refine p1_ 11 (rl_ [2, 1, 1, 1, 1, 3, 3, 4]) HT_ ?_
    refine p1_ 12 (rl_ [2, 1, 1, 1, 1, 3, 4, 3]) HT_ ?_
    refine t1_ 2 (rl_ [4, 1, 1, 3, 4, 3]) HT_ HW_ hHeld ?_
    refine t1_ 4 (rl_ [6, 3, 4, 3]) HT_ HW_ hHeld ?_
    refine t1_ 6 (rl_ [7, 2, 4, 3]) HT_ HW_ hHeld ?_
    refine join_ (σ := Value × Value × Nat) 1 (rl_ [15, 1]) (fun s_ => [(45, .agg #[.int .i64 Cw, s_.1]), (51, .agg #[.int .i64 Ci, s_.2.1]), (9, .pointer (some ⟨s_.2.2, 0, none⟩)), (46, s_.1)]) (fun s_ w' => (w'.cell? ⟨Ai, 0, none⟩ = some (.int .i64 Bs) ∧ w'.cell? ⟨Ai, 1, none⟩ = some (.int .i64 B0) ∧ w'.cell? ⟨Ai, 2, none⟩ = some (.slice Bj A9.length Bk) ∧ w'.cell? ⟨Ae, 0, none⟩ = some (.int .i64 Ba) ∧ w'.cell? ⟨Ae, 1, none⟩ = some (.int .i64 A5) ∧ w'.cell? ⟨Ae, 2, none⟩ = some (.int .i64 A6) ∧ w'.cell? ⟨Ae, 3, none⟩ = some (.slice Bh Bc.length Bi)) ∧ (Kd.R (Kd.int .u8) 5 w' w.heap.size (fun _ => True) (.slice Bh Bc.length Bi) Bc) ∧ (Kd.R (Kd.int .u8) 5 w' w.heap.size (fun _ => True) (.slice Bj A9.length Bk) A9) ∧ (Kd.R (Kd.int .u8) 5 w' w.heap.size (fun _ => True) s_.1 Bf) ∧ (Kd.R (Kd.int .u8) 5 w' w.heap.size (fun _ => True) s_.2.1 Cj) ∧ (w'.heap[Aj]? = some (.cells #[.int .i64 Bt, .slice Ca Bg.length Cb] 34 (0, 0))) ∧ (w'.heap[Af]? = some (.cells #[.int .i64 0, .int .i64 0, .int .i64 0, .int .i64 0, .slice none 0 0] 30 (0, 0))) ∧ (w'.heap[Ao]? = some (.cells #[.int .i64 Bv, .int .i64 Ba, .int .i64 A5, .int .i64 A6, .slice Bh Bc.length Bi] 30 (0, 0))) ∧ (w'.heap[Ae]? = some (.cells #[.int .i64 Ba, .int .i64 A5, .int .i64 A6, .slice Bh Bc.length Bi] 28 (0, 0))) ∧ (w'.heap[Ai]? = some (.cells #[.int .i64 Bs, .int .i64 B0, .slice Bj A9.length Bk] 61 (0, 0))) ∧ (w'.heap[s_.2.2]? = some (.cells #[.int .i64 0, .slice none 0 0] 48 (0, 0))) ∧ (w.heap.size ≤ s_.2.2) ∧ (w.heap.size ≤ s_.2.2) ∧ (Aj ≠ s_.2.2) ∧ (s_.2.2 ≠ Aj) ∧ (Af ≠ s_.2.2) ∧ (s_.2.2 ≠ Af) ∧ (Ao ≠ s_.2.2) ∧ (s_.2.2 ≠ Ao) ∧ (Ae ≠ s_.2.2) ∧ (s_.2.2 ≠ Ae) ∧ (Ai ≠ s_.2.2) ∧ (s_.2.2 ≠ Ai) ∧ (Below w.heap.size w w')) ?_ ?_; rotate_left
    ·
     intro hCont; refine two_ (i := 7) (j := 14) (Ni := some 45) (Nj := some 9) (rl_ [8, 1, 4, 3]) (rl_ [7, 2, 4, 1, 1, 1]) rfl rfl rfl rfl (two_of HT_.out (by kernel_rfl)) (by decide) (by decide) (fun K hK => ?_) (fun K hK => ?_)
     ·
      refine gs_ Try.func43 #[.int .i64 A5, .int .i64 A6] ?_
      with_reducible refine (impl_NonceOf.calls k A5 A6 Cw Bf _ D5.out).mono ?_
      rintro e Eh ⟨De, rfl, Bm, hb⟩; refine ⟨_, rfl, ?_⟩; replace Ab := rv_ Ab hb; replace Ac := rv_ Ac hb; have Am := A_ (Kd.R_lower Bm (below_size below_a)); replace Al := bw_ Aj hb; replace Ag := bw_ Af hb; replace Ap := bw_ Ao hb; replace Ah := bw_ Ae hb; replace Ak := bw_ Ai hb; replace HB := bs_ hb; (try clear hb Bm); obtain ⟨Df, Dg, Dh⟩ := Kd.R_slice Am.out; (first | subst Dh | (injection Dh with f1_ f2_ f3_; have f4_ := f1_.symm; have f5_ := f3_.symm; clear f1_ f2_ f3_; subst f4_; subst f5_)); refine k1_ hK (by3_ Ak.out (bz4_ Ah.out)) (fun hHeld => ?_); clear hK K; refine p1_ 8 (rl_ [13, 3]) HT_ ?_
      refine two_ (i := 13) (j := 14) (Ni := some 51) (Nj := some 9) (rl_ [14, 2]) (rl_ [13, 1, 1, 1]) rfl rfl rfl rfl (two_of HT_.out (by kernel_rfl)) (by decide) (by decide) (fun K hK => ?_) (fun K hK => ?_)
      ·
       refine goes_ Try.func42 (by kernel_rfl) rfl #[.slice Bj A9.length Bk, .slice Df Bf.length Dg, .slice A1 (l1.take 11).length c1, .slice Dt (l1.drop 11).length (c1 - 11)] (by rfl) rfl rfl (by (try simp only [List.map_toArray, List.map_cons, List.map_nil]); first | done | (rw [show (l1.take 11).length = 11 from (by rw [List.length_take]; have h_ : (11 : Int) ≤ (l1.length : Int) := od_; omega)] <;> rfl) | (rw [show (l1.drop 11).length = (l1.length - 11) from List.length_drop] <;> rfl) | rfl | (simp only [List.length_drop, List.length_take]; rfl)) ?_
       with_reducible refine (impl_OpenText.calls k _ _ A9 _ _ Bf _ _ (l1.take 11) _ _ (l1.drop 11) Ci Cj _ ?_ ?_ ?_ ?_ ?_ ?_ ?_ ?_ Dr.out).mono ?_
       exact cr_ Ac; exact cl_ Ac; exact cr_ Am; exact cl_ Am; exact ca_ (Kd.C_below B3.out HB.out); exact Ck.out; exact ca_ (Kd.C_below B4.out HB.out); exact Cl.out; rintro e Eo ⟨Ch, rfl, Bm, hb⟩; refine ⟨_, rfl, ?_⟩; replace Ab := rv_ Ab hb; replace Ac := rv_ Ac hb; replace Am := rv_ Am hb; have A7 := A_ (Kd.R_lower Bm (below_size below_a)); replace Al := bw_ Aj hb; replace Ag := bw_ Af hb; replace Ap := bw_ Ao hb; replace Ah := bw_ Ae hb; replace Ak := bw_ Ai hb; replace HB := bs_ hb; (try clear hb Bm); refine k1_ hK (by3_ Ak.out (bz4_ Ah.out)) (fun hHeld => ?_); clear hK K; refine o1_ 14 (rl_ [15, 1]) HT_ fun K hK => ?_; refine b1_ 9 #[.int .i64 0, .slice none 0 0] 48 ?_; intro An hg D9 hbox hb; replace Ab := rv_ Ab hb; replace Ac := rv_ Ac hb; replace Am := rv_ Am hb; replace A7 := rv_ A7 hb; have Bb := A_ (hbox); have A8 := gw_ (w := w) hg; obtain ⟨Ax, Aq⟩ := bu_ Aj hg; obtain ⟨Ar, As⟩ := bu_ Af hg; obtain ⟨Ay, Au⟩ := bu_ Ao hg; obtain ⟨Aa, Av⟩ := bu_ Ae hg; obtain ⟨Ad, Aw⟩ := bu_ Ai hg; replace Al := bw_ Aj hb; replace Ag := bw_ Af hb; replace Ap := bw_ Ao hb; replace Ah := bw_ Ae hb; replace Ak := bw_ Ai hb; replace HB := bs_ hb; clear hb hbox hg; refine k1_ hK (by3_ Ak.out (bz4_ Ah.out)) (fun hHeld => ?_); clear hK K; exact nm_ (hCont (.slice Df Bf.length Dg, Ch, An) _ ⟨hHeld, (R_a Ab.out), (R_a Ac.out), (R_a Am.out), (R_a A7.out), blk_a, blk_a, blk_a, blk_a, blk_a, blk_a, A8.out, A8.out, Ax.out, Aq.out, Ar.out, As.out, Ay.out, Au.out, Aa.out, Av.out, Ad.out, Aw.out, below_a⟩)
      refine b1_ 9 #[.int .i64 0, .slice none 0 0] 48 ?_; intro An hg Ei hbox hb; replace Ab := rv_ Ab hb; replace Ac := rv_ Ac hb; replace Am := rv_ Am hb; have Bb := A_ (hbox); have A8 := gw_ (w := w) hg; obtain ⟨Ax, Aq⟩ := bu_ Aj hg; obtain ⟨Ar, As⟩ := bu_ Af hg; obtain ⟨Ay, Au⟩ := bu_ Ao hg; obtain ⟨Aa, Av⟩ := bu_ Ae hg; obtain ⟨Ad, Aw⟩ := bu_ Ai hg; replace Al := bw_ Aj hb; replace Ag := bw_ Af hb; replace Ap := bw_ Ao hb; replace Ah := bw_ Ae hb; replace Ak := bw_ Ai hb; replace HB := bs_ hb; clear hb hbox hg; obtain ⟨Cm, Cn, Co⟩ := Kd.R_slice Am.out; (first | subst Co | (injection Co with f1_ f2_ f3_; have f4_ := f1_.symm; have f5_ := f3_.symm; clear f1_ f2_ f3_; subst f4_; subst f5_)); refine k1_ hK (by3_ Ak.out (bz4_ Ah.out)) (fun hHeld => ?_); clear hK K; refine o1_ 13 (rl_ [15, 1]) HT_ fun K hK => ?_; refine goes_ Try.func42 (by kernel_rfl) rfl #[.slice Bj A9.length Bk, .slice Cm Bf.length Cn, .slice A1 (l1.take 11).length c1, .slice Dt (l1.drop 11).length (c1 - 11)] (by rfl) rfl rfl (by (try simp only [List.map_toArray, List.map_cons, List.map_nil]); first | done | (rw [show (l1.take 11).length = 11 from (by rw [List.length_take]; have h_ : (11 : Int) ≤ (l1.length : Int) := od_; omega)] <;> rfl) | (rw [show (l1.drop 11).length = (l1.length - 11) from List.length_drop] <;> rfl) | rfl | (simp only [List.length_drop, List.length_take]; rfl)) ?_
      with_reducible refine (impl_OpenText.calls k _ _ A9 _ _ Bf _ _ (l1.take 11) _ _ (l1.drop 11) Ci Cj _ ?_ ?_ ?_ ?_ ?_ ?_ ?_ ?_ Dr.out).mono ?_
      exact cr_ Ac; exact cl_ Ac; exact cr_ Am; exact cl_ Am; exact ca_ (Kd.C_below B3.out HB.out); exact Ck.out; exact ca_ (Kd.C_below B4.out HB.out); exact Cl.out; rintro e D9 ⟨Ch, rfl, Bm, hb⟩; refine ⟨_, rfl, ?_⟩; replace Ab := rv_ Ab hb; replace Ac := rv_ Ac hb; replace Am := rv_ Am hb; have A7 := A_ (Kd.R_lower Bm (below_size below_a)); replace Al := bw_ Aj hb; replace Ag := bw_ Af hb; replace Ap := bw_ Ao hb; replace Ah := bw_ Ae hb; replace Ak := bw_ Ai hb; replace Bb := bw_ An hb; replace HB := bs_ hb; (try clear hb Bm); refine k1_ hK (by3_ Ak.out (bz4_ Ah.out)) (fun hHeld => ?_); clear hK K; exact nm_ (hCont (.slice Cm Bf.length Cn, Ch, An) _ ⟨hHeld, (R_a Ab.out), (R_a Ac.out), (R_a Am.out), (R_a A7.out), blk_a, blk_a, blk_a, blk_a, blk_a, blk_a, A8.out, A8.out, Ax.out, Aq.out, Ar.out, As.out, Ay.out, Au.out, Aa.out, Av.out, Ad.out, Aw.out, below_a⟩)
     refine b1_ 9 #[.int .i64 0, .slice none 0 0] 48 ?_; intro An hg Eh hbox hb; replace Ab := rv_ Ab hb; replace Ac := rv_ Ac hb; have Bb := A_ (hbox); have A8 := gw_ (w := w) hg; obtain ⟨Ax, Aq⟩ := bu_ Aj hg; obtain ⟨Ar, As⟩ := bu_ Af hg; obtain ⟨Ay, Au⟩ := bu_ Ao hg; obtain ⟨Aa, Av⟩ := bu_ Ae hg; obtain ⟨Ad, Aw⟩ := bu_ Ai hg; replace Al := bw_ Aj hb; replace Ag := bw_ Af hb; replace Ap := bw_ Ao hb; replace Ah := bw_ Ae hb; replace Ak := bw_ Ai hb; replace HB := bs_ hb; clear hb hbox hg; refine k1_ hK (by3_ Ak.out (bz4_ Ah.out)) (fun hHeld => ?_); clear hK K; refine o1_ 7 (rl_ [8, 1, 4, 1, 1, 1]) HT_ fun K hK => ?_; refine gs_ Try.func43 #[.int .i64 A5, .int .i64 A6] ?_
     with_reducible refine (impl_NonceOf.calls k A5 A6 Cw Bf _ D5.out).mono ?_
     rintro e Ei ⟨De, rfl, Bm, hb⟩; refine ⟨_, rfl, ?_⟩; replace Ab := rv_ Ab hb; replace Ac := rv_ Ac hb; have Am := A_ (Kd.R_lower Bm (below_size below_a)); replace Al := bw_ Aj hb; replace Ag := bw_ Af hb; replace Ap := bw_ Ao hb; replace Ah := bw_ Ae hb; replace Ak := bw_ Ai hb; replace Bb := bw_ An hb; replace HB := bs_ hb; (try clear hb Bm); obtain ⟨Cm, Cn, Co⟩ := Kd.R_slice Am.out; (first | subst Co | (injection Co with f1_ f2_ f3_; have f4_ := f1_.symm; have f5_ := f3_.symm; clear f1_ f2_ f3_; subst f4_; subst f5_)); refine k1_ hK (by3_ Ak.out (bz4_ Ah.out)) (fun hHeld => ?_); clear hK K; refine p1_ 8 (rl_ [13, 1, 1, 1]) HT_ ?_
     refine o1_ 13 (rl_ [15, 1]) HT_ fun K hK => ?_; refine goes_ Try.func42 (by kernel_rfl) rfl #[.slice Bj A9.length Bk, .slice Cm Bf.length Cn, .slice A1 (l1.take 11).length c1, .slice Dt (l1.drop 11).length (c1 - 11)] (by rfl) rfl rfl (by (try simp only [List.map_toArray, List.map_cons, List.map_nil]); first | done | (rw [show (l1.take 11).length = 11 from (by rw [List.length_take]; have h_ : (11 : Int) ≤ (l1.length : Int) := od_; omega)] <;> rfl) | (rw [show (l1.drop 11).length = (l1.length - 11) from List.length_drop] <;> rfl) | rfl | (simp only [List.length_drop, List.length_take]; rfl)) ?_
     with_reducible refine (impl_OpenText.calls k _ _ A9 _ _ Bf _ _ (l1.take 11) _ _ (l1.drop 11) Ci Cj _ ?_ ?_ ?_ ?_ ?_ ?_ ?_ ?_ Dr.out).mono ?_
     exact cr_ Ac; exact cl_ Ac; exact cr_ Am; exact cl_ Am; exact ca_ (Kd.C_below B3.out HB.out); exact Ck.out; exact ca_ (Kd.C_below B4.out HB.out); exact Cl.out; rintro e D9 ⟨Ch, rfl, Bm, hb⟩; refine ⟨_, rfl, ?_⟩; replace Ab := rv_ Ab hb; replace Ac := rv_ Ac hb; replace Am := rv_ Am hb; have A7 := A_ (Kd.R_lower Bm (below_size below_a)); replace Al := bw_ Aj hb; replace Ag := bw_ Af hb; replace Ap := bw_ Ao hb; replace Ah := bw_ Ae hb; replace Ak := bw_ Ai hb; replace Bb := bw_ An hb; replace HB := bs_ hb; (try clear hb Bm); refine k1_ hK (by3_ Ak.out (bz4_ Ah.out)) (fun hHeld => ?_); clear hK K; exact nm_ (hCont (.slice Cm Bf.length Cn, Ch, An) _ ⟨hHeld, (R_a Ab.out), (R_a Ac.out), (R_a Am.out), (R_a A7.out), blk_a, blk_a, blk_a, blk_a, blk_a, blk_a, A8.out, A8.out, Ax.out, Aq.out, Ar.out, As.out, Ay.out, Au.out, Aa.out, Av.out, Ad.out, Aw.out, below_a⟩)
    rintro ⟨De, Ch, An⟩ Cx ⟨hS_, h0_, h1_, h2_, h3_, h4_, h5_, h6_, h7_, h8_, h9_, h10_, h11_, h12_, h13_, h14_, h15_, h16_, h17_, h18_, h19_, h20_, h21_, h22_⟩
    try dsimp only at hS_ h0_ h1_ h2_ h3_ h4_ h5_ h6_ h7_ h8_ h9_ h10_ h11_ h12_ h13_ h14_ h15_ h16_ h17_ h18_ h19_ h20_ h21_ h22_
    clear Ab Ac Al Ag Ap Ah Ak HB; have Ab := A_ h0_; have Ac := A_ h1_; have Am := A_ h2_; have A7 := A_ h3_; have Al := A_ h4_; have Ag := A_ h5_; have Ap := A_ h6_; have Ah := A_ h7_; have Ak := A_ h8_; have Bb := A_ h9_; have A8 := A_ h10_; have A8 := A_ h11_; have Ax := A_ h12_; have Aq := A_ h13_; have Ar := A_ h14_; have As := A_ h15_; have Ay := A_ h16_; have Au := A_ h17_; have Aa := A_ h18_; have Av := A_ h19_; have Ad := A_ h20_; have Aw := A_ h21_; have HB := A_ h22_; clear h0_ h1_ h2_ h3_ h4_ h5_ h6_ h7_ h8_ h9_ h10_ h11_ h12_ h13_ h14_ h15_ h16_ h17_ h18_ h19_ h20_ h21_ h22_; have hHeld : Cx.cell? ⟨Ai, 0, none⟩ = some (.int .i64 Bs) ∧ Cx.cell? ⟨Ai, 1, none⟩ = some (.int .i64 B0) ∧ Cx.cell? ⟨Ai, 2, none⟩ = some (.slice Bj A9.length Bk) ∧ Cx.cell? ⟨Ae, 0, none⟩ = some (.int .i64 Ba) ∧ Cx.cell? ⟨Ae, 1, none⟩ = some (.int .i64 A5) ∧ Cx.cell? ⟨Ae, 2, none⟩ = some (.int .i64 A6) ∧ Cx.cell? ⟨Ae, 3, none⟩ = some (.slice Bh Bc.length Bi) := hS_; obtain ⟨Du, Dv, Di⟩ := Kd.R_slice A7.out; (first | subst Di | (injection Di with f1_ f2_ f3_; have f4_ := f1_.symm; have f5_ := f3_.symm; clear f1_ f2_ f3_; subst f4_; subst f5_)); refine norm_ (a' := ?_) ?_ ?_; rotate_left
    ·
     simp only [putAll, Act.put, List.setIfInBounds_toArray, List.set_cons_zero, List.set_cons_succ]; rfl
    refine o1_ 15 (rl_ [16]) HT_ fun K hK => ?_; have := bc2_ Bb.out; have := nn_ Ax; have := nn_ Ar; have := nn_ Ay; have := nn_ Aa; have := nn_ Ad; refine skip_ (w1 := ?_) (by rfl) rfl ?_ ?_; rotate_left
    ·
     go_simp
     rfl
    refine hK.out _ _ ⟨((cell_far (p := ⟨An, _, none⟩) Ad.out _).trans (((cell_far (p := ⟨An, _, none⟩) Ad.out _).trans (hHeld.1)))), ((cell_far (p := ⟨An, _, none⟩) Ad.out _).trans (((cell_far (p := ⟨An, _, none⟩) Ad.out _).trans (hHeld.2.1)))), ((cell_far (p := ⟨An, _, none⟩) Ad.out _).trans (((cell_far (p := ⟨An, _, none⟩) Ad.out _).trans (hHeld.2.2.1)))), ((cell_far (p := ⟨An, _, none⟩) Aa.out _).trans (((cell_far (p := ⟨An, _, none⟩) Aa.out _).trans (hHeld.2.2.2.1)))), ((cell_far (p := ⟨An, _, none⟩) Aa.out _).trans (((cell_far (p := ⟨An, _, none⟩) Aa.out _).trans (hHeld.2.2.2.2.1)))), ((cell_far (p := ⟨An, _, none⟩) Aa.out _).trans (((cell_far (p := ⟨An, _, none⟩) Aa.out _).trans (hHeld.2.2.2.2.2.1)))), ((cell_far (p := ⟨An, _, none⟩) Aa.out _).trans (((cell_far (p := ⟨An, _, none⟩) Aa.out _).trans (hHeld.2.2.2.2.2.2))))⟩ (fun hHeld => ?_); clear hK K; refine done_ (done_of HT_.out (by kernel_rfl)) ?_; have := nn_ Aq; have := nn_ As; have := nn_ Au; have := nn_ Av; have := nn_ Aw; have := bc2_ Bb.out
    go_upto_if 54 with (fail)
    have H := Dd.out; clear Dd
    by_cases Dj : Ci = 0
    ·
     rw [if_pos Dj] at H; obtain ⟨Bz, Dk⟩ := be_ Dj; clear Dj; (first | rw [Bz] | (simp only [i64_w, i32_w]; rw [Bz]) | skip); obtain ⟨rfl, rfl, rfl, rfl, rfl⟩ := s5_ H; have := nn_ Aq; have := nn_ As; have := nn_ Au; have := nn_ Av; have := nn_ Aw; have := bc2_ Bb.out; have := nn_ A0; have := nn_ A4; have := nn_ Ce; have := nn_ Cg; have := bc5_ Ap.out; have := nn_ Az; have := nn_ Be; have := nn_ Bo; have := bc5_ Ag.out
     go_wp2
     refine bodyPost_ret (v := .agg #[.int .i64 Bv, .int .i64 Ba, .int .i64 A5, .int .i64 A6, .slice Du Cj.length Dv]) ?_ rfl ?_; exact rc_ Af Try.underlying30; exact ⟨_, eq_a, rp_ A7, below_a⟩
    rw [if_neg Dj] at H; obtain ⟨Bz, Dk⟩ := nb_ Dj; (first | rw [Bz] | (simp only [i64_w, i32_w]; rw [Bz]) | skip); obtain ⟨rfl, rfl, rfl, rfl, rfl⟩ := s5_ H; have := nn_ Az; have := nn_ Bd; have := nn_ Be; have := nn_ Bo; have := nn_ Ar; have := bc5_ Ag.out
    go_wp2
    refine bodyPost_ret (v := .agg #[.int .i64 9, .int .i64 0, .int .i64 0, .int .i64 0, .slice none 0 0]) ?_ rfl ?_; exact rc_ Af Try.underlying30; exact ⟨_, eq_a, by first | exact Kd.R_nil _ _ _ _ _ | exact Kd.N_nil _ _ _ _ _ | exact Kd.V_nil _ _ _ _ _ | exact Kd.Q_nil _ _ _ _ _ | exact Kd.S_nil _ _ _ _ _, below_a⟩
   rw [if_neg Db] at H; obtain ⟨Bx, Dc⟩ := nb_ Db; (first | rw [Bx] | (simp only [i64_w, i32_w]; rw [Bx]) | skip); obtain ⟨rfl, rfl, rfl, rfl, rfl⟩ := s5_ H; have := nn_ Bn; have := nn_ Bp; have := nn_ Bq; have := nn_ Br; have := bc3_ Ak.out; have := nn_ Az; have := nn_ Bd; have := nn_ Be; have := bc5_ Ag.out
   go_wp2
   refine bodyPost_ret (v := .agg #[.int .i64 Bs, .int .i64 0, .int .i64 0, .int .i64 0, .slice none 0 0]) ?_ rfl ?_; exact rc_ Af Try.underlying30; exact ⟨_, eq_a, by first | exact Kd.R_nil _ _ _ _ _ | exact Kd.N_nil _ _ _ _ _ | exact Kd.V_nil _ _ _ _ _ | exact Kd.Q_nil _ _ _ _ _ | exact Kd.S_nil _ _ _ _ _, below_a⟩
  rw [if_neg C8] at H; obtain ⟨Bw, C9⟩ := nb_ C8; (first | rw [Bw] | (simp only [i64_w, i32_w]; rw [Bw]) | skip); obtain ⟨rfl, rfl, rfl, rfl, rfl⟩ := s5_ H; have := nn_ A0; have := nn_ A4; have := bc5_ Ap.out; have := nn_ Az; have := bc5_ Ag.out
  go_wp2
  refine bodyPost_ret (results_cell_row rfl _ _ Af 30 #[.int .i64 Bv, .int .i64 Ba, .int .i64 A5, .int .i64 A6, .slice Bh Bc.length Bi] (0, 0) _ rfl (by (with_reducible repeat (first | refine blk_drewN ?_ _ | refine blk_drew ?_ | refine blk_alloc ?_ _)); refine bp5_ (cs := #[.int .i64 0, .int .i64 0, .int .i64 0, .int .i64 0, .slice none 0 0]) ?_ rfl; (iterate 5 ((with_reducible repeat (first | refine blk_drewN ?_ _ | refine blk_drew ?_ | refine blk_alloc ?_ _)); refine blk_far ?_ Bd.out _)); exact bl_ Ag.out) Try.underlying30 rfl (by kernel_rfl)) rfl ?_; exact ⟨_, eq_a, rp_ Ab, below_a⟩
 rw [if_neg C3] at H; obtain ⟨Bu, C4⟩ := nb_ C3; (first | rw [Bu] | (simp only [i64_w, i32_w]; rw [Bu]) | skip); obtain ⟨rfl, rfl, rfl, rfl, rfl⟩ := s5_ H; have := nn_ Az; have := bc5_ Ag.out
 go_wp2
 refine bodyPost_ret (v := .agg #[.int .i64 Cv, .int .i64 0, .int .i64 0, .int .i64 0, .slice none 0 0]) ?_ rfl ?_; exact rc_ Af Try.underlying30; exact ⟨_, eq_a, by first | exact Kd.R_nil _ _ _ _ _ | exact Kd.N_nil _ _ _ _ _ | exact Kd.V_nil _ _ _ _ _ | exact Kd.Q_nil _ _ _ _ _ | exact Kd.S_nil _ _ _ _ _, below_a⟩
def laws_lwBig.f (l0 : List Int) : Option (Bool) := some (decide ((l0.length : Int) > 1048576))
theorem laws_lwBig.calls (A0 : Option Addr) (c0 : Nat) (l0 : List Int) (r : Bool) (w : World) (Aa : Kd.C (Kd.int .u8) w A0 l0.length l0) (Ab : l0.length ≤ c0) (h : laws_lwBig.f l0 = some r) :
  Calls Try.prog 17 #[.slice A0 l0.length c0] w fun e w' => e = .returned (.bool r) ∧ Drawn0 w w' := by
 have Ac := A_ Aa
 have Ad := A_ Ab
 clear Aa Ab
 unfold laws_lwBig.f at h; have H := h; clear h
 obtain rfl := Option.some.inj H
 go_enter Try.func17, Try.ntmps17
 go_wp2
 go_ret
 exact ⟨eq_b, by repeat (first | exact Drawn0.refl _ | apply Drawn0.step)⟩
def IsS118 (w0 W : World) (g : Nat) (f0 : List Int) (f1 : Int) : Prop := ∃ A0 c0, W.heap[g]? = some (.cells #[.slice A0 f0.length c0, .int .i64 f1] 118 (0, 0)) ∧ w0.heap.size ≤ g ∧ Kd.C (Kd.int .u8) w0 A0 f0.length f0
theorem IsS118.grown {w0 W : World} {g : Nat} {f0 : List Int} {f1 : Int} {W1 : World} {row : Option Nat} (h : IsS118 w0 W g f0 f1) (hw : W.grownBy W1 row) (hne : some g ≠ row) : IsS118 w0 W1 g f0 f1 := by
 obtain ⟨A0, c0, hb, hg, hr0⟩ := h
 exact ⟨A0, c0, blk_grown hb hw hne, hg, hr0⟩
theorem IsS118.own_neN {w0 W : World} {g : Nat} {f0 : List Int} {f1 : Int} {α : Type} {d : Kd α} {e : Nat} {base : Nat} {ok : Nat → Prop} {v : Value} {xs : List α} (h : IsS118 w0 W g f0 f1) (ho : Kd.N d e W base ok v xs) (ht : e ≠ 118) : some g ≠ v.ownBlock := by
 obtain ⟨A0, c0, hb, hg, Aa⟩ := h
 exact Kd.N_ne ho hb ht
theorem IsS118.fresh {w0 W : World} {g : Nat} {f0 : List Int} {f1 : Int} (h : IsS118 w0 W g f0 f1) : ∀ k, W.heap.size ≤ k → k ≠ g := by
 obtain ⟨A0, c0, hb, hg, hr0⟩ := h
 exact Kd.freshB hb
theorem IsS118.below {w0 W : World} {g : Nat} {f0 : List Int} {f1 : Int} {W1 : World} (h : IsS118 w0 W g f0 f1) (hw : Below W.heap.size W W1) : IsS118 w0 W1 g f0 f1 := h.grown (grown_of_below hw none) (by simp)
theorem IsS118.alloc {w0 W : World} {g : Nat} {f0 : List Int} {f1 : Int} (h : IsS118 w0 W g f0 f1) (o : Obj) : IsS118 w0 (W.alloc o) g f0 f1 := h.below (below_alloc (Below.refl _ _) o)
theorem IsS118.drewN {w0 W : World} {g : Nat} {f0 : List Int} {f1 : Int} (h : IsS118 w0 W g f0 f1) (m : Nat) : IsS118 w0 (W.drewN m) g f0 f1 := h
theorem IsS118.drew {w0 W : World} {g : Nat} {f0 : List Int} {f1 : Int} (h : IsS118 w0 W g f0 f1) : IsS118 w0 W.drew g f0 f1 := h
theorem IsS118.apart {w0 W : World} {g : Nat} {f0 : List Int} {f1 : Int} {α : Type} {d : Kd α} {e : Nat} {base : Nat} {ok : Nat → Prop} {v : Value} {xs : List α} (h : IsS118 w0 W g f0 f1) (ho : d.R e W base ok v xs) (ht : ∀ q, q ∈ e :: d.E → q ≠ 118) : d.R e W base (fun k => ok k ∧ k ≠ g) v xs := by
 obtain ⟨A0, c0, hb, hg, Aa⟩ := h
 exact Kd.R_types ho hb ht
theorem IsS118.own_ne {w0 W : World} {g : Nat} {f0 : List Int} {f1 : Int} {α : Type} {d : Kd α} {e : Nat} {base : Nat} {ok : Nat → Prop} {v : Value} {xs : List α} (h : IsS118 w0 W g f0 f1) (ho : d.R e W base ok v xs) (ht : e ≠ 118) : some g ≠ v.ownBlock := by
 obtain ⟨A0, c0, hb, hg, Aa⟩ := h
 exact Kd.R_ne ho hb ht
theorem IsS118.apartS {w0 W : World} {g : Nat} {f0 : List Int} {f1 : Int} {α : Type} {d : Kd α} {e : Nat} {base : Nat} {ok : Nat → Prop} {v : Value} {xs : List α} (h : IsS118 w0 W g f0 f1) (ho : d.S e W base ok v xs) (ht : ∀ q, q ∈ e :: d.E → q ≠ 118) : d.S e W base (fun k => ok k ∧ k ≠ g) v xs := by
 obtain ⟨A0, c0, hb, hg, Aa⟩ := h
 exact Kd.S_types ho hb ht
theorem IsS118.own_neS {w0 W : World} {g : Nat} {f0 : List Int} {f1 : Int} {α : Type} {d : Kd α} {e : Nat} {base : Nat} {ok : Nat → Prop} {v : Value} {xs : List α} (h : IsS118 w0 W g f0 f1) (ho : d.S e W base ok v xs) (ht : e ≠ 118) : some g ≠ v.ownBlock := by
 obtain ⟨A0, c0, hb, hg, Aa⟩ := h
 exact Kd.S_ne ho hb ht
theorem IsS118.lt {w0 W : World} {g : Nat} {f0 : List Int} {f1 : Int} (h : IsS118 w0 W g f0 f1) : g < W.heap.size := by
 obtain ⟨A0, c0, hb, hg, hr0⟩ := h
 exact blk_lt hb
theorem IsS118.ge {w0 W : World} {g : Nat} {f0 : List Int} {f1 : Int} (h : IsS118 w0 W g f0 f1) : w0.heap.size ≤ g := by
 obtain ⟨A0, c0, hb, hg, hr0⟩ := h
 exact hg
theorem IsS118.ne_blk {w0 W : World} {g : Nat} {f0 : List Int} {f1 : Int} {a : Nat} {cs : Array Value} {t : TypeId} {fr : Nat × Nat} (h : IsS118 w0 W g f0 f1) (hb2 : W.heap[a]? = some (.cells cs t fr)) (ht : t ≠ 118) : g ≠ a := by
 obtain ⟨A0, c0, hb, hg, Aa⟩ := h
 rintro rfl
 rw [hb] at hb2
 injection hb2 with hb2
 injection hb2 with _ ht2
 exact ht ht2.symm
theorem IsS118.far {w0 W : World} {g : Nat} {f0 : List Int} {f1 : Int} {p : Addr} (h : IsS118 w0 W g f0 f1) (hne : g ≠ p.block) (u : Value) : IsS118 w0 (W.setCell p u) g f0 f1 := by
 obtain ⟨A0, c0, hb, hg, hr0⟩ := h
 exact ⟨A0, c0, blk_far hb hne u, hg, hr0⟩
theorem cellS118_0 {W : World} {g : Nat} {A0 : Option Addr} {c0 : Nat} {f0 : List Int} {f1 : Int} (h : W.heap[g]? = some (.cells #[.slice A0 f0.length c0, .int .i64 f1] 118 (0, 0))) : W.cell? ⟨g, 0, none⟩ = some (.slice A0 f0.length c0) := (blk_cell h 0).trans rfl
theorem cellS118_1 {W : World} {g : Nat} {A0 : Option Addr} {c0 : Nat} {f0 : List Int} {f1 : Int} (h : W.heap[g]? = some (.cells #[.slice A0 f0.length c0, .int .i64 f1] 118 (0, 0))) : W.cell? ⟨g, 1, none⟩ = some (.int .i64 f1) := (blk_cell h 1).trans rfl
theorem IsS118.set_1 {w0 W : World} {g : Nat} {f0 : List Int} {f1 : Int} (h : IsS118 w0 W g f0 f1) (x : Int) : IsS118 w0 (W.setCell ⟨g, 1, none⟩ (.int .i64 x)) g f0 x := by
 obtain ⟨A0, c0, hb, hg, hr0⟩ := h
 exact ⟨A0, c0, by simpa using blk_set hb 1 (.int .i64 x), hg, hr0⟩
theorem IsS118.a {w0 W : World} {g : Nat} {f0 : List Int} {f1 : Int} (h : IsS118 w0 W g f0 f1 := by repeat (first | (with_reducible first | exact Aside0.out (by assumption) | apply IsS118.alloc | apply IsS118.drewN | apply IsS118.drew | apply IsS118.set_1 | refine IsS118.far ?_ (Aside0.out (by assumption)) _) | exact Aside0.out (by assumption))) : IsS118 w0 W g f0 f1 := h
theorem below_j {n : Nat} {w W0 W : World} (k : Aside0 (Below n w W0)) (h : Below n w W := by repeat (first | (with_reducible first | exact HB.out | apply below_alloc | apply pw_below_drewN | apply below_drew1 | refine below_set ?_ (Aside0.out (by assumption)) | refine below_set ?_ (IsS118.ge (Aside0.out (by assumption)))) | exact HB.out)) : Below n w W := h
theorem below_i {n : Nat} {w W : World} (h : Below n w W := by exact below_j HB) : Below n w W := h
theorem rk_ {w0 W0 W W1 w1 : World} {g : Nat} {f0 : List Int} {f1 : Int} {α : Type} {d : Kd α} {e base : Nat} {ok : Nat → Prop} {v : Value} {xs : List α} (HI : Aside0 (IsS118 w0 W0 g f0 f1)) (ho : Aside0 (d.R e W1 base ok v xs)) (hk : KeepBut W w1 g none) (s : IsS118 w0 W g f0 f1 := by exact IsS118.a) (r : rs_ d e W1 W := by exact rs_a) (ht : ∀ q, q ∈ e :: d.E → q ≠ 118 := by decide) : Aside0 (d.R e w1 base ok v xs) := ⟨Kd.R_mono (Kd.R_keep (IsS118.apart s (r _ _ _ _ ho.out) ht) hk (fun _ h => h.2)) (fun _ h => h.1)⟩
def spec_l1Source.f (l0 : List Int) : Option (List Int × Int) := some (l0, 0)
theorem spec_l1Source.calls (A0 : Option Addr) (c0 : Nat) (l0 : List Int) (r1 : List Int) (r2 : Int) (w0 w : World) (hB : Below w0.heap.size w0 w) (Ad : Kd.C (Kd.int .u8) w0 A0 l0.length l0) (Ae : l0.length ≤ c0) (h : spec_l1Source.f l0 = some (r1, r2)) :
  Calls Try.prog 49 #[.slice A0 l0.length c0] w fun e w' => ∃ g_ : Nat, e = .returned (.pointer (some ⟨g_, 0, none⟩)) ∧ IsS118 w0 w' g_ r1 r2 ∧ Below w0.heap.size w0 w' ∧ Below w.heap.size w w' := by
 have hu118 := Try.underlying118
 have Ag := A_ Ad
 have Ah := A_ Ae
 clear Ad Ae
 have HBW := A_ (Below.refl w.heap.size w)
 have HW0 := A_ hB.size
 have HB := A_ hB
 clear hB
 unfold spec_l1Source.f at h; have H := h; clear h
 simp only [Option.some.injEq, Prod.mk.injEq] at H
 obtain ⟨rfl, rfl⟩ := H
 go_enter Try.func49, Try.ntmps49
 go_wp2_with (first | ((with_reducible refine d1_ 5 ?_); refine by_ 5 (#[.slice A0 l0.length c0, .int .i64 0]) 118 ?_; intro Aa hg w2 hbox hb; have n0_ := A_ (below_step HBW.out hb); have Af := A_ (hbox); have Ab := A_ ((by rw [hg]; exact (below_size (by repeat (first | (with_reducible first | exact HBW.out | apply below_alloc | apply pw_below_drewN | apply below_drew1) | exact HBW.out))) : w.heap.size ≤ Aa)); have Ac := A_ ((Nat.le_trans HW0.out (by rw [hg]; exact (below_size (by repeat (first | (with_reducible first | exact HBW.out | apply below_alloc | apply pw_below_drewN | apply below_drew1) | exact HBW.out))) : w.heap.size ≤ Aa) : w0.heap.size ≤ Aa)); replace HBW := n0_; replace HB := bs_ hb; clear n0_; clear hb hbox hg))
 go_ret
 exact ⟨_, rfl, (show IsS118 w0 _ Aa l0 0 from ⟨_, _, blk_a, Ac.out, Ag.out⟩), below_a, by repeat (first | (with_reducible first | exact HBW.out | apply below_alloc | apply pw_below_drewN | apply below_drew1 | refine below_set ?_ Ab.out) | exact HBW.out)⟩
def spec_l1Next.f (Aa : List Int) (Ab : Int) (a1 : Int) : Option (Int × Int) := if a1 < 1 then (some (0, wrap64 (Ab + 1))) else (if (Aa.length : Int) = 0 then (if a1 = 0 then (none) else (some (Int.tmod (wrap64 ((wrap64 ((wrap64 (Ab + 1)) - 1)) * 7)) a1, wrap64 (Ab + 1)))) else (if 0 ≤ (Int.tmod (wrap64 ((wrap64 (Ab + 1)) - 1)) (Aa.length : Int)) then (if (Int.tmod (wrap64 ((wrap64 (Ab + 1)) - 1)) (Aa.length : Int)) < (Aa.length : Int) then (if a1 > 200 then (if 0 ≤ (Int.tmod (wrap64 ((wrap64 ((wrap64 (Ab + 1)) - 1)) + 1)) (Aa.length : Int)) then (if (Int.tmod (wrap64 ((wrap64 ((wrap64 (Ab + 1)) - 1)) + 1)) (Aa.length : Int)) < (Aa.length : Int) then (if a1 > 60000 then (if 0 ≤ (Int.tmod (wrap64 ((wrap64 ((wrap64 (Ab + 1)) - 1)) + 2)) (Aa.length : Int)) then (if (Int.tmod (wrap64 ((wrap64 ((wrap64 (Ab + 1)) - 1)) + 2)) (Aa.length : Int)) < (Aa.length : Int) then (if a1 = 0 then (none) else (some (Int.tmod (wrap64 ((wrap64 ((wrap64 ((wrap64 ((wrap64 ((wrap64 ((wrap64 (rd Aa (Int.tmod (wrap64 ((wrap64 (Ab + 1)) - 1)) (Aa.length : Int)))) + (wrap64 ((wrap64 (Int.tdiv (wrap64 ((wrap64 (Ab + 1)) - 1)) (Aa.length : Int))) * 37)))) * 251)) + (wrap64 ((wrap64 (rd Aa (Int.tmod (wrap64 ((wrap64 ((wrap64 (Ab + 1)) - 1)) + 1)) (Aa.length : Int)))) * 13)))) + (wrap64 ((wrap64 (Ab + 1)) - 1)))) * 257)) + (wrap64 (rd Aa (Int.tmod (wrap64 ((wrap64 ((wrap64 (Ab + 1)) - 1)) + 2)) (Aa.length : Int)))))) a1, wrap64 (Ab + 1)))) else (none)) else (none)) else (if a1 = 0 then (none) else (some (Int.tmod (wrap64 ((wrap64 ((wrap64 ((wrap64 ((wrap64 (rd Aa (Int.tmod (wrap64 ((wrap64 (Ab + 1)) - 1)) (Aa.length : Int)))) + (wrap64 ((wrap64 (Int.tdiv (wrap64 ((wrap64 (Ab + 1)) - 1)) (Aa.length : Int))) * 37)))) * 251)) + (wrap64 ((wrap64 (rd Aa (Int.tmod (wrap64 ((wrap64 ((wrap64 (Ab + 1)) - 1)) + 1)) (Aa.length : Int)))) * 13)))) + (wrap64 ((wrap64 (Ab + 1)) - 1)))) a1, wrap64 (Ab + 1))))) else (none)) else (none)) else (if a1 > 60000 then (if 0 ≤ (Int.tmod (wrap64 ((wrap64 ((wrap64 (Ab + 1)) - 1)) + 2)) (Aa.length : Int)) then (if (Int.tmod (wrap64 ((wrap64 ((wrap64 (Ab + 1)) - 1)) + 2)) (Aa.length : Int)) < (Aa.length : Int) then (if a1 = 0 then (none) else (some (Int.tmod (wrap64 ((wrap64 ((wrap64 ((wrap64 (rd Aa (Int.tmod (wrap64 ((wrap64 (Ab + 1)) - 1)) (Aa.length : Int)))) + (wrap64 ((wrap64 (Int.tdiv (wrap64 ((wrap64 (Ab + 1)) - 1)) (Aa.length : Int))) * 37)))) * 257)) + (wrap64 (rd Aa (Int.tmod (wrap64 ((wrap64 ((wrap64 (Ab + 1)) - 1)) + 2)) (Aa.length : Int)))))) a1, wrap64 (Ab + 1)))) else (none)) else (none)) else (if a1 = 0 then (none) else (some (Int.tmod (wrap64 ((wrap64 (rd Aa (Int.tmod (wrap64 ((wrap64 (Ab + 1)) - 1)) (Aa.length : Int)))) + (wrap64 ((wrap64 (Int.tdiv (wrap64 ((wrap64 (Ab + 1)) - 1)) (Aa.length : Int))) * 37)))) a1, wrap64 (Ab + 1)))))) else (none)) else (none)))
theorem spec_l1Next.calls (g : Nat) (Ag : List Int) (Af : Int) (a1 : Int) (r1 : Int) (r2 : Int) (w0 w : World) (hI : IsS118 w0 w g Ag Af) (hB : Below w0.heap.size w0 w) (h : spec_l1Next.f Ag Af a1 = some (r1, r2)) :
  Calls Try.prog 53 #[.pointer (some ⟨g, 0, none⟩), .int .i64 a1] w fun e w' => e = .returned (.int .i64 r1) ∧ IsS118 w0 w' g Ag r2 ∧ Below w0.heap.size w0 w' ∧ KeepBut w w' g none := by
 have Ar := A_ hI
 have HK := A_ (KeepBut.refl w g none)
 have HL := A_ hB.size
 clear hI
 have HW0 := A_ hB.size
 have HB := A_ hB
 clear hB
 unfold spec_l1Next.f at h; have H := h; clear h
 by_cases c3 : a1 < 1
 ·
  rw [if_pos c3] at H; have Bf := decide_eq_true c3; clear c3; obtain ⟨rfl, rfl⟩ := s2_ H; obtain ⟨ASz4_0, cSz4_0, HGz4, hgz4, HSz4_0⟩ := Ar.out; have hcz4_0 := cellS118_0 HGz4; have hcz4_1 := cellS118_1 HGz4; have hfz4_1 := blk_frozen HGz4 1; clear HGz4 hgz4
  go_enter Try.func53, Try.ntmps53
  go_wp2
  repeat (go_quiet (fail); try go_wp2)
  go_ret
  exact ⟨eq_a, IsS118.a, below_i, keep_i⟩
 rw [if_neg c3] at H; have Bf := decide_eq_false c3; clear c3
 by_cases c5 : (Ag.length : Int) = 0
 ·
  rw [if_pos c5] at H; obtain ⟨Bg, Bh⟩ := be_ c5; clear c5
  by_cases c6 : a1 = 0
  ·
   rw [if_pos c6] at H; exact absurd H (by simp)
  rw [if_neg c6] at H; obtain ⟨Ci, Cj⟩ := nb_ c6; obtain ⟨rfl, rfl⟩ := s2_ H; obtain ⟨ASz7_0, cSz7_0, HGz7, hgz7, HSz7_0⟩ := Ar.out; have hcz7_0 := cellS118_0 HGz7; have hcz7_1 := cellS118_1 HGz7; have hfz7_1 := blk_frozen HGz7 1; clear HGz7 hgz7
  go_enter Try.func53, Try.ntmps53
  go_wp2
  repeat (go_quiet (fail); try go_wp2)
  go_ret
  exact ⟨eq_a, IsS118.a, below_i, keep_i⟩
 rw [if_neg c5] at H; obtain ⟨Bg, Bh⟩ := nb_ c5; have Ck : ¬ (Ag = []) := fun h_ => c5 (by rw [h_]; rfl); obtain ⟨Au, hji8⟩ : ∃ j_ : Int, (Int.tmod (wrap64 ((wrap64 (Af + 1)) - 1)) (Ag.length : Int)) = j_ := ⟨_, rfl⟩; first | rw [hji8] at H | simp only [hji8] at H
 obtain ⟨c9, H⟩ := iq_ H; have Cl := decide_eq_true c9; clear c9
 obtain ⟨Bo, H⟩ := iq_ H; have Bp := decide_eq_true Bo; clear Bo
 by_cases A5 : a1 > 200
 ·
  rw [if_pos A5] at H; have A8 := dt_ A5; clear A5; obtain ⟨As, hji12⟩ : ∃ j_ : Int, (Int.tmod (wrap64 ((wrap64 ((wrap64 (Af + 1)) - 1)) + 1)) (Ag.length : Int)) = j_ := ⟨_, rfl⟩; first | rw [hji12] at H | simp only [hji12] at H
  obtain ⟨Bq, H⟩ := iq_ H; have Br := decide_eq_true Bq; clear Bq
  obtain ⟨Bs, H⟩ := iq_ H; have Bt := decide_eq_true Bs; clear Bs
  by_cases A6 : a1 > 60000
  ·
   rw [if_pos A6] at H; have A9 := dt_ A6; clear A6; obtain ⟨Ax, hji16⟩ : ∃ j_ : Int, (Int.tmod (wrap64 ((wrap64 ((wrap64 (Af + 1)) - 1)) + 2)) (Ag.length : Int)) = j_ := ⟨_, rfl⟩; first | rw [hji16] at H | simp only [hji16] at H
   obtain ⟨Bu, H⟩ := iq_ H; have Bv := decide_eq_true Bu; clear Bu
   obtain ⟨Bw, H⟩ := iq_ H; have Bx := decide_eq_true Bw; clear Bw
   by_cases Bi : a1 = 0
   ·
    rw [if_pos Bi] at H; exact absurd H (by simp)
   rw [if_neg Bi] at H; obtain ⟨Bz, B0⟩ := nb_ Bi; obtain ⟨rfl, rfl⟩ := s2_ H; obtain ⟨ASz20_0, cSz20_0, HGz20, hgz20, HSz20_0⟩ := Ar.out; have hcz20_0 := cellS118_0 HGz20; have hcz20_1 := cellS118_1 HGz20; have hfz20_1 := blk_frozen HGz20 1; clear HGz20 hgz20; have Aj : 0 ≤ ((Au) : Int) := od_; have Ak : (Au) < (Ag.length : Int) := od_; obtain ⟨Ae, Ao, Aa⟩ := Kd.at_int HSz20_0 (Au) Aj Ak
   cases Ao
   have Ab : Ae.block ≠ g := Nat.ne_of_lt (Nat.lt_of_lt_of_le (by have := World.block_lt_of_cell? _ _ Aa; first | rwa [add_block] at this | exact this) (IsS118.ge Ar.out)); replace Aa := pw_cell_below HB.out Aa; replace Aa := (cell_far (p := ⟨g, 1, none⟩) (by first | (rw [add_block]; exact Ab) | (show (Addr.add _ _).block ≠ _; rw [add_block]; exact Ab) | exact Ab) (.int .i64 (wrap64 (Af + 1)))).trans Aa; (try have An := fun (n_ : Nat) => (show (((w.drewN n_).setCell ⟨g, 1, none⟩ (.int .i64 (wrap64 (Af + 1))))).cell? _ = some _ from by simp only [setCell_drewN_, World.cell?_drewN]; exact Aa)); clear Ab; replace Aj := eq_true Aj; replace Ak := eq_true Ak; have Ap : 0 ≤ ((As) : Int) := od_; have Aq : (As) < (Ag.length : Int) := od_; obtain ⟨Av, Ay, Ac⟩ := Kd.at_int HSz20_0 (As) Ap Aq; obtain rfl : Ae = Av := (by injection Ay); have Ad : Ae.block ≠ g := Nat.ne_of_lt (Nat.lt_of_lt_of_le (by have := World.block_lt_of_cell? _ _ Ac; first | rwa [add_block] at this | exact this) (IsS118.ge Ar.out)); replace Ac := pw_cell_below HB.out Ac; replace Ac := (cell_far (p := ⟨g, 1, none⟩) (by first | (rw [add_block]; exact Ad) | (show (Addr.add _ _).block ≠ _; rw [add_block]; exact Ad) | exact Ad) (.int .i64 (wrap64 (Af + 1)))).trans Ac; (try have Aw := fun (n_ : Nat) => (show (((w.drewN n_).setCell ⟨g, 1, none⟩ (.int .i64 (wrap64 (Af + 1))))).cell? _ = some _ from by simp only [setCell_drewN_, World.cell?_drewN]; exact Ac)); clear Ad; replace Ap := eq_true Ap; replace Aq := eq_true Aq; have Az : 0 ≤ ((Ax) : Int) := od_; have A0 : (Ax) < (Ag.length : Int) := od_; obtain ⟨Ba, Bj, Ah⟩ := Kd.at_int HSz20_0 (Ax) Az A0; obtain rfl : Ae = Ba := (by injection Bj); have Al : Ae.block ≠ g := Nat.ne_of_lt (Nat.lt_of_lt_of_le (by have := World.block_lt_of_cell? _ _ Ah; first | rwa [add_block] at this | exact this) (IsS118.ge Ar.out)); replace Ah := pw_cell_below HB.out Ah; replace Ah := (cell_far (p := ⟨g, 1, none⟩) (by first | (rw [add_block]; exact Al) | (show (Addr.add _ _).block ≠ _; rw [add_block]; exact Al) | exact Al) (.int .i64 (wrap64 (Af + 1)))).trans Ah; (try have Bd := fun (n_ : Nat) => (show (((w.drewN n_).setCell ⟨g, 1, none⟩ (.int .i64 (wrap64 (Af + 1))))).cell? _ = some _ from by simp only [setCell_drewN_, World.cell?_drewN]; exact Ah)); clear Al; replace Az := eq_true Az; replace A0 := eq_true A0
   go_enter Try.func53, Try.ntmps53
   go_wp2
   repeat (go_quiet (fail); try go_wp2)
   go_ret
   exact ⟨by first | rfl | (simp [errW_none, errW_some] <;> rfl) | (simp only [← hji8, ← hji12, ← hji16]; first | rfl | (simp [errW_none, errW_some] <;> rfl)) | (simp [*, errW_none, errW_some] <;> rfl), IsS118.a, below_i, keep_i⟩
  rw [if_neg A6] at H; have A9 := df_ A6; clear A6
  by_cases Bk : a1 = 0
  ·
   rw [if_pos Bk] at H; exact absurd H (by simp)
  rw [if_neg Bk] at H; obtain ⟨B3, B4⟩ := nb_ Bk; obtain ⟨rfl, rfl⟩ := s2_ H; obtain ⟨ASz22_0, cSz22_0, HGz22, hgz22, HSz22_0⟩ := Ar.out; have hcz22_0 := cellS118_0 HGz22; have hcz22_1 := cellS118_1 HGz22; have hfz22_1 := blk_frozen HGz22 1; clear HGz22 hgz22; have Aj : 0 ≤ ((Au) : Int) := od_; have Ak : (Au) < (Ag.length : Int) := od_; obtain ⟨Ae, Ao, Aa⟩ := Kd.at_int HSz22_0 (Au) Aj Ak
  cases Ao
  have Ab : Ae.block ≠ g := Nat.ne_of_lt (Nat.lt_of_lt_of_le (by have := World.block_lt_of_cell? _ _ Aa; first | rwa [add_block] at this | exact this) (IsS118.ge Ar.out)); replace Aa := pw_cell_below HB.out Aa; replace Aa := (cell_far (p := ⟨g, 1, none⟩) (by first | (rw [add_block]; exact Ab) | (show (Addr.add _ _).block ≠ _; rw [add_block]; exact Ab) | exact Ab) (.int .i64 (wrap64 (Af + 1)))).trans Aa; (try have An := fun (n_ : Nat) => (show (((w.drewN n_).setCell ⟨g, 1, none⟩ (.int .i64 (wrap64 (Af + 1))))).cell? _ = some _ from by simp only [setCell_drewN_, World.cell?_drewN]; exact Aa)); clear Ab; replace Aj := eq_true Aj; replace Ak := eq_true Ak; have Ap : 0 ≤ ((As) : Int) := od_; have Aq : (As) < (Ag.length : Int) := od_; obtain ⟨Av, Ay, Ac⟩ := Kd.at_int HSz22_0 (As) Ap Aq; obtain rfl : Ae = Av := (by injection Ay); have Ad : Ae.block ≠ g := Nat.ne_of_lt (Nat.lt_of_lt_of_le (by have := World.block_lt_of_cell? _ _ Ac; first | rwa [add_block] at this | exact this) (IsS118.ge Ar.out)); replace Ac := pw_cell_below HB.out Ac; replace Ac := (cell_far (p := ⟨g, 1, none⟩) (by first | (rw [add_block]; exact Ad) | (show (Addr.add _ _).block ≠ _; rw [add_block]; exact Ad) | exact Ad) (.int .i64 (wrap64 (Af + 1)))).trans Ac; (try have Aw := fun (n_ : Nat) => (show (((w.drewN n_).setCell ⟨g, 1, none⟩ (.int .i64 (wrap64 (Af + 1))))).cell? _ = some _ from by simp only [setCell_drewN_, World.cell?_drewN]; exact Ac)); clear Ad; replace Ap := eq_true Ap; replace Aq := eq_true Aq
  go_enter Try.func53, Try.ntmps53
  go_wp2
  repeat (go_quiet (fail); try go_wp2)
  go_ret
  exact ⟨by first | rfl | (simp [errW_none, errW_some] <;> rfl) | (simp only [← hji8, ← hji12]; first | rfl | (simp [errW_none, errW_some] <;> rfl)) | (simp [*, errW_none, errW_some] <;> rfl), IsS118.a, below_i, keep_i⟩
 rw [if_neg A5] at H; have A8 := df_ A5; clear A5
 by_cases A7 : a1 > 60000
 ·
  rw [if_pos A7] at H; have Bb := dt_ A7; clear A7; obtain ⟨A1, hji24⟩ : ∃ j_ : Int, (Int.tmod (wrap64 ((wrap64 ((wrap64 (Af + 1)) - 1)) + 2)) (Ag.length : Int)) = j_ := ⟨_, rfl⟩; first | rw [hji24] at H | simp only [hji24] at H
  obtain ⟨Ca, H⟩ := iq_ H; have Cb := decide_eq_true Ca; clear Ca
  obtain ⟨Cc, H⟩ := iq_ H; have Cd := decide_eq_true Cc; clear Cc
  by_cases Bl : a1 = 0
  ·
   rw [if_pos Bl] at H; exact absurd H (by simp)
  rw [if_neg Bl] at H; obtain ⟨Ce, Cf⟩ := nb_ Bl; obtain ⟨rfl, rfl⟩ := s2_ H; obtain ⟨ASz28_0, cSz28_0, HGz28, hgz28, HSz28_0⟩ := Ar.out; have hcz28_0 := cellS118_0 HGz28; have hcz28_1 := cellS118_1 HGz28; have hfz28_1 := blk_frozen HGz28 1; clear HGz28 hgz28; have Aj : 0 ≤ ((Au) : Int) := od_; have Ak : (Au) < (Ag.length : Int) := od_; obtain ⟨Ae, Ao, Aa⟩ := Kd.at_int HSz28_0 (Au) Aj Ak
  cases Ao
  have Ab : Ae.block ≠ g := Nat.ne_of_lt (Nat.lt_of_lt_of_le (by have := World.block_lt_of_cell? _ _ Aa; first | rwa [add_block] at this | exact this) (IsS118.ge Ar.out)); replace Aa := pw_cell_below HB.out Aa; replace Aa := (cell_far (p := ⟨g, 1, none⟩) (by first | (rw [add_block]; exact Ab) | (show (Addr.add _ _).block ≠ _; rw [add_block]; exact Ab) | exact Ab) (.int .i64 (wrap64 (Af + 1)))).trans Aa; (try have An := fun (n_ : Nat) => (show (((w.drewN n_).setCell ⟨g, 1, none⟩ (.int .i64 (wrap64 (Af + 1))))).cell? _ = some _ from by simp only [setCell_drewN_, World.cell?_drewN]; exact Aa)); clear Ab; replace Aj := eq_true Aj; replace Ak := eq_true Ak; have A3 : 0 ≤ ((A1) : Int) := od_; have A4 : (A1) < (Ag.length : Int) := od_; obtain ⟨Bc, Bm, Ai⟩ := Kd.at_int HSz28_0 (A1) A3 A4; obtain rfl : Ae = Bc := (by injection Bm); have Am : Ae.block ≠ g := Nat.ne_of_lt (Nat.lt_of_lt_of_le (by have := World.block_lt_of_cell? _ _ Ai; first | rwa [add_block] at this | exact this) (IsS118.ge Ar.out)); replace Ai := pw_cell_below HB.out Ai; replace Ai := (cell_far (p := ⟨g, 1, none⟩) (by first | (rw [add_block]; exact Am) | (show (Addr.add _ _).block ≠ _; rw [add_block]; exact Am) | exact Am) (.int .i64 (wrap64 (Af + 1)))).trans Ai; (try have Be := fun (n_ : Nat) => (show (((w.drewN n_).setCell ⟨g, 1, none⟩ (.int .i64 (wrap64 (Af + 1))))).cell? _ = some _ from by simp only [setCell_drewN_, World.cell?_drewN]; exact Ai)); clear Am; replace A3 := eq_true A3; replace A4 := eq_true A4
  go_enter Try.func53, Try.ntmps53
  go_wp2
  repeat (go_quiet (fail); try go_wp2)
  go_ret
  exact ⟨by first | rfl | (simp [errW_none, errW_some] <;> rfl) | (simp only [← hji8, ← hji24]; first | rfl | (simp [errW_none, errW_some] <;> rfl)) | (simp [*, errW_none, errW_some] <;> rfl), IsS118.a, below_i, keep_i⟩
 rw [if_neg A7] at H; have Bb := df_ A7; clear A7
 by_cases Bn : a1 = 0
 ·
  rw [if_pos Bn] at H; exact absurd H (by simp)
 rw [if_neg Bn] at H; obtain ⟨Cg, Ch⟩ := nb_ Bn; obtain ⟨rfl, rfl⟩ := s2_ H; obtain ⟨ASz30_0, cSz30_0, HGz30, hgz30, HSz30_0⟩ := Ar.out; have hcz30_0 := cellS118_0 HGz30; have hcz30_1 := cellS118_1 HGz30; have hfz30_1 := blk_frozen HGz30 1; clear HGz30 hgz30; have Aj : 0 ≤ ((Au) : Int) := od_; have Ak : (Au) < (Ag.length : Int) := od_; obtain ⟨Ae, Ao, Aa⟩ := Kd.at_int HSz30_0 (Au) Aj Ak
 cases Ao
 have Ab : Ae.block ≠ g := Nat.ne_of_lt (Nat.lt_of_lt_of_le (by have := World.block_lt_of_cell? _ _ Aa; first | rwa [add_block] at this | exact this) (IsS118.ge Ar.out)); replace Aa := pw_cell_below HB.out Aa; replace Aa := (cell_far (p := ⟨g, 1, none⟩) (by first | (rw [add_block]; exact Ab) | (show (Addr.add _ _).block ≠ _; rw [add_block]; exact Ab) | exact Ab) (.int .i64 (wrap64 (Af + 1)))).trans Aa; (try have An := fun (n_ : Nat) => (show (((w.drewN n_).setCell ⟨g, 1, none⟩ (.int .i64 (wrap64 (Af + 1))))).cell? _ = some _ from by simp only [setCell_drewN_, World.cell?_drewN]; exact Aa)); clear Ab; replace Aj := eq_true Aj; replace Ak := eq_true Ak
 go_enter Try.func53, Try.ntmps53
 go_wp2
 repeat (go_quiet (fail); try go_wp2)
 go_ret
 exact ⟨by first | rfl | (simp [errW_none, errW_some] <;> rfl) | (simp only [← hji8]; first | rfl | (simp [errW_none, errW_some] <;> rfl)) | (simp [*, errW_none, errW_some] <;> rfl), IsS118.a, below_i, keep_i⟩
def spec_l1Some.l0 : Nat → Int → List Int → List Int → Int → Option (List Int × Int)
 | 0, _, _, _, _ => none
 | k + 1, x1, x5, Aa, Ab => if x1 > 0 then ((spec_l1Next.f Aa Ab 256).bind fun Ac => (if x5.length < 140737488355328 then (spec_l1Some.l0 k (wrap64 (x1 - 1)) (x5 ++ [(Ac.1) % 256]) Aa Ac.2) else (none))) else (some (x5, Ab))
def spec_l1Some.f (k : Nat) (s0_0 : List Int) (s0_1 : Int) (a1 : Int) : Option (List Int × Int) := spec_l1Some.l0 k a1 (([] : List Int)) s0_0 s0_1
theorem spec_l1Some.calls (k : Nat) (g : Nat) (Ab : List Int) (Ah : Int) (a1 : Int) (r1 : List Int) (r2 : Int) (w0 w : World) (hI : IsS118 w0 w g Ab Ah) (hB : Below w0.heap.size w0 w) (h : spec_l1Some.f k Ab Ah a1 = some (r1, r2)) :
  Calls Try.prog 58 #[.pointer (some ⟨g, 0, none⟩), .int .i64 a1] w fun e w' => ∃ v0_ : Value, e = .returned (v0_) ∧ Kd.R (Kd.int .u8) 5 w' w.heap.size (fun _ => True) v0_ r1 ∧ IsS118 w0 w' g Ab r2 ∧ Below w0.heap.size w0 w' ∧ KeepBut w w' g none := by
 have Al := A_ hI
 have HK := A_ (KeepBut.refl w g none)
 have HL := A_ hB.size
 clear hI
 have HW0 := A_ hB.size
 have HB := A_ hB
 clear hB
 unfold spec_l1Some.f at h; have H := h; clear h
 obtain ⟨Am, Ac⟩ : ∃ y_ : List Int, y_ = (([] : List Int)) := ⟨_, rfl⟩
 replace H : (spec_l1Some.l0 k a1 Am Ab Ah) = some (r1, r2) := by first | (rw [Ac]; with_reducible exact H) | (have H2_ := os_ H; rw [Ac]; with_reducible exact H2_) | (have H2_ := os_ H; with_reducible exact H2_) | with_reducible exact H | (rw [Ac]; exact H) | exact H
 have Aj := A_ Ac
 clear Ac
 have H' := A_ H
 clear H
 go_enter Try.func58, Try.ntmps58
 go_wp2_with (first | ((with_reducible refine d1_ 6 ?_); refine Kd.R_lit (Kd.int .u8) _ 5 ?hg (N := 6) ?hd (xs := ([] : List Int)) (inner := []) (ok := fun _ => True) (okp := fun _ => True) ?hr ?hp (fun _ hk => hk) trivial (Below.refl _ _) (Nat.le_refl _) (by simp) ?_; (case hd => rfl); (case hg => rfl); (case hr => go_simp <;> rfl); (case hp => exact (Reps.none _ _)); intro Au w3 An hb hg_ hnew_; clear hg_ hnew_; (first | rw [← Aj.out] at An | (simp only [Int.reduceToNat] at An; rw [← Aj.out] at An)); have Ao := A_ (Kd.R_lower An (keep_size (w := w) (g := g) (row := none) keep_i)); have n1_ := A_ (IsS118.below (IsS118.a) hb); replace HK := A_ (KeepBut.trans keep_i (KeepBut.of_below hb g none) (.inl rfl)); replace HB := A_ (below_step below_i hb); replace Al := n1_; clear n1_; clear hb An))
 go_loopg [1, 5] k (fun kq v1 v5 w' => ∃ (Ae : Int) (Af : List Int) (Aa : Int), v1 = .int .i64 Ae ∧ Aside0 (spec_l1Some.l0 kq Ae Af Ab Aa = some (r1, r2)) ∧ Aside0 (kq ≤ k) ∧ Aside0 (Kd.R (Kd.int .u8) 5 w' w.heap.size (fun _ => True) v5 Af) ∧ Aside0 (IsS118 w0 w' g Ab Aa) ∧ Aside0 (KeepBut w w' g none) ∧ Aside0 (Below w0.heap.size w0 w'))
 case atStart => exact ⟨(a1), (Am), (Ah), eq_b, H', ⟨Nat.le_refl _⟩, ⟨R_a Ao.out⟩, ⟨IsS118.a⟩, ⟨keep_i⟩, ⟨below_i⟩⟩
 case round =>
  clear H'
  try clear p2
  obtain ⟨Ae, Af, Aa, rfl, HA, HK1, Ad, Al, HK, HB⟩ := hrel
  cases gk with
  | zero => exact absurd HA.out (by simp [spec_l1Some.l0])
  | succ k1 =>
   have H := HA.out; clear HA; simp only [spec_l1Some.l0] at H
   by_cases c5 : Ae > 0
   ·
    rw [if_pos c5] at H; have Ar := dt_ c5; clear c5; obtain ⟨⟨Ai, Ak⟩, A6, H⟩ := bj_ H; (try dsimp only at H)
    obtain ⟨c7, H⟩ := iq_ H; have LMc7 := A_ c7; clear c7; obtain ⟨As, Ag⟩ := ey_ (Af ++ [(Ai) % 256] : List Int); (try (with_reducible replace H := os_ H)); (try dsimp only at H); (try rw [← Ag] at H)
    have Ap := A_ Ag; clear Ag; have H' := A_ H; clear H
    go_wp2_with (first | ((with_reducible refine f1_ 53 ?_); refine gl_ (some 13) Try.func53 #[.pointer (some ⟨g, 0, none⟩), .int .i64 256] ?_; (with_reducible refine (spec_l1Next.calls g Ab Aa 256 Ai Ak w0 _ ?_ ?_ A6.out).mono ?_); exact IsS118.a; exact below_i; rintro e w8 ⟨rfl, hi, hb, hk⟩; refine ⟨_, rfl, ?_⟩; replace Ad := rk_ Al Ad hk; replace HK := kt_ hk; replace HB := A_ (hb); replace Al := A_ (hi); (try clear hb hk hi)) | ((with_reducible refine gate_builtin (b := .append) (xs := #[.tmp 11, .tmp 15]) rfl ?_); at_builtin; refine Kd.R_append (Kd.int .u8) w.heap.size rfl (.tmp 11) (.tmp 15) 25 5 (.int .u8 0) 1 rfl Try.underlying25 info5 rfl (by decide) (by omega) u5 Af ((Ai) % 256) [.int .u8 ((Ai) % 256)] (fun _ => True) (fun _ => False) rfl rfl ?aP (fun _ hk => hk.elim) ?aF ?aO (Below.refl _ _) ?aS ?aL ?_; (case aP => exact rfl); (case aF => exact (fun _ _ => trivial)); (case aO => exact (R_a Ad.out)); (case aS => exact (keep_size (w := w) (g := g) (row := none) keep_i)); (case aL => have := LMc7.out; omega); intro Av w9 ho hb hg hat; rw [← Ap.out] at ho; have n0_ := A_ (IsS118.grown (show IsS118 w0 _ g Ab Ak from IsS118.a) hg (IsS118.own_ne Al.out Ad.out (by decide))); replace HB := A_ (below_weaken below_i HL.out hb); replace HK := A_ (KeepBut.trans keep_i (KeepBut.of_grown hg g) (Kd.R_base2 Ad.out)); have Aq := A_ (ho); replace Al := n0_; clear Ad n0_; clear ho hb hg hat))
    go_roundg k1
    case measure => have := HK1.out; omega
    case rel => exact ⟨(wrap64 (Ae - 1)), (As), (Ak), eq_b, H', ⟨by have := HK1.out; omega⟩, ⟨R_a Aq.out⟩, ⟨IsS118.a⟩, ⟨keep_i⟩, ⟨below_i⟩⟩
   rw [if_neg c5] at H; have Ar := df_ c5; clear c5; obtain ⟨rfl, rfl⟩ := s2_ H
   go_wp2
   go_ret
   exact ⟨_, eq_a, R_a Ad.out, IsS118.a, below_i, keep_i⟩
def spec_l1Pick.f (s0_0 : List Int) (s0_1 : Int) (l1 : List Int) : Option (Int × Int) := (spec_l1Next.f s0_0 s0_1 (l1.length : Int)).bind fun bt448 => (if 0 ≤ bt448.1 then (if bt448.1 < (l1.length : Int) then (some (rd l1 bt448.1, bt448.2)) else (none)) else (none))
theorem spec_l1Pick.calls (g : Nat) (Ab : List Int) (Ad : Int) (A1 : Option Addr) (c1 : Nat) (l1 : List Int) (r1 : Int) (r2 : Int) (w0 w : World) (hI : IsS118 w0 w g Ab Ad) (hB : Below w0.heap.size w0 w) (Ak : Kd.C (Kd.int .i64) w A1 l1.length l1) (Al : l1.length ≤ c1) (Ah : ∀ ad, A1 = some ad → 0 < l1.length → ad.block ≠ g) (h : spec_l1Pick.f Ab Ad l1 = some (r1, r2)) :
  Calls Try.prog 59 #[.pointer (some ⟨g, 0, none⟩), .slice A1 l1.length c1] w fun e w' => e = .returned (.int .i64 r1) ∧ IsS118 w0 w' g Ab r2 ∧ Below w0.heap.size w0 w' ∧ KeepBut w w' g none := by
 have An := A_ Ak
 have Ar := A_ Al
 clear Ak Al
 have Ao := A_ hI
 have HK := A_ (KeepBut.refl w g none)
 have HL := A_ hB.size
 clear hI
 have HW0 := A_ hB.size
 have HB := A_ hB
 clear hB
 unfold spec_l1Pick.f at h; have H := h; clear h
 obtain ⟨⟨Ac, Ai⟩, Am, H⟩ := bi_ H
 (try dsimp only at H)
 have A3 := A_ Am
 clear Am
 obtain ⟨c4, H⟩ := iq_ H; have Ap := decide_eq_true c4; clear c4
 obtain ⟨c5, H⟩ := iq_ H; have Aq := decide_eq_true c5; clear c5; obtain ⟨rfl, rfl⟩ := s2_ H
 go_enter Try.func59, Try.ntmps59
 go_wp2_with (first | ((with_reducible refine f1_ 53 ?_); refine gl_ (some 9) Try.func53 #[.pointer (some ⟨g, 0, none⟩), .int .i64 (l1.length : Int)] ?_; (with_reducible refine (spec_l1Next.calls g Ab Ad (l1.length : Int) Ac Ai w0 _ ?_ ?_ A3.out).mono ?_); exact IsS118.a; exact below_i; rintro e w6 ⟨rfl, hi, hb, hk⟩; refine ⟨_, rfl, ?_⟩; replace HK := kt_ hk; replace HB := A_ (hb); replace Ao := A_ (hi); (try clear hb hk hi); have Ae : 0 ≤ (Ac : Int) := od_; have Af : Ac < (l1.length : Int) := od_; obtain ⟨Ag, Aj, Aa⟩ := Kd.at_int An.out Ac Ae Af; cases Aj; replace Aa := keep_cell HK.out Aa (by first | (rw [add_block]; exact Ah _ rfl (by omega)) | exact Ah _ rfl (by omega) | exact Ah Ag rfl (by omega)); replace Ae := eq_true Ae; replace Af := eq_true Af))
 go_ret
 exact ⟨eq_a, IsS118.a, below_i, keep_i⟩
def spec_l4Bytes.l0 : Nat → Int → List Int → Int → Option (List Int)
 | 0, _, _, _ => none
 | k + 1, x0, x3, x4 => if x4 < 16 then (if x3.length < 140737488355328 then (spec_l4Bytes.l0 k x0 (x3 ++ [(wrap64 ((wrap64 (x0 * 37)) + (wrap64 (x4 * 11)))) % 256]) (wrap64 (x4 + 1))) else (none)) else (some x3)
def spec_l4Bytes.f (k : Nat) (a0 : Int) : Option (List Int) := spec_l4Bytes.l0 k a0 (([] : List Int)) 0
theorem spec_l4Bytes.calls (k : Nat) (a0 : Int) (r : List Int) (w : World) (h : spec_l4Bytes.f k a0 = some r) :
  Calls Try.prog 92 #[.int .i64 a0] w fun e w' => ∃ v0_ : Value, e = .returned (v0_) ∧ Kd.R (Kd.int .u8) 5 w' w.heap.size (fun _ => True) v0_ r ∧ Below w.heap.size w w' := by
 have HB := A_ (Below.refl w.heap.size w)
 unfold spec_l4Bytes.f at h; have H := h; clear h
 obtain ⟨Ag, Aa⟩ : ∃ y_ : List Int, y_ = (([] : List Int)) := ⟨_, rfl⟩
 replace H : (spec_l4Bytes.l0 k a0 Ag 0) = some r := by first | (rw [Aa]; with_reducible exact H) | (have H2_ := os_ H; rw [Aa]; with_reducible exact H2_) | (have H2_ := os_ H; with_reducible exact H2_) | with_reducible exact H | (rw [Aa]; exact H) | exact H
 have Ae := A_ Aa
 clear Aa
 have H' := A_ H
 clear H
 go_enter Try.func92, Try.ntmps92
 go_wp2_with (first | ((with_reducible refine d1_ 5 ?_); refine Kd.R_lit (Kd.int .u8) _ 5 ?hg (N := 5) ?hd (xs := ([] : List Int)) (inner := []) (ok := fun _ => True) (okp := fun _ => True) ?hr ?hp (fun _ hk => hk) trivial (Below.refl _ _) (Nat.le_refl _) (by simp) ?_; (case hd => rfl); (case hg => rfl); (case hr => go_simp <;> rfl); (case hp => exact (Reps.none _ _)); intro An w2 Ah hb hg_ hnew_; clear hg_ hnew_; (first | rw [← Ae.out] at Ah | (simp only [Int.reduceToNat] at Ah; rw [← Ae.out] at Ah)); have Ai := A_ (Kd.R_lower Ah (below_size below_a)); replace HB := bs_ hb; clear hb Ah))
 go_loopg [3, 4] k (fun kq v3 v4 w' => ∃ (Ac : List Int) (Ab : Int), v4 = .int .i64 Ab ∧ Aside0 (spec_l4Bytes.l0 kq a0 Ac Ab = some r) ∧ Aside0 (kq ≤ k) ∧ Aside0 (Kd.R (Kd.int .u8) 5 w' w.heap.size (fun _ => True) v3 Ac) ∧ Aside0 (Below w.heap.size w w'))
 case atStart => exact ⟨(Ag), (0), eq_b, H', ⟨Nat.le_refl _⟩, ⟨R_a Ai.out⟩, ⟨below_a⟩⟩
 case round =>
  clear H'
  try clear p2
  obtain ⟨Ac, Ab, rfl, HA, HK1, Af, HB⟩ := hrel
  cases gk with
  | zero => exact absurd HA.out (by simp [spec_l4Bytes.l0])
  | succ k1 =>
   have H := HA.out; clear HA; simp only [spec_l4Bytes.l0] at H
   by_cases c4 : Ab < 16
   ·
    rw [if_pos c4] at H; have Al := decide_eq_true c4; clear c4
    obtain ⟨c5, H⟩ := iq_ H; have LMc5 := A_ c5; clear c5; obtain ⟨Am, Ad⟩ := ey_ (Ac ++ [(wrap64 ((wrap64 (a0 * 37)) + (wrap64 (Ab * 11)))) % 256] : List Int); (try (with_reducible replace H := os_ H)); (try dsimp only at H); (try rw [← Ad] at H)
    have Aj := A_ Ad; clear Ad; have H' := A_ H; clear H
    go_wp2_with (first | ((with_reducible refine gate_builtin (b := .append) (xs := #[.tmp 10, .tmp 17]) rfl ?_); at_builtin; refine Kd.R_append (Kd.int .u8) (w0 := w) w.heap.size rfl (.tmp 10) (.tmp 17) 25 5 (.int .u8 0) 1 rfl Try.underlying25 info5 rfl (by decide) (by omega) u3 Ac ((wrap64 ((wrap64 (a0 * 37)) + (wrap64 (Ab * 11)))) % 256) [.int .u8 ((wrap64 ((wrap64 (a0 * 37)) + (wrap64 (Ab * 11)))) % 256)] (fun _ => True) (fun _ => False) rfl rfl ?aP (fun _ hk => hk.elim) ?aF ?aO ?aB ?aS ?aL ?_; (case aP => exact rfl); (case aB => exact below_a); (case aF => exact (fun _ _ => trivial)); (case aO => exact (R_a Af.out)); (case aS => exact (below_size below_a)); (case aL => have := LMc5.out; omega); intro Ao w6 ho hb hg hat; rw [← Aj.out] at ho; replace HB := A_ (hb); have Ak := A_ (ho); clear Af; clear ho hb hg hat))
    go_roundg k1
    case measure => have := HK1.out; omega
    case rel => exact ⟨(Am), (wrap64 (Ab + 1)), eq_b, H', ⟨by have := HK1.out; omega⟩, ⟨R_a Ak.out⟩, ⟨below_a⟩⟩
   rw [if_neg c4] at H; have Al := decide_eq_false c4; clear c4; obtain rfl := Option.some.inj H
   go_wp2
   go_ret
   exact ⟨_, eq_a, R_a Af.out, below_a⟩
def spec_l4Draw.l0 : Nat → Int → Int → List Int → Int → Int → List (S59) → Option (Int × (List (S59)) × Int)
 | 0, _, _, _, _, _, _ => none
 | k + 1, x4, x5, Ac, Ae, Ad, Aa => if x5 > 0 then ((spec_l4Bytes.f k x4).bind fun Ag => (if Aa.length < 4398046511104 then ((spec_l1Next.f Ac Ae 2).bind fun Af => (spec_l4Draw.l0 k (wrap64 ((wrap64 (x4 + 1)) + Af.1)) (wrap64 (x5 - 1)) Ac Af.2 Ad (Aa ++ [(⟨x4, Ag⟩ : S59)]))) else (none))) else ((spec_l1Next.f Ac Ae (Aa.length : Int)).bind fun Ab => (if 0 ≤ Ab.1 then (if Ab.1 < (Aa.length : Int) then (some ((rd_T59 Aa Ab.1).f0, Aa, Ab.2)) else (none)) else (none)))
def spec_l4Draw.f (k : Nat) (Ac : List Int) (Ad : Int) : Option (Int × (List (S59)) × Int) := (spec_l1Pick.f Ac Ad (([1, 2, 5] : List Int))).bind fun Aa => ((spec_l1Pick.f Ac Aa.2 (([1, 2, 2, 3] : List Int))).bind fun Ab => (spec_l4Draw.l0 k Aa.1 Ab.1 Ac Ab.2 0 ([] : List (S59))))
def spec_l4Draw.T6 : Bool × List (List Nat × List Nat) := (true, [([], []), ([0], [0]), ([], []), ([], []), ([3], [3]), ([2, 4], [2, 4]), ([5], [5]), ([1, 6, 4], [1, 6]), ([0, 1, 2, 3, 4, 5, 6, 7], []), ([8, 7, 7, 0, 1, 2, 3, 4, 5, 6, 7], [7, 8])])
def spec_l4Draw.B6 : List Nat := [0, 1, 0, 0, 8, 28, 60, 127, 255, 511]
theorem spec_l4Draw.tab6 : rtab .any (opsOf Try.f60 6) = spec_l4Draw.T6 := by kernel_rfl
theorem spec_l4Draw.bits6 : waitsOk spec_l4Draw.T6.2 spec_l4Draw.B6 = true := by kernel_rfl
def spec_l4Draw.T8 : Bool × List (List Nat × List Nat) := (true, [([], []), ([0], [0]), ([], []), ([], []), ([3], [3]), ([4], [4]), ([2, 5], [2, 5]), ([1, 6], [1, 6]), ([7], [7]), ([8], [8]), ([0, 1, 2, 3, 4, 5, 6, 7, 8, 9], []), ([10, 9, 6, 0, 1, 2, 3, 4, 5, 6, 7, 8, 9], [9, 10])])
def spec_l4Draw.B8 : List Nat := [0, 1, 0, 0, 8, 24, 60, 127, 255, 511, 1023, 2047]
theorem spec_l4Draw.tab8 : rtab .any (opsOf Try.f60 8) = spec_l4Draw.T8 := by kernel_rfl
theorem spec_l4Draw.bits8 : waitsOk spec_l4Draw.T8.2 spec_l4Draw.B8 = true := by kernel_rfl
theorem spec_l4Draw.calls (k : Nat) (g : Nat) (Ag : List Int) (As : Int) (r1 : Int) (r2 : List (S59)) (r3 : Int) (w0 w : World) (hI : IsS118 w0 w g Ag As) (hB : Below w0.heap.size w0 w) (h : spec_l4Draw.f k Ag As = some (r1, r2, r3)) :
  Calls Try.prog 60 #[.pointer (some ⟨g, 0, none⟩)] w fun e w' => ∃ v1_ : Value, e = .returned (.agg #[.int .i64 r1, v1_]) ∧ Kd.S k59 59 w' w.heap.size (fun _ => True) v1_ r2 ∧ IsS118 w0 w' g Ag r3 ∧ Below w0.heap.size w0 w' ∧ KeepBut w w' g none := by
 have hu34 := Try.underlying34
 have hu59 := Try.underlying59
 have Ak := A_ hI
 have HK := A_ (KeepBut.refl w g none)
 have HL := A_ hB.size
 clear hI
 have HW0 := A_ hB.size
 have HB := A_ hB
 clear hB
 unfold spec_l4Draw.f at h; have H := h; clear h
 obtain ⟨Bl, Ax⟩ : ∃ y_ : List Int, y_ = (([1, 2, 5] : List Int)) := ⟨_, rfl⟩
 replace H : ((spec_l1Pick.f Ag As Bl).bind fun Bi => ((spec_l1Pick.f Ag Bi.2 (([1, 2, 2, 3] : List Int))).bind fun Ay => (spec_l4Draw.l0 k Bi.1 Ay.1 Ag Ay.2 0 ([] : List (S59))))) = some (r1, r2, r3) := by first | (rw [Ax]; with_reducible exact H) | (have H2_ := os_ H; rw [Ax]; with_reducible exact H2_) | (have H2_ := os_ H; with_reducible exact H2_) | with_reducible exact H | (rw [Ax]; exact H) | exact H
 have Bj := A_ Ax
 clear Ax
 obtain ⟨⟨Bm, Bn⟩, Cg, H⟩ := bi_ H
 (try dsimp only at H)
 have A2 := A_ Cg
 clear Cg
 obtain ⟨Bo, Az⟩ : ∃ y_ : List Int, y_ = (([1, 2, 2, 3] : List Int)) := ⟨_, rfl⟩
 replace H : ((spec_l1Pick.f Ag Bn Bo).bind fun Ay => (spec_l4Draw.l0 k Bm Ay.1 Ag Ay.2 0 ([] : List (S59)))) = some (r1, r2, r3) := by first | (rw [Az]; with_reducible exact H) | (have H2_ := os_ H; rw [Az]; with_reducible exact H2_) | (have H2_ := os_ H; with_reducible exact H2_) | with_reducible exact H | (rw [Az]; exact H) | exact H
 have Bk := A_ Az
 clear Az
 obtain ⟨⟨Bx, Bz⟩, Cv, H⟩ := bi_ H
 (try dsimp only at H)
 have A3 := A_ Cv
 clear Cv
 have H' := A_ H
 clear H
 go_enter Try.func60, Try.ntmps60
 go_wp2_with (first | ((with_reducible refine d1_ 2 ?_); refine by_ 2 (#[.int .i64 0, .slice none 0 0]) 34 ?_; intro Ae hg w4 hbox hb; have n0_ := A_ (IsS118.below (IsS118.a) hb); have n1_ := A_ (KeepBut.trans keep_i (KeepBut.of_below hb g none) (.inl rfl)); replace HB := A_ (below_step below_i hb); have Af := A_ (hbox); have Cw := A_ ((by rw [hg]; exact (keep_size (w := w) (g := g) (row := none) keep_i) : w.heap.size ≤ Ae)); have Cx := A_ ((Nat.le_trans HW0.out (by rw [hg]; exact (keep_size (w := w) (g := g) (row := none) keep_i) : w.heap.size ≤ Ae) : w0.heap.size ≤ Ae)); have Ch := A_ ((by rw [hg]; exact Nat.ne_of_lt (IsS118.lt (show IsS118 w0 _ g Ag As from IsS118.a)) : g ≠ Ae)); have Bd := A_ ((by rw [hg]; exact Nat.ne_of_gt (IsS118.lt (show IsS118 w0 _ g Ag As from IsS118.a)) : Ae ≠ g)); replace Ak := n0_; replace HK := n1_; clear n0_ n1_; clear hb hbox hg) | ((with_reducible refine d1_ 3 ?_); refine by_ 3 (#[.int .i64 0, .slice none 0 0]) 34 ?_; intro Ad hg w5 hbox hb; have n0_ := A_ (IsS118.below (IsS118.a) hb); have n2_ := A_ (KeepBut.trans keep_i (KeepBut.of_below hb g none) (.inl rfl)); replace HB := A_ (below_step below_i hb); have Ac := A_ (hbox); have Cy := A_ ((by rw [hg]; exact (keep_size (w := w) (g := g) (row := none) keep_i) : w.heap.size ≤ Ad)); have Cz := A_ ((Nat.le_trans HW0.out (by rw [hg]; exact (keep_size (w := w) (g := g) (row := none) keep_i) : w.heap.size ≤ Ad) : w0.heap.size ≤ Ad)); obtain ⟨Ao, Ap⟩ := bu_ Ae hg; have Ci := A_ ((by rw [hg]; exact Nat.ne_of_lt (IsS118.lt (show IsS118 w0 _ g Ag As from IsS118.a)) : g ≠ Ad)); have Au := A_ ((by rw [hg]; exact Nat.ne_of_gt (IsS118.lt (show IsS118 w0 _ g Ag As from IsS118.a)) : Ad ≠ g)); replace Ak := n0_; replace Af := bw_ Ae hb; replace HK := n2_; clear n0_ n2_; clear hb hbox hg; have := nn_ Ap; have := nn_ Au; obtain ⟨hcz8_0, hcz8_1, hfz8_0, hfz8_1⟩ := bc2_ Ac.out) | ((with_reducible refine d1_ 8 ?_); refine Kd.R_lit (Kd.int .i64) _ 2 ?hg (N := 8) ?hd (xs := ([1, 2, 5] : List Int)) (inner := [.int .i64 1, .int .i64 2, .int .i64 5]) (ok := fun _ => True) (okp := fun _ => True) ?hr ?hp (fun _ hk => hk) trivial (Below.refl _ _) (Nat.le_refl _) (by simp) ?_; (case hd => rfl); (case hg => rfl); (case hr => go_simp <;> rfl); (case hp => exact (Reps.one (show Kd.M (Kd.int .i64) _ _ _ 1 [.int .i64 1] from rfl) (Reps.one (show Kd.M (Kd.int .i64) _ _ _ 2 [.int .i64 2] from rfl) (Reps.one (show Kd.M (Kd.int .i64) _ _ _ 5 [.int .i64 5] from rfl) (Reps.none _ _))))); intro C6 w9 A9 hb hg_ hnew_; clear hg_ hnew_; (first | rw [← Bj.out] at A9 | (simp only [Int.reduceToNat] at A9; rw [← Bj.out] at A9)); have Aj := A_ (Kd.R_lower A9 (keep_size (w := w) (g := g) (row := none) keep_i)); have n1_ := A_ (IsS118.below (show IsS118 w0 ((w5.setCell ⟨Ad, 0, none⟩ (.int .i64 0)).setCell ⟨Ad, 1, none⟩ (.slice none 0 0)) g Ag As from IsS118.a) hb); replace Af := bw_ Ae hb; replace Ac := A_ (blk_below (g := Ad) (o := .cells #[.int .i64 0, .slice none 0 0] 34 (0, 0)) blk_a hb); replace HK := A_ (KeepBut.trans keep_i (KeepBut.of_below hb g none) (.inl rfl)); replace HB := A_ (below_step below_i hb); replace Ak := n1_; clear n1_; clear hb A9; obtain ⟨Cm, Cn, Co⟩ := Kd.R_slice Aj.out; subst Co) | ((with_reducible refine f1_ 59 ?_); refine gl_ (some 9) Try.func59 #[.pointer (some ⟨g, 0, none⟩), .slice Cm Bl.length Cn] ?_; (with_reducible refine (spec_l1Pick.calls g Ag As _ _ Bl Bm Bn w0 _ ?_ ?_ ?_ ?_ ?_ A2.out).mono ?_); exact IsS118.a; exact below_i; exact cr_ Aj; exact cl_ Aj; exact far_slice (IsS118.own_ne Ak.out Aj.out (by decide)); rintro e Dd ⟨rfl, hi, hb, hk⟩; refine ⟨_, rfl, ?_⟩; replace Ac := kb_ Ad hk; replace Aj := rk_ Ak Aj hk; replace HK := kt_ hk; replace HB := A_ (hb); replace Ak := A_ (hi); replace Af := kb_ Ae hk; (try clear hb hk hi)) | ((with_reducible refine d1_ 11 ?_); refine Kd.R_lit (Kd.int .i64) _ 2 ?hg (N := 11) ?hd (xs := ([1, 2, 2, 3] : List Int)) (inner := [.int .i64 1, .int .i64 2, .int .i64 2, .int .i64 3]) (ok := fun _ => True) (okp := fun _ => True) ?hr ?hp (fun _ hk => hk) trivial (Below.refl _ _) (Nat.le_refl _) (by simp) ?_; (case hd => rfl); (case hg => rfl); (case hr => go_simp <;> rfl); (case hp => exact (Reps.one (show Kd.M (Kd.int .i64) _ _ _ 1 [.int .i64 1] from rfl) (Reps.one (show Kd.M (Kd.int .i64) _ _ _ 2 [.int .i64 2] from rfl) (Reps.one (show Kd.M (Kd.int .i64) _ _ _ 2 [.int .i64 2] from rfl) (Reps.one (show Kd.M (Kd.int .i64) _ _ _ 3 [.int .i64 3] from rfl) (Reps.none _ _)))))); intro C7 De A7 hb hg_ hnew_; clear hg_ hnew_; (first | rw [← Bk.out] at A7 | (simp only [Int.reduceToNat] at A7; rw [← Bk.out] at A7)); have n0_ := re_ Aj hb (Kd.R_base A7); have Aq := A_ (Kd.R_lower (Kd.R_new' A7 (Kd.R_lt (R_a Aj.out))) (keep_size (w := w) (g := g) (row := none) keep_i)); have n2_ := A_ (IsS118.below (IsS118.a) hb); replace Af := bw_ Ae hb; replace Ac := bw_ Ad hb; replace HK := A_ (KeepBut.trans keep_i (KeepBut.of_below hb g none) (.inl rfl)); replace HB := A_ (below_step below_i hb); replace Aj := n0_; replace Ak := n2_; clear n0_ n2_; clear hb A7; obtain ⟨Cp, Cq, Cr⟩ := Kd.R_slice Aq.out; subst Cr) | ((with_reducible refine f1_ 59 ?_); refine gl_ (some 12) Try.func59 #[.pointer (some ⟨g, 0, none⟩), .slice Cp Bo.length Cq] ?_; (with_reducible refine (spec_l1Pick.calls g Ag Bn _ _ Bo Bx Bz w0 _ ?_ ?_ ?_ ?_ ?_ A3.out).mono ?_); exact IsS118.a; exact below_i; exact cr_ Aq; exact cl_ Aq; exact far_slice (IsS118.own_ne Ak.out Aq.out (by decide)); rintro e Df ⟨rfl, hi, hb, hk⟩; refine ⟨_, rfl, ?_⟩; replace Ac := kb_ Ad hk; replace Aj := rk_ Ak Aj hk; replace Aq := rk_ Ak Aq hk; replace HK := kt_ hk; replace HB := A_ (hb); replace Ak := A_ (hi); replace Af := kb_ Ae hk; (try clear hb hk hi)))
 go_loopg [4, 5] k (fun kq v4 v5 w' => ∃ (An : Int) (Ba : Int) (Ah : Int) (Ab : List (S59)) (Ai : Value), v4 = .int .i64 An ∧ v5 = .int .i64 Ba ∧ Aside0 (spec_l4Draw.l0 kq An Ba Ag Ah 0 Ab = some (r1, r2, r3)) ∧ Aside0 (kq ≤ k) ∧ Aside0 (Kd.S k59 59 w' w.heap.size (fun _ => True) Ai Ab) ∧ Aside0 (w'.heap[Ae]? = some (.cells #[.int .i64 0, (.slice none 0 0)] 34 (0, 0))) ∧ Aside0 (w'.heap[Ad]? = some (.cells #[.int .i64 0, Ai] 34 (0, 0))) ∧ Aside0 (IsS118 w0 w' g Ag Ah) ∧ Aside0 (KeepBut w w' g none) ∧ Aside0 (Below w0.heap.size w0 w'))
 case atStart => exact ⟨(Bm), (Bx), (Bz), (([] : List (S59))), (.slice none 0 0), eq_b, eq_b, H', ⟨Nat.le_refl _⟩, ⟨by first | exact Kd.S_nil _ _ _ _ _ | exact Kd.N_nil _ _ _ _ _ | exact Kd.V_nil _ _ _ _ _ | exact Kd.Q_nil _ _ _ _ _ | exact Kd.R_nil _ _ _ _ _⟩, ⟨blk_a⟩, ⟨blk_a⟩, ⟨IsS118.a⟩, ⟨keep_i⟩, ⟨below_i⟩⟩
 case round =>
  clear H'
  try clear p2
  try clear c5
  try clear c6
  try clear c7
  try clear hcz8_0 hcz8_1
  try clear hfz8_0 hfz8_1
  obtain ⟨An, Ba, Ah, Ab, Ai, rfl, rfl, HA, HK1, Aa, Af, Ac, Ak, HK, HB⟩ := hrel
  cases gk with
  | zero => exact absurd HA.out (by simp [spec_l4Draw.l0])
  | succ k1 =>
   have H := HA.out; clear HA; simp only [spec_l4Draw.l0] at H
   by_cases Bw : Ba > 0
   ·
    rw [if_pos Bw] at H; have B0 := dt_ Bw; clear Bw; obtain ⟨A8, C8, H⟩ := bj_ H; (try dsimp only at H)
    obtain ⟨C0, H⟩ := iq_ H; have LMc19 := A_ C0; clear C0; obtain ⟨Be, Bb⟩ := ey_ (Ab ++ [(⟨An, A8⟩ : S59)] : List (S59)); (try (with_reducible replace H := os_ H)); (try dsimp only at H); (try rw [← Bb] at H)
    have B3 := A_ Bb; clear Bb; obtain ⟨⟨B4, Ca⟩, Cg, H⟩ := bj_ H; (try dsimp only at H); have H' := A_ H; clear H
    try go_wp2
    replace Aa := A_ (Kd.S_drew Aa.out); replace Af := bd_ Af; replace Ac := bd_ Ac; replace Ak := A_ (IsS118.drew Ak.out); replace HK := A_ (keep_drew HK.out); replace HB := A_ (below_drew1 HB.out); refine start_ (n := 10) (S := fun w' => w'.cell? ⟨Ad, 0, none⟩ = some (.int .i64 0) ∧ w'.cell? ⟨Ad, 1, none⟩ = some (Ai)) (ds := [9]) (rl_ [0, 10]) (by kernel_rfl) rfl rfl (bz2_ Ac.out) (fun hHeld => ?_); refine with_tabW spec_l4Draw.tab6 spec_l4Draw.bits6 (fun HT_ HW_ => ?_); generalize wr.drew = Dg at Aa Af Ac Ak HK HB hHeld ⊢; refine p1_ 0 (rl_ [1, 9]) HT_ ?_
    refine p1_ 2 (rl_ [1, 1, 1, 7]) HT_ ?_
    refine p1_ 3 (rl_ [1, 1, 2, 6]) HT_ ?_
    refine t1_ 1 (rl_ [4, 6]) HT_ HW_ hHeld ?_
    refine o1_ 4 (rl_ [5, 5]) HT_ fun K hK => ?_; refine gs_ Try.func92 #[.int .i64 An] ?_
    with_reducible refine (spec_l4Bytes.calls k1 An A8 _ C8.out).mono ?_
    rintro e Dh ⟨C9, rfl, Cs, hb⟩; refine ⟨_, rfl, ?_⟩; replace Aa := A_ (Kd.S_elder' (by (with_reducible repeat (first | apply Kd.S_alloc | apply Kd.S_drewN | apply Kd.S_drew)); exact Aa.out) (Kd.R_base Cs) hb); have A0 := A_ (Kd.R_lower Cs (keep_size (w := w) (g := g) (row := none) keep_i)); replace Af := bw_ Ae hb; replace Ac := bw_ Ad hb; have n4_ := A_ (IsS118.below (IsS118.a) hb); replace HK := A_ (KeepBut.trans keep_i (KeepBut.of_below hb g none) (.inl rfl)); replace HB := A_ (below_step below_i hb); replace Ak := n4_; clear n4_; (try clear hb Cs); obtain ⟨Cb, Cc, Cd⟩ := Kd.R_slice A0.out; (first | subst Cd | (injection Cd with f1_ f2_ f3_; have f4_ := f1_.symm; have f5_ := f3_.symm; clear f1_ f2_ f3_; subst f4_; subst f5_)); refine k1_ hK (bz2_ Ac.out) (fun hHeld => ?_); clear hK K; refine p1_ 5 (rl_ [6, 4]) HT_ ?_
    refine o1_ 6 (rl_ [7, 3]) HT_ fun K hK => ?_; refine value_ (w1 := ?_) (v := ?_) (by rfl) rfl ?_ ?_; rotate_left 2
    ·
     go_simp
     constructor
     ·
      rfl
     rfl
    refine k1_ hK (bz2_ (blk_alloc Ac.out _)) (fun hHeld => ?_); clear hK K; refine o1_ 7 (rl_ [8, 2]) HT_ fun K hK => ?_; refine Kd.S_append_step k59 w.heap.size (by rfl) (.tmp 18) (.tmp 23) 32 59 (.agg #[(.int .i64 0), (.slice none 0 0)]) 32 rfl Try.underlying32 info59 rfl (by decide) (by omega) Ai Ab (⟨An, A8⟩ : S59) [.int .i64 An, .slice Cb A8.length Cc] (fun _ => True) (fun k_ => some k_ = (.slice Cb A8.length Cc : Value).ownBlock) rfl rfl ?aP (fun k_ hk_ => ((Kd.R_mono (ok' := fun k_ => ((fun _ => True)) k_ ∧ some k_ ≠ (Ai : Value).ownBlock) (Kd.R_apart' (A0.out) (Kd.S_typed Aa.out) (by decide)) (fun k_ hk => ⟨trivial, hk.2⟩))).1 k_ hk_.symm) ?aF ?aO (Below.refl _ _) ?aS ?aL ?_; (case aP => exact k59_mkM _ _ _ (⟨An, A8⟩ : S59) (Kd.R_mono (Kd.R_tight rfl (Kd.R_mono (ok' := fun k_ => ((fun _ => True)) k_ ∧ some k_ ≠ (Ai : Value).ownBlock) (Kd.R_apart' (A0.out) (Kd.S_typed Aa.out) (by decide)) (fun k_ hk => ⟨trivial, hk.2⟩))) (fun _ h_ => h_))); (case aF => exact (fun _ _ => trivial)); (case aO => exact (by (with_reducible repeat (first | apply Kd.S_alloc | apply Kd.S_drewN | apply Kd.S_drew)); exact Kd.S_mono Aa.out (fun k_ hk => ⟨trivial, fun e_ => hk.2 e_⟩))); (case aS => exact (keep_size (w := w) (g := g) (row := none) keep_i)); (case aL => have := LMc19.out; omega); intro Da Di ho hb hg hat; rw [← B3.out] at ho; replace Af := A_ (blk_grown (g := Ae) blk_c hg (Kd.S_ne Aa.out Af.out (by decide))); replace Ac := A_ (blk_grown (g := Ad) blk_c hg (Kd.S_ne Aa.out Ac.out (by decide))); have n2_ := A_ (IsS118.grown (show IsS118 w0 _ g Ag Ah from IsS118.a) hg (IsS118.own_neS Ak.out Aa.out (by decide))); replace HB := A_ (below_weaken below_i HL.out hb); replace HK := A_ (KeepBut.trans keep_i (KeepBut.of_grown hg g) (Kd.S_base2 Aa.out)); have A1 := A_ (ho); replace Ak := n2_; clear Aa A0 n2_ ho hb hg hat; obtain ⟨Bp, Bq, Ce⟩ := Kd.S_slice A1.out; (first | subst Ce | (injection Ce with f1_ f2_ f3_; have f4_ := f1_.symm; have f5_ := f3_.symm; clear f1_ f2_ f3_; subst f4_; subst f5_)); refine k1_ hK (bz2_ Ac.out) (fun hHeld => ?_); clear hK K; refine p1_ 8 (rl_ [9, 1]) HT_ ?_
    refine last_ (i := 9) (N := none) (rl_ [10]) rfl rfl (one_of HT_.out (by kernel_rfl)) (by decide) (fun K hK => ?_); have := bc2_ Ac.out; have := nn_ Ao; refine skip_ (w1 := ?_) (by rfl) rfl ?_ ?_; rotate_left
    ·
     go_simp
     rfl
    refine hK.out _ _ ?_; clear hK K; refine done_ (done_of HT_.out (by kernel_rfl)) ?_
    try go_wp2_with (first | ((with_reducible refine f1_ 53 ?_); refine gl_ (some 29) Try.func53 #[.pointer (some ⟨g, 0, none⟩), .int .i64 2] ?_; (with_reducible refine (spec_l1Next.calls g Ag Ah 2 B4 Ca w0 _ ?_ ?_ Cg.out).mono ?_); exact IsS118.a; exact below_i; rintro e Dj ⟨rfl, hi, hb, hk⟩; refine ⟨_, rfl, ?_⟩; have n1_ := A_ (KeepBut.blk hk (g' := Ad) (o := .cells #[.int .i64 0, .slice Bp Be.length Bq] 34 (0, 0)) blk_a Au.out (by simp)); replace A1 := A_ (Kd.S_mono (Kd.S_keep (IsS118.apartS (show IsS118 w0 _ g Ag Ah from IsS118.a) (by (with_reducible repeat (first | apply Kd.S_alloc | apply Kd.S_drewN | apply Kd.S_drew)); exact (Kd.S_mono (Kd.S_far (p := ⟨Ad, 1, none⟩) (Kd.S_types A1.out Ac.out (by decide)) (fun _ hk => hk.2) (.slice Bp Be.length Bq)) (fun _ h_ => h_.1))) (by decide)) hk (fun _ h => h.2)) (fun _ h => h.1)); replace HK := kt_ hk; replace HB := A_ (hb); replace Ak := A_ (hi); replace Af := kb_ Ae hk; replace Ac := n1_; clear n1_; (try clear hb hk hi)))
    go_roundg k1
    case measure => have := HK1.out; omega
    case rel => exact ⟨(wrap64 ((wrap64 (An + 1)) + B4)), (wrap64 (Ba - 1)), (Ca), (Be), (.slice Bp Be.length Bq), eq_b, eq_b, H', ⟨by have := HK1.out; omega⟩, ⟨by (with_reducible repeat (first | apply Kd.S_alloc | apply Kd.S_drewN | apply Kd.S_drew)); exact A1.out⟩, ⟨blk_a⟩, ⟨blk_a⟩, ⟨IsS118.a⟩, ⟨keep_i⟩, ⟨below_i⟩⟩
   rw [if_neg Bw] at H; have B0 := df_ Bw; clear Bw; obtain ⟨⟨Al, Ct⟩, Db, H⟩ := bj_ H; (try dsimp only at H)
   obtain ⟨C1, H⟩ := iq_ H; have C2 := decide_eq_true C1; clear C1
   obtain ⟨C3, H⟩ := iq_ H; have C4 := decide_eq_true C3; clear C3; obtain ⟨rfl, rfl, rfl⟩ := s3_ H
   try go_wp2
   replace Aa := A_ (Kd.S_drew Aa.out); replace Af := bd_ Af; replace Ac := bd_ Ac; replace Ak := A_ (IsS118.drew Ak.out); replace HK := A_ (keep_drew HK.out); replace HB := A_ (below_drew1 HB.out); obtain ⟨Dc, Br, Cf⟩ := Kd.S_slice Aa.out; (first | subst Cf | (injection Cf with f1_ f2_ f3_; have f4_ := f1_.symm; have f5_ := f3_.symm; clear f1_ f2_ f3_; subst f4_; subst f5_)); have Bf : 0 ≤ (Al : Int) := od_; have Bg : Al < (Ab.length : Int) := od_; obtain ⟨Ar, Bs, Bt, Cu, A4, Av, A5, A6⟩ := at_T59 (Kd.S_reads' Aa.out).2.2 Al Bf Bg
   cases Cu
   obtain ⟨C5, Bu, Bv, Bc⟩ := Kd.S_get Aa.out z59 Al Bf (by first | exact Bg | exact od_ | (have e_ := (Kd.S_reads' Aa.out).1; omega)); obtain ⟨Cj, rfl, Aw⟩ := k59_openM Bv; have Am := Bc 1 _ rfl; rw [add_field _ _ 1 (by omega)] at Am; replace Am := Option.some.inj (Am.symm.trans Av); rw [Am] at Aw; have Ck := A_ (show Kd.R (Kd.int .u8) 5 _ _ _ _ ((rd_T59 Ab Al).f1) from Aw); clear Am Aw Bc Bu; have Bh := A_ A6; have Cl := A_ A5; clear A6 A5; replace Bf := eq_true Bf; replace Bg := eq_true Bg; refine start_ (n := 12) (S := fun w' => w'.cell? ⟨Ad, 0, none⟩ = some (.int .i64 0) ∧ w'.cell? ⟨Ad, 1, none⟩ = some (.slice (some Ar) Ab.length Br) ∧ w'.cell? (Ar.add ((Al).toNat * 2)) = some (.int .i64 ((rd_T59 Ab Al).f0)) ∧ w'.cell? ⟨(Ar.add ((Al).toNat * 2)).block, (Ar.add ((Al).toNat * 2)).off + 1, none⟩ = some (.slice Bs ((rd_T59 Ab Al).f1).length Bt)) (ds := [11]) (rl_ [0, 12]) (by kernel_rfl) rfl rfl (by2_ Ac.out ⟨A4, Av⟩) (fun hHeld => ?_); refine with_tabW spec_l4Draw.tab8 spec_l4Draw.bits8 (fun HT_ HW_ => ?_); generalize wr.drew = Dk at Aa Af Ac Ak HK HB Bh A4 Av hHeld ⊢; refine p1_ 0 (rl_ [1, 11]) HT_ ?_
   refine p1_ 2 (rl_ [1, 1, 1, 9]) HT_ ?_
   refine p1_ 3 (rl_ [1, 1, 2, 8]) HT_ ?_
   refine t1_ 1 (rl_ [4, 8]) HT_ HW_ hHeld ?_
   refine t1_ 4 (rl_ [5, 7]) HT_ HW_ hHeld ?_
   refine p1_ 5 (rl_ [6, 6]) HT_ ?_
   refine o1_ 6 (rl_ [7, 5]) HT_ fun K hK => ?_; refine gs_ Try.func53 #[.pointer (some ⟨g, 0, none⟩), .int .i64 (Ab.length : Int)] ?_
   with_reducible refine (spec_l1Next.calls g Ag Ah (Ab.length : Int) Al Ct w0 _ ?_ ?_ Db.out).mono ?_
   exact IsS118.a; exact below_i; rintro e Dl ⟨rfl, hi, hb, hk⟩; have HS2_ := keep_cell hk (hHeld.2.2.1) (by first | (rw [add_block]; exact Kd.own_blk (IsS118.own_neS Ak.out Aa.out (by decide))) | (show (Addr.add _ _).block ≠ _; rw [add_block]; exact Kd.own_blk (IsS118.own_neS Ak.out Aa.out (by decide))) | exact Kd.own_blk (IsS118.own_neS Ak.out Aa.out (by decide))); have HS3_ := keep_cell hk (hHeld.2.2.2) (by first | (rw [add_block]; exact Kd.own_blk (IsS118.own_neS Ak.out Aa.out (by decide))) | (show (Addr.add _ _).block ≠ _; rw [add_block]; exact Kd.own_blk (IsS118.own_neS Ak.out Aa.out (by decide))) | exact Kd.own_blk (IsS118.own_neS Ak.out Aa.out (by decide))); refine ⟨_, rfl, ?_⟩; replace Aa := A_ (Kd.S_mono (Kd.S_keep (IsS118.apartS (show IsS118 w0 _ g Ag Ah from IsS118.a) (by (with_reducible repeat (first | apply Kd.S_alloc | apply Kd.S_drewN | apply Kd.S_drew)); exact Aa.out) (by decide)) hk (fun _ h => h.2)) (fun _ h => h.1)); replace Ac := kb_ Ad hk; replace HK := kt_ hk; replace HB := A_ (hb); replace Ak := A_ (hi); replace Af := kb_ Ae hk; (try clear hb hk hi); refine k1_ hK (by2_ Ac.out ⟨HS2_, HS3_⟩) (fun hHeld => ?_); clear hK K; refine p1_ 7 (rl_ [8, 4]) HT_ ?_
   refine p1_ 8 (rl_ [9, 3]) HT_ ?_
   refine t1_ 9 (rl_ [10, 2]) HT_ HW_ hHeld ?_
   refine p1_ 10 (rl_ [11, 1]) HT_ ?_
   refine last_ (i := 11) (N := none) (rl_ [12]) rfl rfl (one_of HT_.out (by kernel_rfl)) (by decide) (fun K hK => ?_); have := bc2_ Ac.out; have := nn_ Ao; refine skip_ (w1 := ?_) (by rfl) rfl ?_ ?_; rotate_left
   ·
    go_simp
    rfl
   refine hK.out _ _ ?_; clear hK K; refine done_ (done_of HT_.out (by kernel_rfl)) ?_; have := nn_ Ap; have := nn_ Au; have := bc2_ Ac.out; have := nn_ Bd; have := bc2_ Af.out
   try go_wp2
   refine bodyPost_ret (v := .agg #[.int .i64 ((rd_T59 Ab Al).f0), .slice (some Ar) Ab.length Br]) ?_ rfl ?_; exact rc_ Ae Try.underlying34; exact ⟨_, eq_a, by (with_reducible repeat (first | apply Kd.S_alloc | apply Kd.S_drewN | apply Kd.S_drew)); exact Kd.S_mono (Kd.S_far (p := ⟨Ae, 1, none⟩) (Kd.S_far (p := ⟨Ae, 0, none⟩) (Kd.S_far (p := ⟨Ad, 0, none⟩) (Kd.S_types (Kd.S_types Aa.out Ac.out (by decide)) Af.out (by decide)) (fun _ hk => hk.1.2) (.int .i64 ((rd_T59 Ab Al).f0))) (fun _ hk => hk.2) (.int .i64 ((rd_T59 Ab Al).f0))) (fun _ hk => hk.2) (.slice (some Ar) Ab.length Br)) (fun _ hk => trivial), IsS118.a, below_i, keep_i⟩
end Go.Proofs.Ytiioiohdifkbgaa.MFnLetters
