-- Laid by a program of this session (the kit's print, turned where it falls short; the texts of functions that it does not take are proved by hand).
import Derived.Test.YtiioiohdifkbgaaMFnLettersx10
namespace Go.Proofs.Ytiioiohdifkbgaa.MFnLetters
open Go.RowKit Go.Proofs.YtiioiohdifkbgaaW.PrintWords Go.Proofs.YtiioiohdifkbgaaW.PrintLast Go.Proofs.YtiioiohdifkbgaaW.PrintMore
set_option maxHeartbeats 80000000
set_option maxRecDepth 100000
attribute [local go_sem] max2_int min2_int max_two min_two max_three min_three max_four min_four   -- for this text's walks alone
set_option linter.unusedVariables false
set_option linter.unusedSimpArgs false
attribute [local go_sem] isSome_setCell run_field30_0 run_field30_1 run_field34_1 run_field48_0 run_field48_1 run_field61_1
def impl_SealLetter.j0 : Nat → Int → Int → List (S59) → Int → Int → Int → List Int → Option (Int × List Int)
 | 0, _, _, _, _, _, _, _ => none
 | k + 1, x5, Ae, Af, Aa, Ab, Ac, Ag => if x5 = 0 then ((impl_FindKey.f k Ae Af Aa).bind fun Ad => (if Ad.1 = 0 then ((impl_HeadOf.f k Aa Ab Ac).bind fun Ah => ((impl_NonceOf.f k Ab Ac).bind fun Ak => ((impl_SealText.f k Ad.2.2 Ak.2 Ah.2 Ag).bind fun Al => ((slices_Concat_byte_byte.f k (([Ah.2, Al.2] : List (List Int)))).bind fun Am => (some (0, Am)))))) else ((impl_noBytes.f Ad.1).bind fun Ai => (some (Ai.1, Ai.2))))) else ((impl_noBytes.f x5).bind fun Aj => (some (Aj.1, Aj.2)))
def impl_SealLetter.f (k : Nat) (Aa : Int) (Ab : List (S59)) (Ac : Int) (Ad : Int) (Ae : Int) (Af : List Int) : Option (Int × List Int) := (impl_RingFault.f k Aa Ab).bind fun Ag => (if Ag = 0 then ((impl_LetterFault.f k Ac Ad Ae Af).bind fun Ah => (impl_SealLetter.j0 k Ah Aa Ab Ac Ad Ae Af)) else (impl_SealLetter.j0 k Ag Aa Ab Ac Ad Ae Af))
def impl_SealLetter.T10 : Bool × List (List Nat × List Nat) := (true, [([], []), ([0], [0]), ([1], [1]), ([], []), ([3], [3]), ([], []), ([5], [5]), ([4, 6], [4, 6]), ([7], [7]), ([], []), ([], []), ([10], [10]), ([2, 8, 9, 11, 7], [2, 8, 9, 11]), ([], []), ([13, 12, 12, 0, 1, 2, 3, 4, 5, 6, 7, 8, 9, 10, 11, 12, 13], [12, 13])])
def impl_SealLetter.B10 : List Nat := [0, 1, 3, 0, 8, 0, 32, 120, 248, 0, 0, 1024, 4095, 0, 16383]
theorem impl_SealLetter.tab10 : rtab .any (opsOf Try.f19 10) = impl_SealLetter.T10 := by kernel_rfl
theorem impl_SealLetter.bits10 : waitsOk impl_SealLetter.T10.2 impl_SealLetter.B10 = true := by kernel_rfl
theorem impl_SealLetter.calls (k : Nat) (Be : Int) (Bs : Option Addr) (Bt : Nat) (A7 : List (S59)) (A1 : Int) (Ay : Int) (Az : Int) (Ba : Option Addr) (Bb : Nat) (Ax : List Int) (r1 : Int) (r2 : List Int) (w : World) (Cj : Kd.C k59 w Bs A7.length A7) (Ck : A7.length ≤ Bt) (Cl : Kd.C (Kd.int .u8) w Ba Ax.length Ax) (Cm : Ax.length ≤ Bb) (h : impl_SealLetter.f k Be A7 A1 Ay Az Ax = some (r1, r2)) :
  Calls Try.prog 19 #[.agg #[.int .i64 Be, .slice Bs A7.length Bt], .agg #[.int .i64 A1, .int .i64 Ay, .int .i64 Az, .slice Ba Ax.length Bb]] w fun e w' => ∃ v1_ : Value, e = .returned (.agg #[.int .i64 r1, v1_]) ∧ Kd.R (Kd.int .u8) 5 w' w.heap.size (fun _ => True) v1_ r2 ∧ Below w.heap.size w w' := by
 have hu34 := Try.underlying34
 have hu28 := Try.underlying28
 have hu48 := Try.underlying48
 have hu61 := Try.underlying61
 have Cn := A_ Cj
 have Co := A_ Ck
 clear Cj Ck
 have Bv := A_ Cl
 have Bw := A_ Cm
 clear Cl Cm
 have HB := A_ (Below.refl w.heap.size w)
 unfold impl_SealLetter.f at h; have H := h; clear h
 obtain ⟨Cw, D0, H⟩ := bi_ H
 (try dsimp only at H)
 have A3 := A_ D0
 clear D0
 have Di := A_ H
 clear H
 go_enter Try.func19, Try.ntmps19
 go_upto_if 12 with (first | ((with_reducible refine d1_ 2 ?_); refine by_ 2 (#[.int .i64 Be, .slice Bs A7.length Bt]) 34 ?_; intro Ad hg w5 hbox hb; have Ak := A_ (hbox); have D1 := gw_ (w := w) hg; replace HB := bs_ hb; clear hb hbox hg) | ((with_reducible refine d1_ 3 ?_); refine by_ 3 (#[.int .i64 A1, .int .i64 Ay, .int .i64 Az, .slice Ba Ax.length Bb]) 28 ?_; intro Aa hg w6 hbox hb; have Ac := A_ (hbox); have D2 := gw_ (w := w) hg; obtain ⟨Bi, Bj⟩ := bu_ Ad hg; replace Ak := bw_ Ad hb; replace HB := bs_ hb; clear hb hbox hg) | ((with_reducible refine d1_ 4 ?_); refine by_ 4 (#[.int .i64 0, .slice none 0 0]) 48 ?_; intro Af hg w7 hbox hb; have Al := A_ (hbox); have D3 := gw_ (w := w) hg; obtain ⟨Bk, A8⟩ := bu_ Ad hg; obtain ⟨A9, Bl⟩ := bu_ Aa hg; replace Ak := bw_ Ad hb; replace Ac := bw_ Aa hb; replace HB := bs_ hb; clear hb hbox hg; have := nn_ Bi; have := nn_ Bk; obtain ⟨hcz10_0, hcz10_1, hfz10_0, hfz10_1⟩ := bc2_ Ak.out) | ((with_reducible refine f1_ 40 ?_); refine gl_ (some 10) Try.func40 #[.agg #[.int .i64 Be, .slice Bs A7.length Bt]] ?_; (with_reducible refine (impl_RingFault.calls k Be _ _ A7 Cw _ ?_ ?_ A3.out).mono ?_); exact ca_ (Kd.C_below Cn.out HB.out); exact Co.out; rintro e Em ⟨rfl, hb⟩; refine ⟨_, rfl, ?_⟩; replace Ak := bw_ Ad hb; replace Ac := bw_ Aa hb; replace Al := bw_ Af hb; replace HB := bs_ hb; (try clear hb)))
 (try simp only [P4_])
 go_cut [5] (fun v5 wc => ∃ (kq : Nat) (Bx : Int), v5 = .int .i64 Bx ∧ Aside0 (impl_SealLetter.j0 kq Bx Be A7 A1 Ay Az Ax = some (r1, r2)) ∧ Aside0 (kq ≤ k) ∧ Aside0 (wc.heap[Ad]? = some (.cells #[.int .i64 Be, (.slice Bs A7.length Bt)] 34 (0, 0))) ∧ Aside0 (wc.heap[Aa]? = some (.cells #[.int .i64 A1, .int .i64 Ay, .int .i64 Az, (.slice Ba Ax.length Bb)] 28 (0, 0))) ∧ Aside0 (wc.heap[Af]? = some (.cells #[.int .i64 0, (.slice none 0 0)] 48 (0, 0))) ∧ Aside0 (Below w.heap.size w wc))
 case first =>
  have H := Di.out; clear Di
  by_cases Cy : Cw = 0
  ·
   rw [if_pos Cy] at H; obtain ⟨Bm, Cp⟩ := be_ Cy; clear Cy; (first | rw [Bm] | (simp only [i64_w, i32_w]; rw [Bm]) | skip); obtain ⟨C0, D7, H⟩ := bj_ H; (try dsimp only at H); have H' := A_ H; clear H; have := nn_ Bj; have := nn_ A9; obtain ⟨hcz16_0, hcz16_1, hcz16_2, hcz16_3, hfz16_0, hfz16_1, hfz16_2, hfz16_3⟩ := bc4_ Ac.out
   go_wp2_with (first | ((with_reducible refine f1_ 26 ?_); refine gl_ (some 14) Try.func26 #[.agg #[.int .i64 A1, .int .i64 Ay, .int .i64 Az, .slice Ba Ax.length Bb]] ?_; (with_reducible refine (impl_LetterFault.calls k A1 Ay Az _ _ Ax C0 _ ?_ ?_ D7.out).mono ?_); exact ca_ (Kd.C_below Bv.out HB.out); exact Bw.out; rintro e En ⟨rfl, hb⟩; refine ⟨_, rfl, ?_⟩; replace Ak := bw_ Ad hb; replace Ac := bw_ Aa hb; replace Al := bw_ Af hb; replace HB := bs_ hb; (try clear hb)))
   go_meet
   case rel => exact ⟨_, (C0), eq_b, H', ⟨by first | omega | exact Nat.le_refl _⟩, ⟨blk_a⟩, ⟨blk_a⟩, ⟨blk_a⟩, ⟨below_a⟩⟩
  rw [if_neg Cy] at H; obtain ⟨Bm, Cp⟩ := nb_ Cy; (first | rw [Bm] | (simp only [i64_w, i32_w]; rw [Bm]) | skip); have H' := A_ H; clear H
  go_wp2
  go_meet
  case rel => exact ⟨_, (Cw), eq_b, H', ⟨by first | omega | exact Nat.le_refl _⟩, ⟨blk_a⟩, ⟨blk_a⟩, ⟨blk_a⟩, ⟨below_a⟩⟩
 case rest =>
  clear Di
  try clear c1
  try clear c2
  try clear p2
  try clear c4
  try clear c8
  try clear c9
  try clear Cy Bm Cp
  try clear Eo
  try clear Ep
  try clear hcz10_0 hcz10_1
  try clear hcz16_0 hcz16_1 hcz16_2 hcz16_3
  try clear hfz10_0 hfz10_1
  try clear hfz16_0 hfz16_1 hfz16_2 hfz16_3
  obtain ⟨kq, Bx, rfl, HA, HJ3, Ak, Ac, Al, HB⟩ := hcut
  cases kq with
  | zero => exact absurd HA.out (by simp [impl_SealLetter.j0])
  | succ Cq =>
   have H := HA.out; clear HA; simp only [impl_SealLetter.j0] at H
   by_cases C1 : Bx = 0
   ·
    rw [if_pos C1] at H; obtain ⟨C2, C3⟩ := be_ C1; clear C1; obtain ⟨⟨Bf, Bu, A4⟩, D8, H⟩ := bj_ H; (try dsimp only at H); have C4 := A_ H; clear H; have := nn_ Bi; have := nn_ Bk; have := bc2_ Ak.out; have := nn_ A9; have := bc4_ Ac.out
    go_upto_if 25 with (first | ((with_reducible refine f1_ 41 ?_); refine gl_ (some 22) Try.func41 #[.agg #[.int .i64 Be, .slice Bs A7.length Bt], .int .i64 A1] ?_; (with_reducible refine (impl_FindKey.calls Cq Be _ _ A7 A1 Bf Bu A4 _ ?_ ?_ D8.out).mono ?_); exact ca_ (Kd.C_below Cn.out HB.out); exact Co.out; rintro e Er ⟨D9, rfl, A5, hb⟩; refine ⟨_, rfl, ?_⟩; have Ab := A_ (Kd.R_lower A5 (below_size below_a)); replace Ak := bw_ Ad hb; replace Ac := bw_ Aa hb; replace Al := bw_ Af hb; replace HB := bs_ hb; (try clear hb A5)) | ((with_reducible refine d1_ 6 ?_); refine by_ 6 (#[.int .i64 0, .int .i64 0, .slice none 0 0]) 61 ?_; intro Ai hg Es hbox hb; replace Ab := rv_ Ab hb; have Aj := A_ (hbox); have D4 := gw_ (w := w) hg; obtain ⟨Cz, Bn⟩ := bu_ Ad hg; obtain ⟨Bz, Bo⟩ := bu_ Aa hg; obtain ⟨B0, Bp⟩ := bu_ Af hg; replace Ak := bw_ Ad hb; replace Ac := bw_ Aa hb; replace Al := bw_ Af hb; replace HB := bs_ hb; clear hb hbox hg; have := nn_ Bn; have := nn_ Bo; have := nn_ Bp; have := bc3_ Aj.out; obtain ⟨Bg, Bh, Dj⟩ := Kd.R_slice Ab.out; subst Dj))
    (try simp only [P4_]); have H := C4.out; clear C4
    by_cases C5 : Bf = 0
    ·
     rw [if_pos C5] at H; obtain ⟨Bq, C6⟩ := be_ C5; clear C5; (first | rw [Bq] | (simp only [i64_w, i32_w]; rw [Bq]) | skip); obtain ⟨⟨Dk, A6⟩, Ea, H⟩ := bj_ H; (try dsimp only at H); obtain ⟨⟨Cx, Bc⟩, D5, H⟩ := bj_ H; (try dsimp only at H); obtain ⟨⟨B3, Bd⟩, Dl, H⟩ := bj_ H; (try dsimp only at H); obtain ⟨C7, Cc⟩ := ey_ (([A6, Bd] : List (List Int)) : List (List Int)); (try (with_reducible replace H := os_ H)); (try dsimp only at H); (try rw [← Cc] at H)
     have Cr := A_ Cc; clear Cc; obtain ⟨C8, Eb, H⟩ := bj_ H; (try dsimp only at H); obtain ⟨rfl, rfl⟩ := s2_ H; have := nn_ Bj; have := nn_ A9; have := nn_ Bz; have := bc4_ Ac.out
     try go_wp2_with (first | ((with_reducible refine f1_ 31 ?_); refine gl_ (some 35) Try.func31 #[.int .i64 A1, .int .i64 Ay, .int .i64 Az] ?_; (with_reducible refine (impl_HeadOf.calls Cq A1 Ay Az Dk A6 _ Ea.out).mono ?_); rintro e Ec ⟨Ed, rfl, A5, hb⟩; refine ⟨_, rfl, ?_⟩; replace Ab := rv_ Ab hb; have Ag := A_ (Kd.R_lower A5 (below_size below_a)); replace Ak := bw_ Ad hb; replace Ac := bw_ Aa hb; replace Al := bw_ Af hb; replace Aj := A_ (blk_below (g := Ai) (o := .cells #[.int .i64 Bf, .int .i64 Bu, .slice Bg A4.length Bh] 61 (0, 0)) blk_a hb); replace HB := bs_ hb; (try clear hb A5); obtain ⟨B4, Ca, Dm⟩ := Kd.R_slice Ag.out; subst Dm))
     replace Ab := hd_ Ab; replace Ag := hd_ Ag; replace Ak := bd_ Ak; replace Ac := bd_ Ac; replace Al := bd_ Al; replace Aj := bd_ Aj; replace HB := A_ (below_drew1 HB.out); refine start_ (n := 15) (S := fun w' => w'.cell? ⟨Ai, 0, none⟩ = some (.int .i64 Bf) ∧ w'.cell? ⟨Ai, 1, none⟩ = some (.int .i64 Bu) ∧ w'.cell? ⟨Ai, 2, none⟩ = some (.slice Bg A4.length Bh) ∧ w'.cell? ⟨Aa, 0, none⟩ = some (.int .i64 A1) ∧ w'.cell? ⟨Aa, 1, none⟩ = some (.int .i64 Ay) ∧ w'.cell? ⟨Aa, 2, none⟩ = some (.int .i64 Az) ∧ w'.cell? ⟨Aa, 3, none⟩ = some (.slice Ba Ax.length Bb)) (ds := []) (rl_ [0, 15]) (by kernel_rfl) rfl rfl (by3_ Aj.out (bz4_ Ac.out)) (fun hHeld => ?_); refine with_tabW impl_SealLetter.tab10 impl_SealLetter.bits10 (fun HT_ HW_ => ?_); generalize Ec.drew = Et at Ab Ag Ak Ac Al Aj HB hHeld ⊢; refine p1_ 0 (rl_ [1, 14]) HT_ ?_
     refine p1_ 1 (rl_ [2, 13]) HT_ ?_
     refine p1_ 3 (rl_ [2, 1, 1, 11]) HT_ ?_
     refine p1_ 5 (rl_ [2, 1, 1, 1, 1, 9]) HT_ ?_
     refine p1_ 9 (rl_ [2, 1, 1, 1, 1, 3, 1, 5]) HT_ ?_
     refine p1_ 10 (rl_ [2, 1, 1, 1, 1, 3, 2, 4]) HT_ ?_
     refine t1_ 2 (rl_ [4, 1, 1, 3, 2, 4]) HT_ HW_ hHeld ?_
     refine t1_ 4 (rl_ [6, 3, 2, 4]) HT_ HW_ hHeld ?_
     refine t1_ 6 (rl_ [7, 2, 2, 4]) HT_ HW_ hHeld ?_
     refine t1_ 11 (rl_ [7, 2, 3, 3]) HT_ HW_ hHeld ?_
     refine join_ (σ := Value × Value × Nat) 1 (rl_ [14, 1]) (fun s_ => [(44, .agg #[.int .i64 Cx, s_.1]), (49, .agg #[.int .i64 B3, s_.2.1]), (8, .pointer (some ⟨s_.2.2, 0, none⟩)), (45, s_.1)]) (fun s_ w' => (w'.cell? ⟨Ai, 0, none⟩ = some (.int .i64 Bf) ∧ w'.cell? ⟨Ai, 1, none⟩ = some (.int .i64 Bu) ∧ w'.cell? ⟨Ai, 2, none⟩ = some (.slice Bg A4.length Bh) ∧ w'.cell? ⟨Aa, 0, none⟩ = some (.int .i64 A1) ∧ w'.cell? ⟨Aa, 1, none⟩ = some (.int .i64 Ay) ∧ w'.cell? ⟨Aa, 2, none⟩ = some (.int .i64 Az) ∧ w'.cell? ⟨Aa, 3, none⟩ = some (.slice Ba Ax.length Bb)) ∧ (Kd.R (Kd.int .u8) 5 w' w.heap.size (fun _ => True) (.slice Bg A4.length Bh) A4) ∧ (Kd.R (Kd.int .u8) 5 w' w.heap.size (fun _ => True) (.slice B4 A6.length Ca) A6) ∧ (Kd.R (Kd.int .u8) 5 w' w.heap.size (fun _ => True) s_.1 Bc) ∧ (Kd.R (Kd.int .u8) 5 w' w.heap.size (fun _ => True) s_.2.1 Bd) ∧ (w'.heap[Ad]? = some (.cells #[.int .i64 Be, .slice Bs A7.length Bt] 34 (0, 0))) ∧ (w'.heap[Aa]? = some (.cells #[.int .i64 A1, .int .i64 Ay, .int .i64 Az, .slice Ba Ax.length Bb] 28 (0, 0))) ∧ (w'.heap[Af]? = some (.cells #[.int .i64 0, .slice none 0 0] 48 (0, 0))) ∧ (w'.heap[Ai]? = some (.cells #[.int .i64 Bf, .int .i64 Bu, .slice Bg A4.length Bh] 61 (0, 0))) ∧ (w'.heap[s_.2.2]? = some (.cells #[.int .i64 0, .slice none 0 0] 48 (0, 0))) ∧ (w.heap.size ≤ s_.2.2) ∧ (w.heap.size ≤ s_.2.2) ∧ (Ad ≠ s_.2.2) ∧ (s_.2.2 ≠ Ad) ∧ (Aa ≠ s_.2.2) ∧ (s_.2.2 ≠ Aa) ∧ (Af ≠ s_.2.2) ∧ (s_.2.2 ≠ Af) ∧ (Ai ≠ s_.2.2) ∧ (s_.2.2 ≠ Ai) ∧ (Below w.heap.size w w')) ?_ ?_; rotate_left
     ·
      intro hCont; refine two_ (i := 7) (j := 13) (Ni := some 44) (Nj := some 8) (rl_ [8, 1, 3, 3]) (rl_ [7, 2, 3, 1, 1, 1]) rfl rfl rfl rfl (two_of HT_.out (by kernel_rfl)) (by decide) (by decide) (fun K hK => ?_) (fun K hK => ?_)
      ·
       refine gs_ Try.func43 #[.int .i64 Ay, .int .i64 Az] ?_
       with_reducible refine (impl_NonceOf.calls Cq Ay Az Cx Bc _ D5.out).mono ?_
       rintro e Ee ⟨C9, rfl, A5, hb⟩; refine ⟨_, rfl, ?_⟩; replace Ab := rv_ Ab hb; replace Ag := rv_ Ag hb; have An := A_ (Kd.R_lower A5 (below_size below_a)); replace Ak := bw_ Ad hb; replace Ac := bw_ Aa hb; replace Al := bw_ Af hb; replace Aj := bw_ Ai hb; replace HB := bs_ hb; (try clear hb A5); obtain ⟨Da, Db, Dc⟩ := Kd.R_slice An.out; (first | subst Dc | (injection Dc with f1_ f2_ f3_; have f4_ := f1_.symm; have f5_ := f3_.symm; clear f1_ f2_ f3_; subst f4_; subst f5_)); refine k1_ hK (by3_ Aj.out (bz4_ Ac.out)) (fun hHeld => ?_); clear hK K; refine p1_ 8 (rl_ [12, 3]) HT_ ?_
       refine two_ (i := 12) (j := 13) (Ni := some 49) (Nj := some 8) (rl_ [13, 2]) (rl_ [12, 1, 1, 1]) rfl rfl rfl rfl (two_of HT_.out (by kernel_rfl)) (by decide) (by decide) (fun K hK => ?_) (fun K hK => ?_)
       ·
        refine gs_ Try.func55 #[.slice Bg A4.length Bh, .slice Da Bc.length Db, .slice B4 A6.length Ca, .slice Ba Ax.length Bb] ?_
        with_reducible refine (impl_SealText.calls Cq _ _ A4 _ _ Bc _ _ A6 _ _ Ax B3 Bd _ ?_ ?_ ?_ ?_ ?_ ?_ ?_ ?_ Dl.out).mono ?_
        exact cr_ Ab; exact cl_ Ab; exact cr_ An; exact cl_ An; exact cr_ Ag; exact cl_ Ag; exact ca_ (Kd.C_below Bv.out HB.out); exact Bw.out; rintro e Eu ⟨Cb, rfl, A5, hb⟩; refine ⟨_, rfl, ?_⟩; replace Ab := rv_ Ab hb; replace Ag := rv_ Ag hb; replace An := rv_ An hb; have Aw := A_ (Kd.R_lower A5 (below_size below_a)); replace Ak := bw_ Ad hb; replace Ac := bw_ Aa hb; replace Al := bw_ Af hb; replace Aj := bw_ Ai hb; replace HB := bs_ hb; (try clear hb A5); refine k1_ hK (by3_ Aj.out (bz4_ Ac.out)) (fun hHeld => ?_); clear hK K; refine o1_ 13 (rl_ [14, 1]) HT_ fun K hK => ?_; refine b1_ 8 #[.int .i64 0, .slice none 0 0] 48 ?_; intro Ah hg D6 hbox hb; replace Ab := rv_ Ab hb; replace Ag := rv_ Ag hb; replace An := rv_ An hb; replace Aw := rv_ Aw hb; have Av := A_ (hbox); have A0 := gw_ (w := w) hg; obtain ⟨Ao, Ap⟩ := bu_ Ad hg; obtain ⟨Ae, Aq⟩ := bu_ Aa hg; obtain ⟨Ar, As⟩ := bu_ Af hg; obtain ⟨Am, Au⟩ := bu_ Ai hg; replace Ak := bw_ Ad hb; replace Ac := bw_ Aa hb; replace Al := bw_ Af hb; replace Aj := bw_ Ai hb; replace HB := bs_ hb; clear hb hbox hg; refine k1_ hK (by3_ Aj.out (bz4_ Ac.out)) (fun hHeld => ?_); clear hK K; exact nm_ (hCont (.slice Da Bc.length Db, Cb, Ah) _ ⟨hHeld, (R_a Ab.out), (R_a Ag.out), (R_a An.out), (R_a Aw.out), blk_a, blk_a, blk_a, blk_a, blk_a, A0.out, A0.out, Ao.out, Ap.out, Ae.out, Aq.out, Ar.out, As.out, Am.out, Au.out, below_a⟩)
       refine b1_ 8 #[.int .i64 0, .slice none 0 0] 48 ?_; intro Ah hg Ef hbox hb; replace Ab := rv_ Ab hb; replace Ag := rv_ Ag hb; replace An := rv_ An hb; have Av := A_ (hbox); have A0 := gw_ (w := w) hg; obtain ⟨Ao, Ap⟩ := bu_ Ad hg; obtain ⟨Ae, Aq⟩ := bu_ Aa hg; obtain ⟨Ar, As⟩ := bu_ Af hg; obtain ⟨Am, Au⟩ := bu_ Ai hg; replace Ak := bw_ Ad hb; replace Ac := bw_ Aa hb; replace Al := bw_ Af hb; replace Aj := bw_ Ai hb; replace HB := bs_ hb; clear hb hbox hg; obtain ⟨Cd, Ce, Cf⟩ := Kd.R_slice An.out; (first | subst Cf | (injection Cf with f1_ f2_ f3_; have f4_ := f1_.symm; have f5_ := f3_.symm; clear f1_ f2_ f3_; subst f4_; subst f5_)); refine k1_ hK (by3_ Aj.out (bz4_ Ac.out)) (fun hHeld => ?_); clear hK K; refine o1_ 12 (rl_ [14, 1]) HT_ fun K hK => ?_; refine gs_ Try.func55 #[.slice Bg A4.length Bh, .slice Cd Bc.length Ce, .slice B4 A6.length Ca, .slice Ba Ax.length Bb] ?_
       with_reducible refine (impl_SealText.calls Cq _ _ A4 _ _ Bc _ _ A6 _ _ Ax B3 Bd _ ?_ ?_ ?_ ?_ ?_ ?_ ?_ ?_ Dl.out).mono ?_
       exact cr_ Ab; exact cl_ Ab; exact cr_ An; exact cl_ An; exact cr_ Ag; exact cl_ Ag; exact ca_ (Kd.C_below Bv.out HB.out); exact Bw.out; rintro e D6 ⟨Cb, rfl, A5, hb⟩; refine ⟨_, rfl, ?_⟩; replace Ab := rv_ Ab hb; replace Ag := rv_ Ag hb; replace An := rv_ An hb; have Aw := A_ (Kd.R_lower A5 (below_size below_a)); replace Ak := bw_ Ad hb; replace Ac := bw_ Aa hb; replace Al := bw_ Af hb; replace Aj := bw_ Ai hb; replace Av := bw_ Ah hb; replace HB := bs_ hb; (try clear hb A5); refine k1_ hK (by3_ Aj.out (bz4_ Ac.out)) (fun hHeld => ?_); clear hK K; exact nm_ (hCont (.slice Cd Bc.length Ce, Cb, Ah) _ ⟨hHeld, (R_a Ab.out), (R_a Ag.out), (R_a An.out), (R_a Aw.out), blk_a, blk_a, blk_a, blk_a, blk_a, A0.out, A0.out, Ao.out, Ap.out, Ae.out, Aq.out, Ar.out, As.out, Am.out, Au.out, below_a⟩)
      refine b1_ 8 #[.int .i64 0, .slice none 0 0] 48 ?_; intro Ah hg Ee hbox hb; replace Ab := rv_ Ab hb; replace Ag := rv_ Ag hb; have Av := A_ (hbox); have A0 := gw_ (w := w) hg; obtain ⟨Ao, Ap⟩ := bu_ Ad hg; obtain ⟨Ae, Aq⟩ := bu_ Aa hg; obtain ⟨Ar, As⟩ := bu_ Af hg; obtain ⟨Am, Au⟩ := bu_ Ai hg; replace Ak := bw_ Ad hb; replace Ac := bw_ Aa hb; replace Al := bw_ Af hb; replace Aj := bw_ Ai hb; replace HB := bs_ hb; clear hb hbox hg; refine k1_ hK (by3_ Aj.out (bz4_ Ac.out)) (fun hHeld => ?_); clear hK K; refine o1_ 7 (rl_ [8, 1, 3, 1, 1, 1]) HT_ fun K hK => ?_; refine gs_ Try.func43 #[.int .i64 Ay, .int .i64 Az] ?_
      with_reducible refine (impl_NonceOf.calls Cq Ay Az Cx Bc _ D5.out).mono ?_
      rintro e Ef ⟨C9, rfl, A5, hb⟩; refine ⟨_, rfl, ?_⟩; replace Ab := rv_ Ab hb; replace Ag := rv_ Ag hb; have An := A_ (Kd.R_lower A5 (below_size below_a)); replace Ak := bw_ Ad hb; replace Ac := bw_ Aa hb; replace Al := bw_ Af hb; replace Aj := bw_ Ai hb; replace Av := bw_ Ah hb; replace HB := bs_ hb; (try clear hb A5); obtain ⟨Cd, Ce, Cf⟩ := Kd.R_slice An.out; (first | subst Cf | (injection Cf with f1_ f2_ f3_; have f4_ := f1_.symm; have f5_ := f3_.symm; clear f1_ f2_ f3_; subst f4_; subst f5_)); refine k1_ hK (by3_ Aj.out (bz4_ Ac.out)) (fun hHeld => ?_); clear hK K; refine p1_ 8 (rl_ [12, 1, 1, 1]) HT_ ?_
      refine o1_ 12 (rl_ [14, 1]) HT_ fun K hK => ?_; refine gs_ Try.func55 #[.slice Bg A4.length Bh, .slice Cd Bc.length Ce, .slice B4 A6.length Ca, .slice Ba Ax.length Bb] ?_
      with_reducible refine (impl_SealText.calls Cq _ _ A4 _ _ Bc _ _ A6 _ _ Ax B3 Bd _ ?_ ?_ ?_ ?_ ?_ ?_ ?_ ?_ Dl.out).mono ?_
      exact cr_ Ab; exact cl_ Ab; exact cr_ An; exact cl_ An; exact cr_ Ag; exact cl_ Ag; exact ca_ (Kd.C_below Bv.out HB.out); exact Bw.out; rintro e D6 ⟨Cb, rfl, A5, hb⟩; refine ⟨_, rfl, ?_⟩; replace Ab := rv_ Ab hb; replace Ag := rv_ Ag hb; replace An := rv_ An hb; have Aw := A_ (Kd.R_lower A5 (below_size below_a)); replace Ak := bw_ Ad hb; replace Ac := bw_ Aa hb; replace Al := bw_ Af hb; replace Aj := bw_ Ai hb; replace Av := bw_ Ah hb; replace HB := bs_ hb; (try clear hb A5); refine k1_ hK (by3_ Aj.out (bz4_ Ac.out)) (fun hHeld => ?_); clear hK K; exact nm_ (hCont (.slice Cd Bc.length Ce, Cb, Ah) _ ⟨hHeld, (R_a Ab.out), (R_a Ag.out), (R_a An.out), (R_a Aw.out), blk_a, blk_a, blk_a, blk_a, blk_a, A0.out, A0.out, Ao.out, Ap.out, Ae.out, Aq.out, Ar.out, As.out, Am.out, Au.out, below_a⟩)
     rintro ⟨C9, Cb, Ah⟩ Cs ⟨hS_, h0_, h1_, h2_, h3_, h4_, h5_, h6_, h7_, h8_, h9_, h10_, h11_, h12_, h13_, h14_, h15_, h16_, h17_, h18_, h19_⟩
     try dsimp only at hS_ h0_ h1_ h2_ h3_ h4_ h5_ h6_ h7_ h8_ h9_ h10_ h11_ h12_ h13_ h14_ h15_ h16_ h17_ h18_ h19_
     clear Ab Ag Ak Ac Al Aj HB; have Ab := A_ h0_; have Ag := A_ h1_; have An := A_ h2_; have Aw := A_ h3_; have Ak := A_ h4_; have Ac := A_ h5_; have Al := A_ h6_; have Aj := A_ h7_; have Av := A_ h8_; have A0 := A_ h9_; have A0 := A_ h10_; have Ao := A_ h11_; have Ap := A_ h12_; have Ae := A_ h13_; have Aq := A_ h14_; have Ar := A_ h15_; have As := A_ h16_; have Am := A_ h17_; have Au := A_ h18_; have HB := A_ h19_; clear h0_ h1_ h2_ h3_ h4_ h5_ h6_ h7_ h8_ h9_ h10_ h11_ h12_ h13_ h14_ h15_ h16_ h17_ h18_ h19_; have hHeld : Cs.cell? ⟨Ai, 0, none⟩ = some (.int .i64 Bf) ∧ Cs.cell? ⟨Ai, 1, none⟩ = some (.int .i64 Bu) ∧ Cs.cell? ⟨Ai, 2, none⟩ = some (.slice Bg A4.length Bh) ∧ Cs.cell? ⟨Aa, 0, none⟩ = some (.int .i64 A1) ∧ Cs.cell? ⟨Aa, 1, none⟩ = some (.int .i64 Ay) ∧ Cs.cell? ⟨Aa, 2, none⟩ = some (.int .i64 Az) ∧ Cs.cell? ⟨Aa, 3, none⟩ = some (.slice Ba Ax.length Bb) := hS_; obtain ⟨Ch, Ci, Dd⟩ := Kd.R_slice Aw.out; (first | subst Dd | (injection Dd with f1_ f2_ f3_; have f4_ := f1_.symm; have f5_ := f3_.symm; clear f1_ f2_ f3_; subst f4_; subst f5_)); refine norm_ (a' := ?_) ?_ ?_; rotate_left
     ·
      simp only [putAll, Act.put, List.setIfInBounds_toArray, List.set_cons_zero, List.set_cons_succ]; rfl
     refine o1_ 14 (rl_ [15]) HT_ fun K hK => ?_; have := bc2_ Av.out; have := nn_ Ao; have := nn_ Ae; have := nn_ Ar; have := nn_ Am; refine skip_ (w1 := ?_) (by rfl) rfl ?_ ?_; rotate_left
     ·
      go_simp
      rfl
     refine hK.out _ _ ⟨((cell_far (p := ⟨Ah, _, none⟩) Am.out _).trans (((cell_far (p := ⟨Ah, _, none⟩) Am.out _).trans (hHeld.1)))), ((cell_far (p := ⟨Ah, _, none⟩) Am.out _).trans (((cell_far (p := ⟨Ah, _, none⟩) Am.out _).trans (hHeld.2.1)))), ((cell_far (p := ⟨Ah, _, none⟩) Am.out _).trans (((cell_far (p := ⟨Ah, _, none⟩) Am.out _).trans (hHeld.2.2.1)))), ((cell_far (p := ⟨Ah, _, none⟩) Ae.out _).trans (((cell_far (p := ⟨Ah, _, none⟩) Ae.out _).trans (hHeld.2.2.2.1)))), ((cell_far (p := ⟨Ah, _, none⟩) Ae.out _).trans (((cell_far (p := ⟨Ah, _, none⟩) Ae.out _).trans (hHeld.2.2.2.2.1)))), ((cell_far (p := ⟨Ah, _, none⟩) Ae.out _).trans (((cell_far (p := ⟨Ah, _, none⟩) Ae.out _).trans (hHeld.2.2.2.2.2.1)))), ((cell_far (p := ⟨Ah, _, none⟩) Ae.out _).trans (((cell_far (p := ⟨Ah, _, none⟩) Ae.out _).trans (hHeld.2.2.2.2.2.2))))⟩ (fun hHeld => ?_); clear hK K; refine done_ (done_of HT_.out (by kernel_rfl)) ?_; generalize hW_ : ((Cs.setCell ⟨Ah, 0, none⟩ (.int .i64 B3)).setCell ⟨Ah, 1, none⟩ (.slice Ch Bd.length Ci)) = Dn at ⊢; have n0_ := g1_ hW_ Ab; have n1_ := g1_ hW_ Ag; have n2_ := g1_ hW_ An; have n3_ := g1_ hW_ Aw; have n4_ := gb_ hW_ Ak; have n5_ := gb_ hW_ Ac; have n6_ := gb_ hW_ Al; have n7_ := gb_ hW_ Aj; have n8_ : Aside0 (Dn.heap[Ah]? = some (.cells #[.int .i64 B3, .slice Ch Bd.length Ci] 48 (0, 0))) := hW_ ▸ ⟨blk_a⟩; have n9_ : Aside0 (Below w.heap.size w Dn) := hW_ ▸ ⟨below_a⟩; skip; clear hW_; have Ab := n0_; have Ag := n1_; have An := n2_; have Aw := n3_; have Ak := n4_; have Ac := n5_; have Al := n6_; have Aj := n7_; have Av := n8_; have HB := n9_; clear n0_ n1_ n2_ n3_ n4_ n5_ n6_ n7_ n8_ n9_; have := nn_ Ap; have := nn_ Aq; have := nn_ As; have := nn_ Au; have := bc2_ Av.out
     try go_wp2_with (first | ((with_reducible refine d1_ 53 ?_); refine Kd.N_lit (Kd.slice 5 (Kd.int .u8)) _ 25 ?hg (N' := 53) ?hd (xs := ([A6, Bd] : List (List Int))) (inner := [.slice B4 A6.length Ca, .slice Ch Bd.length Ci]) (ok := (fun k_ => k_ ≠ Ad ∧ k_ ≠ Aa ∧ k_ ≠ Af ∧ k_ ≠ Ai ∧ k_ ≠ Ah)) (okp := (fun k_ => k_ ≠ Ad ∧ k_ ≠ Aa ∧ k_ ≠ Af ∧ k_ ≠ Ai ∧ k_ ≠ Ah)) ?hr ?hp (fun _ hk => hk) ((show ∀ k_, Dn.heap.size ≤ k_ → (fun k_ => k_ ≠ Ad ∧ k_ ≠ Aa ∧ k_ ≠ Af ∧ k_ ≠ Ai ∧ k_ ≠ Ah) k_ from fun k_ hk => ⟨Kd.freshB (g := Ad) blk_c k_ hk, Kd.freshB (g := Aa) blk_c k_ hk, Kd.freshB (g := Af) blk_c k_ hk, Kd.freshB (g := Ai) blk_c k_ hk, Kd.freshB (g := Ah) blk_c k_ hk⟩) _ (Nat.le_refl _)) (Below.refl _ _) (Nat.le_refl _) (by simp) ?_; (case hd => rfl); (case hg => rfl); (case hr => go_simp <;> rfl); (case hp => exact (Reps.one (show Kd.FK (Kd.slice 5 (Kd.int .u8)) _ _ A6 [.slice B4 A6.length Ca] from (Kd.FK_slice_mk (Kd.R_reads' (Kd.R_mono (ok' := (fun k_ => k_ ≠ Ad ∧ k_ ≠ Aa ∧ k_ ≠ Af ∧ k_ ≠ Ai ∧ k_ ≠ Ah)) (Kd.R_types (Kd.R_types (Kd.R_types (Kd.R_types (Kd.R_types (Ag.out) Ak.out (by decide)) Ac.out (by decide)) Al.out (by decide)) Aj.out (by decide)) Av.out (by decide)) (by exact fun k_ hk => ⟨hk.1.1.1.1.2, ⟨hk.1.1.1.2, ⟨hk.1.1.2, ⟨hk.1.2, hk.2⟩⟩⟩⟩))).2.1 (Kd.R_F (Kd.R_mono (ok' := (fun k_ => k_ ≠ Ad ∧ k_ ≠ Aa ∧ k_ ≠ Af ∧ k_ ≠ Ai ∧ k_ ≠ Ah)) (Kd.R_types (Kd.R_types (Kd.R_types (Kd.R_types (Kd.R_types (Ag.out) Ak.out (by decide)) Ac.out (by decide)) Al.out (by decide)) Aj.out (by decide)) Av.out (by decide)) (by exact fun k_ hk => ⟨hk.1.1.1.1.2, ⟨hk.1.1.1.2, ⟨hk.1.1.2, ⟨hk.1.2, hk.2⟩⟩⟩⟩))))) (Reps.one (show Kd.FK (Kd.slice 5 (Kd.int .u8)) _ _ Bd [.slice Ch Bd.length Ci] from (Kd.FK_slice_mk (Kd.R_reads' (Kd.R_mono (ok' := (fun k_ => k_ ≠ Ad ∧ k_ ≠ Aa ∧ k_ ≠ Af ∧ k_ ≠ Ai ∧ k_ ≠ Ah)) (Kd.R_types (Kd.R_types (Kd.R_types (Kd.R_types (Kd.R_types (Aw.out) Ak.out (by decide)) Ac.out (by decide)) Al.out (by decide)) Aj.out (by decide)) Av.out (by decide)) (by exact fun k_ hk => ⟨hk.1.1.1.1.2, ⟨hk.1.1.1.2, ⟨hk.1.1.2, ⟨hk.1.2, hk.2⟩⟩⟩⟩))).2.1 (Kd.R_F (Kd.R_mono (ok' := (fun k_ => k_ ≠ Ad ∧ k_ ≠ Aa ∧ k_ ≠ Af ∧ k_ ≠ Ai ∧ k_ ≠ Ah)) (Kd.R_types (Kd.R_types (Kd.R_types (Kd.R_types (Kd.R_types (Aw.out) Ak.out (by decide)) Ac.out (by decide)) Al.out (by decide)) Aj.out (by decide)) Av.out (by decide)) (by exact fun k_ hk => ⟨hk.1.1.1.1.2, ⟨hk.1.1.1.2, ⟨hk.1.1.2, ⟨hk.1.2, hk.2⟩⟩⟩⟩))))) (Reps.none _ _)))); intro Eg Ev Cg hb hg_ hnew_; clear hg_ hnew_; (first | rw [← Cr.out] at Cg | (simp only [Int.reduceToNat] at Cg; rw [← Cr.out] at Cg)); replace Ab := rv_ Ab hb; replace An := rv_ An hb; have Br := A_ (Kd.N_lower Cg (below_size below_a)); replace Ak := bw_ Ad hb; replace Ac := bw_ Aa hb; replace Al := bw_ Af hb; replace Aj := bw_ Ai hb; replace Av := bw_ Ah hb; replace HB := bs_ hb; clear Ag Aw; clear hb Cg; obtain ⟨Dp, Dq, Dr⟩ := Kd.N_slice Br.out; subst Dr) | ((with_reducible refine f1_ 56 ?_); refine gl_ (some 54) Try.func56 #[.slice Dp C7.length Dq] ?_; (with_reducible refine (slices_Concat_byte_byte.calls Cq _ _ C7 C8 _ ?_ ?_ Eb.out).mono ?_); exact ca_ ((Kd.N_reads' Br.out).2.2); exact (Kd.N_reads' Br.out).2.1; rintro e Ew ⟨Eh, rfl, A5, hb⟩; refine ⟨_, rfl, ?_⟩; replace Ab := rv_ Ab hb; replace An := rv_ An hb; replace Br := nv_ Br hb; have Ct := A_ (Kd.R_lower A5 (below_size below_a)); replace Ak := bw_ Ad hb; replace Ac := bw_ Aa hb; replace Al := bw_ Af hb; replace Aj := bw_ Ai hb; replace Av := bw_ Ah hb; replace HB := bs_ hb; (try clear hb A5); obtain ⟨Ds, Dt, rfl⟩ := Kd.R_slice Ct.out; have := nn_ A8; have := nn_ B0; have := bc2_ Al.out))
     refine bodyPost_ret (v := .agg #[.int .i64 0, .slice Ds C8.length Dt]) ?_ rfl ?_; exact rc_ Af Try.underlying48; exact ⟨_, eq_a, rp_ Ct, below_a⟩
    rw [if_neg C5] at H; obtain ⟨Bq, C6⟩ := nb_ C5; (first | rw [Bq] | (simp only [i64_w, i32_w]; rw [Bq]) | skip); obtain ⟨⟨De, Df⟩, Ei, H⟩ := bj_ H; (try dsimp only at H); obtain ⟨rfl, rfl⟩ := s2_ H; have := nn_ Bn; have := nn_ Bo; have := nn_ Bp; have := bc3_ Aj.out
    go_wp2_with (first | ((with_reducible refine f1_ 54 ?_); refine gl_ (some 28) Try.func54 #[.int .i64 Bf] ?_; (with_reducible refine (impl_noBytes.calls Bf De Df _ Ei.out).mono ?_); rintro e Ex ⟨Ej, rfl, A5, hb⟩; refine ⟨_, rfl, ?_⟩; replace Ab := rv_ Ab hb; have Cu := A_ (Kd.R_lower A5 (below_size below_a)); replace Ak := bw_ Ad hb; replace Ac := bw_ Aa hb; replace Al := bw_ Af hb; replace Aj := A_ (blk_below (g := Ai) (o := .cells #[.int .i64 Bf, .int .i64 Bu, .slice Bg A4.length Bh] 61 (0, 0)) blk_a hb); replace HB := bs_ hb; (try clear hb A5); have := nn_ A8; have := nn_ Bl; have := bc2_ Al.out; obtain ⟨Du, Dv, Dw⟩ := Kd.R_slice Cu.out; subst Dw))
    refine bodyPost_ret (v := .agg #[.int .i64 De, .slice Du Df.length Dv]) ?_ rfl ?_; exact rc_ Af Try.underlying48; exact ⟨_, eq_a, rp_ Cu, below_a⟩
   rw [if_neg C1] at H; obtain ⟨C2, C3⟩ := nb_ C1; obtain ⟨⟨Dg, Dh⟩, Ek, H⟩ := bj_ H; (try dsimp only at H); obtain ⟨rfl, rfl⟩ := s2_ H
   go_wp2_with (first | ((with_reducible refine f1_ 54 ?_); refine gl_ (some 18) Try.func54 #[.int .i64 Bx] ?_; (with_reducible refine (impl_noBytes.calls Bx Dg Dh _ Ek.out).mono ?_); rintro e Ey ⟨El, rfl, A5, hb⟩; refine ⟨_, rfl, ?_⟩; have Cv := A_ (Kd.R_lower A5 (below_size below_a)); replace Ak := bw_ Ad hb; replace Ac := bw_ Aa hb; replace Al := bw_ Af hb; replace HB := bs_ hb; (try clear hb A5); have := nn_ A8; have := nn_ Bl; have := bc2_ Al.out; obtain ⟨Dx, Dy, Dz⟩ := Kd.R_slice Cv.out; subst Dz))
   refine bodyPost_ret (v := .agg #[.int .i64 Dg, .slice Dx Dh.length Dy]) ?_ rfl ?_; exact rc_ Af Try.underlying48; exact ⟨_, eq_a, rp_ Cv, below_a⟩
def spec_LetterFault.f (a0_0 : Int) (a0_1 : Int) (a0_2 : Int) (l0_3 : List Int) : Option (Int) := (spec_l5Head.f a0_0 a0_1 a0_2 l0_3).bind fun t652 => (if t652 = true then (if (l0_3.length : Int) > 300 then (some 2) else (some 0)) else (some 3))
theorem spec_LetterFault.calls (Ab : Int) (Ac : Int) (Ad : Int) (Ae : Option Addr) (Af : Nat) (Aa : List Int) (r : Int) (w : World) (Ah : Kd.C (Kd.int .u8) w Ae Aa.length Aa) (Ai : Aa.length ≤ Af) (h : spec_LetterFault.f Ab Ac Ad Aa = some r) :
  Calls Try.prog 27 #[.agg #[.int .i64 Ab, .int .i64 Ac, .int .i64 Ad, .slice Ae Aa.length Af]] w fun e w' => e = .returned (.int .i64 r) ∧ Below w.heap.size w w' := by
 have hu28 := Try.underlying28
 have Aj := A_ Ah
 have Ak := A_ Ai
 clear Ah Ai
 have HB := A_ (Below.refl w.heap.size w)
 unfold spec_LetterFault.f at h; have H := h; clear h
 obtain ⟨Al, Ap, H⟩ := bi_ H
 (try dsimp only at H)
 have A2 := A_ Ap
 clear Ap
 have Aq := A_ H
 clear H
 go_enter Try.func27, Try.ntmps27
 go_upto_if 4 with (first | ((with_reducible refine d1_ 1 ?_); refine by_ 1 (#[.int .i64 Ab, .int .i64 Ac, .int .i64 Ad, .slice Ae Aa.length Af]) 28 ?_; intro Am hg w4 hbox hb; have Ag := A_ (hbox); have Ar := gw_ (w := w) hg; replace HB := bs_ hb; clear hb hbox hg) | (go_at_call 66; (with_reducible refine (spec_l5Head.calls _ Ab Ac Ad Ae Af Aa Al _ ?_ ?_ ?_ ?_ ?_ ?_ A2.out).mono ?_); exact ca_ (Kd.C_below Aj.out HB.out); exact Ak.out; exact (blk_cell (cs := #[.int .i64 Ab, .int .i64 Ac, .int .i64 Ad, .slice Ae Aa.length Af]) (t := 28) blk_a 0).trans rfl; exact (blk_cell (cs := #[.int .i64 Ab, .int .i64 Ac, .int .i64 Ad, .slice Ae Aa.length Af]) (t := 28) blk_a 1).trans rfl; exact (blk_cell (cs := #[.int .i64 Ab, .int .i64 Ac, .int .i64 Ad, .slice Ae Aa.length Af]) (t := 28) blk_a 2).trans rfl; exact (blk_cell (cs := #[.int .i64 Ab, .int .i64 Ac, .int .i64 Ad, .slice Ae Aa.length Af]) (t := 28) blk_a 3).trans rfl; rintro e w5 ⟨rfl, hb⟩; replace Ag := bw_ Am hb; replace HB := bs_ hb; (try clear hb)))
 (try simp only [P4_])
 have H := Aq.out
 clear Aq
 by_cases c6 : Al = true
 ·
  subst c6; rw [if_pos rfl] at H
  by_cases c7 : (Aa.length : Int) > 300
  ·
   rw [if_pos c7] at H; have An := dt_ c7; have Ao : decide (300 < Aa.length) = true := decide_eq_true (by omega); clear c7; obtain rfl := Option.some.inj H; have := bc4_ Ag.out
   go_wp2
   go_ret
   exact ⟨eq_a, below_a⟩
  rw [if_neg c7] at H; have An := df_ c7; have Ao : decide (300 < Aa.length) = false := decide_eq_false (by omega); clear c7; obtain rfl := Option.some.inj H; have := bc4_ Ag.out
  go_wp2
  go_ret
  exact ⟨eq_a, below_a⟩
 replace c6 := Bool.eq_false_iff.mpr c6; subst c6; rw [if_neg ff_] at H; obtain rfl := Option.some.inj H
 go_wp2
 go_ret
 exact ⟨eq_a, below_a⟩
def spec_l3Seal.f (k : Nat) (l0 : List Int) (l1 : List Int) (l2 : List Int) (l3 : List Int) : Option (List Int) := (spec_l2Keys.f l0).bind fun Ab => ((spec_l3First.f l1).bind fun Ad => ((spec_l3Count.f k Ad).bind fun Ae => ((spec_l3Stream.f k Ab Ae l3).bind fun Aa => ((spec_l3Tag.f k Ab l1 l2 Aa).bind fun Ac => (if Aa.length + Ac.length < 140737488355328 then (some (Aa ++ Ac)) else (none))))))
theorem spec_l3Seal.calls (k : Nat) (A0 : Option Addr) (c0 : Nat) (l0 : List Int) (A1 : Option Addr) (c1 : Nat) (l1 : List Int) (A2 : Option Addr) (c2 : Nat) (l2 : List Int) (A3 : Option Addr) (c3 : Nat) (l3 : List Int) (r : List Int) (w : World) (Bc : Kd.C (Kd.int .u8) w A0 l0.length l0) (Bd : l0.length ≤ c0) (Be : Kd.C (Kd.int .u8) w A1 l1.length l1) (Bf : l1.length ≤ c1) (Bg : Kd.C (Kd.int .u8) w A2 l2.length l2) (Bh : l2.length ≤ c2) (Bi : Kd.C (Kd.int .u8) w A3 l3.length l3) (Bj : l3.length ≤ c3) (h : spec_l3Seal.f k l0 l1 l2 l3 = some r) :
  Calls Try.prog 94 #[.slice A0 l0.length c0, .slice A1 l1.length c1, .slice A2 l2.length c2, .slice A3 l3.length c3] w fun e w' => ∃ v0_ : Value, e = .returned (v0_) ∧ Kd.R (Kd.int .u8) 5 w' w.heap.size (fun _ => True) v0_ r ∧ Below w.heap.size w w' := by
 have Bs := A_ Bc
 have Bt := A_ Bd
 clear Bc Bd
 have Bk := A_ Be
 have Bl := A_ Bf
 clear Be Bf
 have Bu := A_ Bg
 have Bv := A_ Bh
 clear Bg Bh
 have Bw := A_ Bi
 have Bx := A_ Bj
 clear Bi Bj
 have HB := A_ (Below.refl w.heap.size w)
 unfold spec_l3Seal.f at h; have H := h; clear h
 obtain ⟨Af, Bm, H⟩ := bi_ H
 (try dsimp only at H)
 have A5 := A_ Bm
 clear Bm
 obtain ⟨Ai, Bn, H⟩ := bi_ H
 (try dsimp only at H)
 have A6 := A_ Bn
 clear Bn
 obtain ⟨Ag, Bo, H⟩ := bi_ H
 (try dsimp only at H)
 have A7 := A_ Bo
 clear Bo
 obtain ⟨Ak, Bp, H⟩ := bi_ H
 (try dsimp only at H)
 have A8 := A_ Bp
 clear Bp
 obtain ⟨Aj, Bq, H⟩ := bi_ H
 (try dsimp only at H)
 have A9 := A_ Bq
 clear Bq
 obtain ⟨Br, H⟩ := iq_ H; have LMc10 := A_ Br; clear Br; obtain ⟨Bz, Ap⟩ := ey_ (Ak ++ Aj : List Int); (try (with_reducible replace H := os_ H)); (try dsimp only at H); (try rw [← Ap] at H)
 have Av := A_ Ap; clear Ap; obtain rfl := Option.some.inj H
 go_enter Try.func94, Try.ntmps94
 go_wp2_with (first | ((with_reducible refine f1_ 74 ?_); refine gl_ (some 12) Try.func74 #[.slice A0 l0.length c0] ?_; (with_reducible refine (spec_l2Keys.calls _ _ l0 Af _ ?_ ?_ A5.out).mono ?_); exact ca_ Bs.out; exact Bt.out; rintro e Cd ⟨B0, rfl, Ae, hb⟩; refine ⟨_, rfl, ?_⟩; have Aa := A_ (Kd.R_lower Ae (below_size below_a)); replace HB := bs_ hb; (try clear hb Ae)) | ((with_reducible refine f1_ 78 ?_); refine gl_ (some 15) Try.func78 #[.slice A1 l1.length c1] ?_; (with_reducible refine (spec_l3First.calls _ _ l1 Ai _ ?_ ?_ A6.out).mono ?_); exact ca_ (Kd.C_below Bk.out HB.out); exact Bl.out; rintro e Ce ⟨B3, rfl, Ae, hb⟩; refine ⟨_, rfl, ?_⟩; have n0_ := re_ Aa hb (Kd.R_base Ae); have Ab := A_ (Kd.R_lower (Kd.R_new' Ae (Kd.R_lt (R_a Aa.out))) (below_size below_a)); replace HB := bs_ hb; replace Aa := n0_; clear n0_; (try clear hb Ae); obtain ⟨Aq, Ar, Az⟩ := Kd.R_slice Ab.out; subst Az) | ((with_reducible refine f1_ 77 ?_); refine gl_ (some 16) Try.func77 #[.slice Aq Ai.length Ar] ?_; (with_reducible refine (spec_l3Count.calls k _ _ Ai Ag _ ?_ ?_ A7.out).mono ?_); exact cr_ Ab; exact cl_ Ab; rintro e Cf ⟨B4, rfl, Ae, hb⟩; refine ⟨_, rfl, ?_⟩; have n0_ := re_ Aa hb (Kd.R_base Ae); have n1_ := re_ Ab hb (Kd.R_base Ae); have Ac := A_ (Kd.R_lower (Kd.R_new' (Kd.R_new' Ae (Kd.R_lt (R_a Aa.out))) (Kd.R_lt (R_a Ab.out))) (below_size below_a)); replace HB := bs_ hb; replace Aa := n0_; replace Ab := n1_; clear n0_ n1_; (try clear hb Ae); obtain ⟨Al, Am, rfl⟩ := Kd.R_slice Aa.out; obtain ⟨An, Ao, A4⟩ := Kd.R_slice Ac.out; subst A4) | ((with_reducible refine f1_ 76 ?_); refine gl_ (some 18) Try.func76 #[.slice Al Af.length Am, .slice An Ag.length Ao, .slice A3 l3.length c3] ?_; (with_reducible refine (spec_l3Stream.calls k _ _ Af (fun k_ => some k_ = (.slice An Ag.length Ao : Value).ownBlock) _ _ Ag _ _ l3 Ak _ ?_ ?_ ?_ ?_ ?_ A8.out).mono ?_); exact cr_ Aa; exact cl_ Aa; exact Kd.R_V (Kd.R_tight rfl (Ac.out)); exact ca_ (Kd.C_below Bw.out HB.out); exact Bx.out; rintro e Cg ⟨Ca, rfl, Ae, hb⟩; refine ⟨_, rfl, ?_⟩; have n0_ := re_ Aa hb (Kd.R_base Ae); have n1_ := re_ Ab hb (Kd.R_base Ae); have n2_ := re_ Ac hb (Kd.R_base Ae); have Ad := A_ (Kd.R_lower (Kd.R_new' (Kd.R_new' (Kd.R_new' (Kd.R_mono (ok' := fun k_ => True) Ae (fun _ hk_ => trivial)) (Kd.R_lt (R_a Aa.out))) (Kd.R_lt (R_a Ab.out))) (Kd.R_lt (R_a Ac.out))) (below_size below_a)); replace HB := bs_ hb; replace Aa := n0_; replace Ab := n1_; replace Ac := n2_; clear n0_ n1_ n2_; (try clear hb Ae); obtain ⟨Aw, Ax, Ba⟩ := Kd.R_slice Ad.out; subst Ba) | ((with_reducible refine f1_ 75 ?_); refine gl_ (some 24) Try.func75 #[.slice Al Af.length Am, .slice A1 l1.length c1, .slice A2 l2.length c2, .slice Aw Ak.length Ax] ?_; (with_reducible refine (spec_l3Tag.calls k _ _ Af _ _ l1 _ _ l2 _ _ Ak Aj _ ?_ ?_ ?_ ?_ ?_ ?_ ?_ ?_ A9.out).mono ?_); exact cr_ Aa; exact cl_ Aa; exact ca_ (Kd.C_below Bk.out HB.out); exact Bl.out; exact ca_ (Kd.C_below Bu.out HB.out); exact Bv.out; exact cr_ Ad; exact cl_ Ad; rintro e Ch ⟨Cb, rfl, Ae, hb⟩; refine ⟨_, rfl, ?_⟩; have n0_ := re_ Aa hb (Kd.R_base Ae); have n1_ := re_ Ab hb (Kd.R_base Ae); have n2_ := re_ Ac hb (Kd.R_base Ae); have n3_ := re_ Ad hb (Kd.R_base Ae); have Ah := A_ (Kd.R_lower (Kd.R_new' (Kd.R_new' (Kd.R_new' (Kd.R_new' Ae (Kd.R_lt (R_a Aa.out))) (Kd.R_lt (R_a Ab.out))) (Kd.R_lt (R_a Ac.out))) (Kd.R_lt (R_a Ad.out))) (below_size below_a)); replace HB := bs_ hb; replace Aa := n0_; replace Ab := n1_; replace Ac := n2_; replace Ad := n3_; clear n0_ n1_ n2_ n3_; (try clear hb Ae); obtain ⟨As, Au, Bb⟩ := Kd.R_slice Ah.out; subst Bb) | ((with_reducible refine gate_builtin (b := .append) (xs := #[.tmp 19, .tmp 24]) rfl ?_); at_builtin; refine Kd.R_append_rows (Kd.int .u8) (w0 := w) w.heap.size rfl (.tmp 19) (.tmp 24) 25 5 (.int .u8 0) 1 rfl Try.underlying25 info5 rfl (by decide) (by omega) (.slice Aw Ak.length Ax) Ak Aj _ _ _ (fun k_ => some k_ ≠ (.slice Al Af.length Am : Value).ownBlock ∧ some k_ ≠ (.slice Aq Ai.length Ar : Value).ownBlock ∧ some k_ ≠ (.slice An Ag.length Ao : Value).ownBlock ∧ some k_ ≠ (.slice As Aj.length Au : Value).ownBlock) (fun _ => False) rfl rfl ?aO ?aR (fun _ _ h => h) (fun _ h => h.elim) ?aF ?aB ?aS ?aL ?_; (case aR => exact cr_ Ah); (case aB => exact below_a); (case aF => exact (fun k_ hk => ⟨Kd.fresh' (Kd.R_lt (R_a Aa.out)) k_ hk, Kd.fresh' (Kd.R_lt (R_a Ab.out)) k_ hk, Kd.fresh' (Kd.R_lt (R_a Ac.out)) k_ hk, Kd.fresh' (Kd.R_lt (R_a Ah.out)) k_ hk⟩)); (case aO => exact (rp_ Ad)); (case aS => exact (below_size below_a)); (case aL => have := LMc10.out; omega); intro Cc Ci ho hb hg hat; rw [← Av.out] at ho; replace Aa := A_ (Kd.R_after (ok := (fun k_ => some k_ ≠ (.slice Aq Ai.length Ar : Value).ownBlock ∧ some k_ ≠ (.slice An Ag.length Ao : Value).ownBlock ∧ some k_ ≠ (.slice As Aj.length Au : Value).ownBlock)) (rp_ Aa) hg hat); replace Ab := A_ (Kd.R_after (ok := (fun k_ => some k_ ≠ (.slice Al Af.length Am : Value).ownBlock ∧ some k_ ≠ (.slice An Ag.length Ao : Value).ownBlock ∧ some k_ ≠ (.slice As Aj.length Au : Value).ownBlock)) (rp_ Ab) hg hat); replace Ac := A_ (Kd.R_after (ok := (fun k_ => some k_ ≠ (.slice Al Af.length Am : Value).ownBlock ∧ some k_ ≠ (.slice Aq Ai.length Ar : Value).ownBlock ∧ some k_ ≠ (.slice As Aj.length Au : Value).ownBlock)) (rp_ Ac) hg hat); replace Ah := A_ (Kd.R_after (ok := (fun k_ => some k_ ≠ (.slice Al Af.length Am : Value).ownBlock ∧ some k_ ≠ (.slice Aq Ai.length Ar : Value).ownBlock ∧ some k_ ≠ (.slice An Ag.length Ao : Value).ownBlock)) (rp_ Ah) hg hat); replace HB := A_ (hb); have Ay := A_ (ho); clear Ad; clear ho hb hg hat))
 go_ret
 exact ⟨_, eq_a, rp_ Ay, below_a⟩
def spec_l5Seal.f (k : Nat) (l0 : List Int) (Ag : Int) (Aa : Int) (Ab : Int) (Ac : List Int) : Option (List Int) := (spec_l5HeadOf.f k Ag Aa Ab Ac).bind fun Ad => ((spec_l1Copy.f Ad).bind fun Ae => ((spec_l5Nonce.f k Aa Ab).bind fun Ah => ((spec_l3Seal.f k l0 Ah Ad Ac).bind fun Af => (if Ae.length + Af.length < 140737488355328 then (some (Ae ++ Af)) else (none)))))
def spec_l5Seal.T2 : Bool × List (List Nat × List Nat) := (true, [([], []), ([0], [0]), ([], []), ([], []), ([3], [3]), ([4], [4]), ([5], [5]), ([], []), ([7], [7]), ([8], [8]), ([9], [9]), ([6, 10, 1], [6, 10]), ([], []), ([], []), ([13], [13]), ([14], [14]), ([15], [15]), ([2, 11, 12, 16, 11], [2, 11, 12, 16]), ([1, 17, 17], [1, 17]), ([18, 18, 0, 1, 2, 3, 4, 5, 6, 7, 8, 9, 10, 11, 12, 13, 14, 15, 16, 17, 18], [18])])
def spec_l5Seal.B2 : List Nat := [0, 1, 0, 0, 8, 24, 56, 0, 128, 384, 896, 2043, 0, 0, 8192, 24576, 57344, 131071, 262143, 524287]
theorem spec_l5Seal.tab2 : rtab .any (opsOf Try.f64 2) = spec_l5Seal.T2 := by kernel_rfl
theorem spec_l5Seal.bits2 : waitsOk spec_l5Seal.T2.2 spec_l5Seal.B2 = true := by kernel_rfl
theorem spec_l5Seal.calls (k : Nat) (A0 : Option Addr) (c0 : Nat) (l0 : List Int) (p : Addr) (Aq : Int) (Ah : Int) (Ai : Int) (Al : Option Addr) (Am : Nat) (Ad : List Int) (r : List Int) (w : World) (Bd : Kd.C (Kd.int .u8) w A0 l0.length l0) (Be : l0.length ≤ c0) (Au : Kd.C (Kd.int .u8) w Al Ad.length Ad) (Av : Ad.length ≤ Am) (hxp_0 : w.cell? p = some (.int .i64 Aq)) (hxp_1 : w.cell? ⟨p.block, p.off + 1, none⟩ = some (.int .i64 Ah)) (hxp_2 : w.cell? ⟨p.block, p.off + 2, none⟩ = some (.int .i64 Ai)) (hxp_3 : w.cell? ⟨p.block, p.off + 3, none⟩ = some (.slice Al Ad.length Am)) (h : spec_l5Seal.f k l0 Aq Ah Ai Ad = some r) :
  Calls Try.prog 64 #[.slice A0 l0.length c0, .pointer (some p)] w fun e w' => ∃ v0_ : Value, e = .returned (v0_) ∧ Kd.R (Kd.int .u8) 5 w' w.heap.size (fun _ => True) v0_ r ∧ Below w.heap.size w w' := by
 have Bj := A_ Bd
 have Bk := A_ Be
 clear Bd Be
 have HXP_0 := A_ hxp_0
 have HXP_1 := A_ hxp_1
 have HXP_2 := A_ hxp_2
 have HXP_3 := A_ hxp_3
 have HLP := A_ (show p.block < w.heap.size from World.block_lt_of_cell? w _ hxp_0)
 clear hxp_0 hxp_1 hxp_2 hxp_3
 have Aw := A_ Au
 have Ax := A_ Av
 clear Au Av
 have HB := A_ (Below.refl w.heap.size w)
 unfold spec_l5Seal.f at h; have H := h; clear h
 obtain ⟨Ae, Bf, H⟩ := bi_ H
 (try dsimp only at H)
 have A3 := A_ Bf
 clear Bf
 obtain ⟨Ay, Bg, H⟩ := bi_ H
 (try dsimp only at H)
 have A4 := A_ Bg
 clear Bg
 obtain ⟨Aj, Bh, H⟩ := bi_ H
 (try dsimp only at H)
 have A5 := A_ Bh
 clear Bh
 obtain ⟨Ak, Bi, H⟩ := bi_ H
 (try dsimp only at H)
 have A6 := A_ Bi
 clear Bi
 obtain ⟨c7, H⟩ := iq_ H; have LMc7 := A_ c7; clear c7; obtain ⟨Bl, An⟩ := ey_ (Ay ++ Ak : List Int); (try (with_reducible replace H := os_ H)); (try dsimp only at H); (try rw [← An] at H)
 have A7 := A_ An; clear An; obtain rfl := Option.some.inj H
 go_enter Try.func64, Try.ntmps64
 try go_wp2_with (first | (go_at_call 38; (with_reducible refine (spec_l5HeadOf.calls k _ Aq Ah Ai Al Am Ad Ae _ ?_ ?_ ?_ ?_ ?_ ?_ A3.out).mono ?_); exact ca_ Aw.out; exact Ax.out; exact ((show Below w.heap.size w _ from below_a).cell (p := p) HLP.out).trans HXP_0.out; exact ((show Below w.heap.size w _ from below_a).cell (p := ⟨p.block, p.off + 1, none⟩) HLP.out).trans HXP_1.out; exact ((show Below w.heap.size w _ from below_a).cell (p := ⟨p.block, p.off + 2, none⟩) HLP.out).trans HXP_2.out; exact ((show Below w.heap.size w _ from below_a).cell (p := ⟨p.block, p.off + 3, none⟩) HLP.out).trans HXP_3.out; rintro e w8 ⟨Bm, rfl, Af, hb⟩; have Aa := A_ (Kd.R_lower Af (below_size below_a)); replace HB := bs_ hb; (try clear hb Af)))
 replace Aa := hd_ Aa; replace HB := A_ (below_drew1 HB.out); obtain ⟨Ao, Ap, A8⟩ := Kd.R_slice Aa.out; (first | subst A8 | (injection A8 with f1_ f2_ f3_; have f4_ := f1_.symm; have f5_ := f3_.symm; clear f1_ f2_ f3_; subst f4_; subst f5_)); refine start_ (n := 20) (S := fun w' => w'.cell? p = some (.int .i64 Aq) ∧ w'.cell? ⟨p.block, p.off + 1, none⟩ = some (.int .i64 Ah) ∧ w'.cell? ⟨p.block, p.off + 2, none⟩ = some (.int .i64 Ai) ∧ w'.cell? ⟨p.block, p.off + 3, none⟩ = some (.slice Al Ad.length Am)) (ds := []) (rl_ [0, 20]) (by kernel_rfl) rfl rfl ⟨((HB.out.cell (p := p) HLP.out).trans HXP_0.out), ((HB.out.cell (p := ⟨p.block, p.off + 1, none⟩) HLP.out).trans HXP_1.out), ((HB.out.cell (p := ⟨p.block, p.off + 2, none⟩) HLP.out).trans HXP_2.out), ((HB.out.cell (p := ⟨p.block, p.off + 3, none⟩) HLP.out).trans HXP_3.out)⟩ (fun hHeld => ?_); refine with_tabW spec_l5Seal.tab2 spec_l5Seal.bits2 (fun HT_ HW_ => ?_); generalize w8.drew = w9 at Aa HB hHeld ⊢; refine p1_ 0 (rl_ [1, 19]) HT_ ?_
 refine p1_ 2 (rl_ [1, 1, 1, 17]) HT_ ?_
 refine p1_ 3 (rl_ [1, 1, 2, 16]) HT_ ?_
 refine p1_ 4 (rl_ [1, 1, 3, 15]) HT_ ?_
 refine p1_ 5 (rl_ [1, 1, 4, 14]) HT_ ?_
 refine p1_ 7 (rl_ [1, 1, 4, 1, 1, 12]) HT_ ?_
 refine p1_ 8 (rl_ [1, 1, 4, 1, 2, 11]) HT_ ?_
 refine p1_ 9 (rl_ [1, 1, 4, 1, 3, 10]) HT_ ?_
 refine p1_ 12 (rl_ [1, 1, 4, 1, 3, 2, 1, 7]) HT_ ?_
 refine p1_ 13 (rl_ [1, 1, 4, 1, 3, 2, 2, 6]) HT_ ?_
 refine p1_ 14 (rl_ [1, 1, 4, 1, 3, 2, 3, 5]) HT_ ?_
 refine p1_ 15 (rl_ [1, 1, 4, 1, 3, 2, 4, 4]) HT_ ?_
 refine t1_ 6 (rl_ [1, 1, 8, 2, 4, 4]) HT_ HW_ hHeld ?_
 refine t1_ 10 (rl_ [1, 1, 9, 1, 4, 4]) HT_ HW_ hHeld ?_
 refine t1_ 16 (rl_ [1, 1, 9, 1, 5, 3]) HT_ HW_ hHeld ?_
 refine o1_ 1 (rl_ [11, 1, 5, 3]) HT_ fun K hK => ?_; refine gs_ Try.func63 #[.slice Ao Ae.length Ap] ?_
 with_reducible refine (spec_l1Copy.calls _ _ Ae Ay _ ?_ ?_ A4.out).mono ?_
 exact cr_ Aa; exact cl_ Aa; rintro e Bq ⟨Bc, rfl, Af, hb⟩; refine ⟨_, rfl, ?_⟩; have n0_ := re_ Aa hb (Kd.R_base Af); have Ac := A_ (Kd.R_lower (Kd.R_new' Af (Kd.R_lt (R_a Aa.out))) (below_size below_a)); replace HB := bs_ hb; replace Aa := n0_; clear n0_; (try clear hb Af); refine k1_ hK ⟨((HB.out.cell (p := p) HLP.out).trans HXP_0.out), ((HB.out.cell (p := ⟨p.block, p.off + 1, none⟩) HLP.out).trans HXP_1.out), ((HB.out.cell (p := ⟨p.block, p.off + 2, none⟩) HLP.out).trans HXP_2.out), ((HB.out.cell (p := ⟨p.block, p.off + 3, none⟩) HLP.out).trans HXP_3.out)⟩ (fun hHeld => ?_); clear hK K; refine o1_ 11 (rl_ [17, 3]) HT_ fun K hK => ?_; refine gs_ Try.func37 #[.int .i64 Ah, .int .i64 Ai] ?_
 with_reducible refine (spec_l5Nonce.calls k Ah Ai Aj _ A5.out).mono ?_
 rintro e Br ⟨Bn, rfl, Af, hb⟩; refine ⟨_, rfl, ?_⟩; have n0_ := re_ Aa hb (Kd.R_base Af); have n1_ := re_ Ac hb (Kd.R_base Af); have Ab := A_ (Kd.R_lower (Kd.R_new' (Kd.R_new' Af (Kd.R_lt (R_a Aa.out))) (Kd.R_lt (R_a Ac.out))) (below_size below_a)); replace HB := bs_ hb; replace Aa := n0_; replace Ac := n1_; clear n0_ n1_; (try clear hb Af); obtain ⟨Ar, As, A9⟩ := Kd.R_slice Ab.out; (first | subst A9 | (injection A9 with f1_ f2_ f3_; have f4_ := f1_.symm; have f5_ := f3_.symm; clear f1_ f2_ f3_; subst f4_; subst f5_)); refine k1_ hK ⟨((HB.out.cell (p := p) HLP.out).trans HXP_0.out), ((HB.out.cell (p := ⟨p.block, p.off + 1, none⟩) HLP.out).trans HXP_1.out), ((HB.out.cell (p := ⟨p.block, p.off + 2, none⟩) HLP.out).trans HXP_2.out), ((HB.out.cell (p := ⟨p.block, p.off + 3, none⟩) HLP.out).trans HXP_3.out)⟩ (fun hHeld => ?_); clear hK K; refine o1_ 17 (rl_ [18, 2]) HT_ fun K hK => ?_; refine gs_ Try.func94 #[.slice A0 l0.length c0, .slice Ar Aj.length As, .slice Ao Ae.length Ap, .slice Al Ad.length Am] ?_
 with_reducible refine (spec_l3Seal.calls k _ _ l0 _ _ Aj _ _ Ae _ _ Ad Ak _ ?_ ?_ ?_ ?_ ?_ ?_ ?_ ?_ A6.out).mono ?_
 exact ca_ (Kd.C_below Bj.out HB.out); exact Bk.out; exact cr_ Ab; exact cl_ Ab; exact cr_ Aa; exact cl_ Aa; exact ca_ (Kd.C_below Aw.out HB.out); exact Ax.out; rintro e Bs ⟨Bo, rfl, Af, hb⟩; refine ⟨_, rfl, ?_⟩; have n0_ := re_ Aa hb (Kd.R_base Af); have n1_ := re_ Ac hb (Kd.R_base Af); have n2_ := re_ Ab hb (Kd.R_base Af); have Ag := A_ (Kd.R_lower (Kd.R_new' (Kd.R_new' (Kd.R_new' Af (Kd.R_lt (R_a Aa.out))) (Kd.R_lt (R_a Ac.out))) (Kd.R_lt (R_a Ab.out))) (below_size below_a)); replace HB := bs_ hb; replace Aa := n0_; replace Ac := n1_; replace Ab := n2_; clear n0_ n1_ n2_; (try clear hb Af); obtain ⟨Az, A1, Ba⟩ := Kd.R_slice Ag.out; (first | subst Ba | (injection Ba with f1_ f2_ f3_; have f4_ := f1_.symm; have f5_ := f3_.symm; clear f1_ f2_ f3_; subst f4_; subst f5_)); refine k1_ hK ⟨((HB.out.cell (p := p) HLP.out).trans HXP_0.out), ((HB.out.cell (p := ⟨p.block, p.off + 1, none⟩) HLP.out).trans HXP_1.out), ((HB.out.cell (p := ⟨p.block, p.off + 2, none⟩) HLP.out).trans HXP_2.out), ((HB.out.cell (p := ⟨p.block, p.off + 3, none⟩) HLP.out).trans HXP_3.out)⟩ (fun hHeld => ?_); clear hK K; refine o1_ 18 (rl_ [19, 1]) HT_ fun K hK => ?_; refine Kd.R_append_rows_step (Kd.int .u8) (w0 := w) w.heap.size (by rfl) (.tmp 9) (.tmp 25) 25 5 (.int .u8 0) 1 rfl Try.underlying25 info5 rfl (by decide) (by omega) Bc Ay Ak _ _ _ (fun k_ => some k_ ≠ (.slice Ao Ae.length Ap : Value).ownBlock ∧ some k_ ≠ (.slice Ar Aj.length As : Value).ownBlock ∧ some k_ ≠ (.slice Az Ak.length A1 : Value).ownBlock) (fun _ => False) rfl rfl ?aO ?aR (fun _ _ h => h) (fun _ h => h.elim) ?aF ?aB ?aS ?aL ?_; (case aR => exact cr_ Ag); (case aB => exact below_a); (case aF => exact (fun k_ hk => ⟨Kd.fresh' (Kd.R_lt (R_a Aa.out)) k_ hk, Kd.fresh' (Kd.R_lt (R_a Ab.out)) k_ hk, Kd.fresh' (Kd.R_lt (R_a Ag.out)) k_ hk⟩)); (case aO => exact (rp_ Ac)); (case aS => exact (below_size below_a)); (case aL => have := LMc7.out; omega); intro Bp Bt ho hb hg hat; rw [← A7.out] at ho; replace Aa := A_ (Kd.R_after (ok := (fun k_ => some k_ ≠ (.slice Ar Aj.length As : Value).ownBlock ∧ some k_ ≠ (.slice Az Ak.length A1 : Value).ownBlock)) (rp_ Aa) hg hat); replace Ab := A_ (Kd.R_after (ok := (fun k_ => some k_ ≠ (.slice Ao Ae.length Ap : Value).ownBlock ∧ some k_ ≠ (.slice Az Ak.length A1 : Value).ownBlock)) (rp_ Ab) hg hat); replace Ag := A_ (Kd.R_after (ok := (fun k_ => some k_ ≠ (.slice Ao Ae.length Ap : Value).ownBlock ∧ some k_ ≠ (.slice Ar Aj.length As : Value).ownBlock)) (rp_ Ag) hg hat); replace HB := A_ (hb); have Bb := A_ (ho); clear Ac ho hb hg hat; refine k1_ hK ⟨((HB.out.cell (p := p) HLP.out).trans HXP_0.out), ((HB.out.cell (p := ⟨p.block, p.off + 1, none⟩) HLP.out).trans HXP_1.out), ((HB.out.cell (p := ⟨p.block, p.off + 2, none⟩) HLP.out).trans HXP_2.out), ((HB.out.cell (p := ⟨p.block, p.off + 3, none⟩) HLP.out).trans HXP_3.out)⟩ (fun hHeld => ?_); clear hK K; refine p1_ 19 (rl_ [20]) HT_ ?_
 refine done_ (done_of HT_.out (by kernel_rfl)) ?_
 try go_wp2
 go_ret
 exact ⟨_, eq_a, rp_ Bb, below_a⟩
def spec_SealLetter.f (k : Nat) (Ad : Int) (Aa : List (S59)) (Ac : Int) (Ae : Int) (Af : Int) (Ag : List Int) : Option (Int × List Int) := (spec_RingFault.f k Ad Aa).bind fun Ah => (if Ah = 0 then ((spec_LetterFault.f Ac Ae Af Ag).bind fun Ai => (if Ai = 0 then ((spec_l4Find.f k Ad Aa Ac).bind fun Ab => (if Ab < 0 then (some (4, ([] : List Int))) else (if 0 ≤ Ab then (if Ab < (Aa.length : Int) then ((spec_l5Seal.f k ((rd_T59 Aa Ab).f1) Ac Ae Af Ag).bind fun Aj => (some (0, Aj))) else (none)) else (none)))) else (some (Ai, ([] : List Int))))) else (some (Ah, ([] : List Int))))
theorem spec_SealLetter.calls (k : Nat) (Au : Int) (Ay : Option Addr) (Az : Nat) (Ab : List (S59)) (Ai : Int) (Ak : Int) (Al : Int) (Ar : Option Addr) (As : Nat) (Ac : List Int) (r1 : Int) (r2 : List Int) (w : World) (Ba : Kd.C k59 w Ay Ab.length Ab) (Bb : Ab.length ≤ Az) (Bc : Kd.C (Kd.int .u8) w Ar Ac.length Ac) (Bd : Ac.length ≤ As) (h : spec_SealLetter.f k Au Ab Ai Ak Al Ac = some (r1, r2)) :
  Calls Try.prog 24 #[.agg #[.int .i64 Au, .slice Ay Ab.length Az], .agg #[.int .i64 Ai, .int .i64 Ak, .int .i64 Al, .slice Ar Ac.length As]] w fun e w' => ∃ v1_ : Value, e = .returned (.agg #[.int .i64 r1, v1_]) ∧ Kd.R (Kd.int .u8) 5 w' w.heap.size (fun _ => True) v1_ r2 ∧ Below w.heap.size w w' := by
 have hu34 := Try.underlying34
 have hu28 := Try.underlying28
 have hu48 := Try.underlying48
 have A7 := A_ Ba
 have Be := A_ Bb
 clear Ba Bb
 have Bf := A_ Bc
 have Bg := A_ Bd
 clear Bc Bd
 have HB := A_ (Below.refl w.heap.size w)
 unfold spec_SealLetter.f at h; have H := h; clear h
 obtain ⟨Bi, B0, H⟩ := bi_ H
 (try dsimp only at H)
 have A3 := A_ B0
 clear B0
 have B3 := A_ H
 clear H
 go_enter Try.func24, Try.ntmps24
 go_upto_if 11 with (first | ((with_reducible refine d1_ 2 ?_); refine by_ 2 (#[.int .i64 Au, .slice Ay Ab.length Az]) 34 ?_; intro Ae hg w5 hbox hb; have Af := A_ (hbox); have B4 := gw_ (w := w) hg; replace HB := bs_ hb; clear hb hbox hg) | ((with_reducible refine d1_ 3 ?_); refine by_ 3 (#[.int .i64 Ai, .int .i64 Ak, .int .i64 Al, .slice Ar Ac.length As]) 28 ?_; intro Am hg w6 hbox hb; have Aj := A_ (hbox); have Ca := gw_ (w := w) hg; obtain ⟨An, Ao⟩ := bu_ Ae hg; replace Af := bw_ Ae hb; replace HB := bs_ hb; clear hb hbox hg) | ((with_reducible refine d1_ 4 ?_); refine by_ 4 (#[.int .i64 0, .slice none 0 0]) 48 ?_; intro Ag hg w7 hbox hb; have Ah := A_ (hbox); have Cb := gw_ (w := w) hg; obtain ⟨Ap, Ad⟩ := bu_ Ae hg; obtain ⟨Aq, Aa⟩ := bu_ Am hg; replace Af := bw_ Ae hb; replace Aj := bw_ Am hb; replace HB := bs_ hb; clear hb hbox hg; have := nn_ An; have := nn_ Ap; have := bc2_ Af.out) | ((with_reducible refine f1_ 34 ?_); refine gl_ (some 9) Try.func34 #[.agg #[.int .i64 Au, .slice Ay Ab.length Az]] ?_; (with_reducible refine (spec_RingFault.calls k Au _ _ Ab Bi _ ?_ ?_ A3.out).mono ?_); exact ca_ (Kd.C_below A7.out HB.out); exact Be.out; rintro e Cm ⟨rfl, hb⟩; refine ⟨_, rfl, ?_⟩; replace Af := bw_ Ae hb; replace Aj := bw_ Am hb; replace Ah := bw_ Ag hb; replace HB := bs_ hb; (try clear hb)))
 (try simp only [P4_])
 have H := B3.out
 clear B3
 by_cases Bn : Bi = 0
 ·
  rw [if_pos Bn] at H; obtain ⟨Av, Bo⟩ := be_ Bn; clear Bn; (first | rw [Av] | (simp only [i64_w, i32_w]; rw [Av]) | skip); obtain ⟨Bj, Ci, H⟩ := bj_ H; (try dsimp only at H); have Bp := A_ H; clear H; have := nn_ Ao; have := nn_ Aq; have := bc4_ Aj.out
  go_upto_if 17 with (first | ((with_reducible refine f1_ 27 ?_); refine gl_ (some 15) Try.func27 #[.agg #[.int .i64 Ai, .int .i64 Ak, .int .i64 Al, .slice Ar Ac.length As]] ?_; (with_reducible refine (spec_LetterFault.calls Ai Ak Al _ _ Ac Bj _ ?_ ?_ Ci.out).mono ?_); exact ca_ (Kd.C_below Bf.out HB.out); exact Bg.out; rintro e Cn ⟨rfl, hb⟩; refine ⟨_, rfl, ?_⟩; replace Af := bw_ Ae hb; replace Aj := bw_ Am hb; replace Ah := bw_ Ag hb; replace HB := bs_ hb; (try clear hb)))
  (try simp only [P4_]); have H := Bp.out; clear Bp
  by_cases Bq : Bj = 0
  ·
   rw [if_pos Bq] at H; obtain ⟨Aw, Br⟩ := be_ Bq; clear Bq; (first | rw [Aw] | (simp only [i64_w, i32_w]; rw [Aw]) | skip); obtain ⟨A6, Cj, H⟩ := bj_ H; (try dsimp only at H); have Bs := A_ H; clear H; have := nn_ Ao; have := nn_ Aq; have := bc4_ Aj.out
   go_upto_if 24 with (first | (go_at_call 35; (with_reducible refine (spec_l4Find.calls k _ Au Ay Az Ab Ai A6 _ ?_ ?_ ?_ ?_ Cj.out).mono ?_); exact ca_ (Kd.C_below A7.out HB.out); exact Be.out; exact (blk_cell (cs := #[.int .i64 Au, .slice Ay Ab.length Az]) (t := 34) blk_a 0).trans rfl; exact (blk_cell (cs := #[.int .i64 Au, .slice Ay Ab.length Az]) (t := 34) blk_a 1).trans rfl; rintro e Co ⟨rfl, hb⟩; replace Af := bw_ Ae hb; replace Aj := bw_ Am hb; replace Ah := bw_ Ag hb; replace HB := bs_ hb; (try clear hb)))
   (try simp only [P4_]); have H := Bs.out; clear Bs
   by_cases Bm : A6 < 0
   ·
    rw [if_pos Bm] at H; have Ax := decide_eq_true Bm; clear Bm; (first | rw [Ax] | (simp only [i64_w, i32_w]; rw [Ax]) | skip); obtain ⟨rfl, rfl⟩ := s2_ H; have := nn_ Ad; have := nn_ Aa; have := bc2_ Ah.out
    go_wp2
    refine bodyPost_ret (v := .agg #[.int .i64 4, .slice none 0 0]) ?_ rfl ?_; exact rc_ Ag Try.underlying48; exact ⟨_, eq_a, by first | exact Kd.R_nil _ _ _ _ _ | exact Kd.N_nil _ _ _ _ _ | exact Kd.V_nil _ _ _ _ _ | exact Kd.Q_nil _ _ _ _ _ | exact Kd.S_nil _ _ _ _ _, below_a⟩
   rw [if_neg Bm] at H; have Ax := decide_eq_false Bm; clear Bm; (first | rw [Ax] | (simp only [i64_w, i32_w]; rw [Ax]) | skip)
   obtain ⟨Cc, H⟩ := iq_ H; have Cd := decide_eq_true Cc; clear Cc
   obtain ⟨Ce, H⟩ := iq_ H; have Cf := decide_eq_true Ce; clear Ce; obtain ⟨Bt, Ck, H⟩ := bj_ H; (try dsimp only at H); obtain ⟨rfl, rfl⟩ := s2_ H; have := nn_ An; have := nn_ Ap; have := bc2_ Af.out; have Bk : 0 ≤ (A6 : Int) := od_; have Bl : A6 < (Ab.length : Int) := od_; obtain ⟨Cg, Bu, Bv, Bw, A0, A1, A4, A5⟩ := at_T59 A7.out A6 Bk Bl
   cases Bw
   replace A0 := hc_ HB A0; replace A1 := hc_ HB A1; have A8 := A_ A5; have A9 := A_ A4; clear A5 A4; replace Bk := eq_true Bk; replace Bl := eq_true Bl
   go_wp2_with (first | (go_at_call 64; (with_reducible refine (spec_l5Seal.calls k _ _ ((rd_T59 Ab A6).f1) _ Ai Ak Al Ar As Ac Bt _ ?_ ?_ ?_ ?_ ?_ ?_ ?_ ?_ Ck.out).mono ?_); exact ca_ (Kd.C_below A8.out HB.out); exact A9.out; exact ca_ (Kd.C_below Bf.out HB.out); exact Bg.out; exact (blk_cell (cs := #[.int .i64 Ai, .int .i64 Ak, .int .i64 Al, .slice Ar Ac.length As]) (t := 28) blk_a 0).trans rfl; exact (blk_cell (cs := #[.int .i64 Ai, .int .i64 Ak, .int .i64 Al, .slice Ar Ac.length As]) (t := 28) blk_a 1).trans rfl; exact (blk_cell (cs := #[.int .i64 Ai, .int .i64 Ak, .int .i64 Al, .slice Ar Ac.length As]) (t := 28) blk_a 2).trans rfl; exact (blk_cell (cs := #[.int .i64 Ai, .int .i64 Ak, .int .i64 Al, .slice Ar Ac.length As]) (t := 28) blk_a 3).trans rfl; rintro e Cp ⟨Cl, rfl, Ch, hb⟩; have Bh := A_ (Kd.R_lower Ch (below_size below_a)); replace Af := bw_ Ae hb; replace Aj := bw_ Am hb; replace Ah := bw_ Ag hb; replace HB := bs_ hb; (try clear hb Ch); obtain ⟨Bx, Bz, rfl⟩ := Kd.R_slice Bh.out; have := nn_ Aa; have := bc2_ Ah.out))
   refine bodyPost_ret (v := .agg #[.int .i64 0, .slice Bx Bt.length Bz]) ?_ rfl ?_; exact rc_ Ag Try.underlying48; exact ⟨_, eq_a, rp_ Bh, below_a⟩
  rw [if_neg Bq] at H; obtain ⟨Aw, Br⟩ := nb_ Bq; (first | rw [Aw] | (simp only [i64_w, i32_w]; rw [Aw]) | skip); obtain ⟨rfl, rfl⟩ := s2_ H; have := nn_ Ad; have := nn_ Aa; have := bc2_ Ah.out
  go_wp2
  refine bodyPost_ret (v := .agg #[.int .i64 Bj, .slice none 0 0]) ?_ rfl ?_; exact rc_ Ag Try.underlying48; exact ⟨_, eq_a, by first | exact Kd.R_nil _ _ _ _ _ | exact Kd.N_nil _ _ _ _ _ | exact Kd.V_nil _ _ _ _ _ | exact Kd.Q_nil _ _ _ _ _ | exact Kd.S_nil _ _ _ _ _, below_a⟩
 rw [if_neg Bn] at H; obtain ⟨Av, Bo⟩ := nb_ Bn; (first | rw [Av] | (simp only [i64_w, i32_w]; rw [Av]) | skip); obtain ⟨rfl, rfl⟩ := s2_ H; have := nn_ Ad; have := nn_ Aa; have := bc2_ Ah.out
 go_wp2
 refine bodyPost_ret (v := .agg #[.int .i64 Bi, .slice none 0 0]) ?_ rfl ?_; exact rc_ Ag Try.underlying48; exact ⟨_, eq_a, by first | exact Kd.R_nil _ _ _ _ _ | exact Kd.N_nil _ _ _ _ _ | exact Kd.V_nil _ _ _ _ _ | exact Kd.Q_nil _ _ _ _ _ | exact Kd.S_nil _ _ _ _ _, below_a⟩
def spec_l1Later.f (l0 : List Int) (a1 : Int) : Option (List Int × Int) := some (l0, wrap64 (5 + (wrap64 (7 * a1))))
theorem spec_l1Later.calls (A0 : Option Addr) (c0 : Nat) (l0 : List Int) (a1 : Int) (r1 : List Int) (r2 : Int) (w0 w : World) (hB : Below w0.heap.size w0 w) (Ad : Kd.C (Kd.int .u8) w0 A0 l0.length l0) (Ae : l0.length ≤ c0) (h : spec_l1Later.f l0 a1 = some (r1, r2)) :
  Calls Try.prog 57 #[.slice A0 l0.length c0, .int .i64 a1] w fun e w' => ∃ g_ : Nat, e = .returned (.pointer (some ⟨g_, 0, none⟩)) ∧ IsS118 w0 w' g_ r1 r2 ∧ Below w0.heap.size w0 w' ∧ Below w.heap.size w w' := by
 have hu118 := Try.underlying118
 have Ag := A_ Ad
 have Ah := A_ Ae
 clear Ad Ae
 have HBW := A_ (Below.refl w.heap.size w)
 have HW0 := A_ hB.size
 have HB := A_ hB
 clear hB
 unfold spec_l1Later.f at h; have H := h; clear h
 simp only [Option.some.injEq, Prod.mk.injEq] at H
 obtain ⟨rfl, rfl⟩ := H
 go_enter Try.func57, Try.ntmps57
 go_wp2_with (first | ((with_reducible refine d1_ 10 ?_); refine by_ 10 (#[.slice A0 l0.length c0, .int .i64 (wrap64 (5 + (wrap64 (7 * a1))))]) 118 ?_; intro Aa hg w3 hbox hb; have n0_ := A_ (below_step HBW.out hb); have Af := A_ (hbox); have Ab := A_ ((by rw [hg]; exact (below_size (by repeat (first | (with_reducible first | exact HBW.out | apply below_alloc | apply pw_below_drewN | apply below_drew1) | exact HBW.out))) : w.heap.size ≤ Aa)); have Ac := A_ ((Nat.le_trans HW0.out (by rw [hg]; exact (below_size (by repeat (first | (with_reducible first | exact HBW.out | apply below_alloc | apply pw_below_drewN | apply below_drew1) | exact HBW.out))) : w.heap.size ≤ Aa) : w0.heap.size ≤ Aa)); replace HBW := n0_; replace HB := bs_ hb; clear n0_; clear hb hbox hg))
 go_ret
 exact ⟨_, rfl, (show IsS118 w0 _ Aa l0 (wrap64 (5 + (wrap64 (7 * a1)))) from ⟨_, _, blk_a, Ac.out, Ag.out⟩), below_a, by repeat (first | (with_reducible first | exact HBW.out | apply below_alloc | apply pw_below_drewN | apply below_drew1 | refine below_set ?_ Ab.out) | exact HBW.out)⟩
def spec_DrawOpenLetter.f (k : Nat) (l0 : List Int) : Option (Int × (List (S59)) × List Int) := (spec_l1Later.f l0 2).bind fun Ac => ((spec_DrawSealLetter.f k l0).bind fun Aa => ((spec_SealLetter.f k Aa.1 Aa.2.1 Aa.2.2.1 Aa.2.2.2.1 Aa.2.2.2.2.1 Aa.2.2.2.2.2).bind fun Ab => ((spec_l1Next.f Ac.1 Ac.2 7).bind fun Ad => (if Ad.1 = 0 then (if (Ab.2.length : Int) > 0 then ((spec_l1Next.f Ac.1 Ad.2 (Ab.2.length : Int)).bind fun Ae => (if 0 ≤ Ae.1 then (if Ae.1 < (Ab.2.length : Int) then ((spec_l1Next.f Ac.1 Ae.2 255).bind fun Ah => (some (Aa.1, Aa.2.1, (Ab.2.set (Ae.1 : Int).toNat (Go.bits .xor .u8 (rd Ab.2 Ae.1) ((wrap64 (1 + Ah.1)) % 256)))))) else (none)) else (none))) else (some (Aa.1, Aa.2.1, Ab.2))) else (if Ad.1 = 1 then ((spec_l1Pick.f Ac.1 Ad.2 (([0, 11, 40, 327, 328] : List Int))).bind fun Af => ((spec_l1Some.f k Ac.1 Af.2 Af.1).bind fun Ai => (some (Aa.1, Aa.2.1, Ai.1)))) else (if Ad.1 = 2 then ((spec_l4Draw.f k Ac.1 Ad.2).bind fun Ag => (some (Ag.1, Ag.2.1, Ab.2))) else (some (Aa.1, Aa.2.1, Ab.2))))))))
def spec_DrawOpenLetter.T7 : Bool × List (List Nat × List Nat) := (true, [([], []), ([], []), ([], []), ([2], [2]), ([1, 3], [1, 3]), ([0, 4], [0, 4]), ([5], [5]), ([], []), ([7, 4], [7]), ([8], [8]), ([9], [9]), ([6, 10], [6, 10]), ([0, 4, 0, 1, 2, 3, 4, 5, 6, 7, 8, 9, 10, 11], [0, 4]), ([12, 11, 8, 0, 1, 2, 3, 4, 5, 6, 7, 8, 9, 10, 11], [11, 12])])
def spec_DrawOpenLetter.B7 : List Nat := [0, 0, 0, 4, 14, 31, 63, 0, 158, 414, 926, 2047, 4095, 8191]
theorem spec_DrawOpenLetter.tab7 : rtab .any (opsOf Try.f20 7) = spec_DrawOpenLetter.T7 := by kernel_rfl
theorem spec_DrawOpenLetter.bits7 : waitsOk spec_DrawOpenLetter.T7.2 spec_DrawOpenLetter.B7 = true := by kernel_rfl
theorem spec_DrawOpenLetter.calls (k : Nat) (A0 : Option Addr) (c0 : Nat) (l0 : List Int) (r1 : Int) (r2 : List (S59)) (r3 : List Int) (w : World) (Df : Kd.C (Kd.int .u8) w A0 l0.length l0) (Dg : l0.length ≤ c0) (h : spec_DrawOpenLetter.f k l0 = some (r1, r2, r3)) :
  Calls Try.prog 20 #[.slice A0 l0.length c0] w fun e w' => ∃ v1_ v2_ : Value, e = .returned (.tuple #[.agg #[.int .i64 r1, v1_], v2_]) ∧ Kd.N k59 59 w' w.heap.size (fun k_ => (w.heap.size ≤ k_) ∧ some k_ ≠ (v2_ : Value).ownBlock) v1_ r2 ∧ Kd.R (Kd.int .u8) 5 w' w.heap.size (fun k_ => (w.heap.size ≤ k_)) v2_ r3 ∧ Below w.heap.size w w' := by
 have hu34 := Try.underlying34
 have hu28 := Try.underlying28
 have Dh := A_ Df
 have Di := A_ Dg
 clear Df Dg
 have HB := A_ (Below.refl w.heap.size w)
 unfold spec_DrawOpenLetter.f at h; have H := h; clear h
 obtain ⟨⟨Av, Bb⟩, Dj, H⟩ := bi_ H
 (try dsimp only at H)
 have A2 := A_ Dj
 clear Dj
 obtain ⟨⟨A1, Ax, Bc, Bd, Be, Ar⟩, Dk, H⟩ := bi_ H
 (try dsimp only at H)
 have A3 := A_ Dk
 clear Dk
 obtain ⟨⟨Cx, Aq⟩, Dl, H⟩ := bi_ H
 (try dsimp only at H)
 have A4 := A_ Dl
 clear Dl
 obtain ⟨⟨Bf, Bq⟩, Dm, H⟩ := bi_ H
 (try dsimp only at H)
 have A5 := A_ Dm
 clear Dm
 have Dn := A_ H
 clear H
 go_enter Try.func20, Try.ntmps20
 go_upto_if 21 with (first | ((with_reducible refine d1_ 2 ?_); refine by_ 2 (#[.int .i64 0, .slice none 0 0]) 34 ?_; intro Ad hg w7 hbox hb; have Ai := A_ (hbox); have Dp := gw_ (w := w) hg; replace HB := bs_ hb; clear hb hbox hg) | ((with_reducible refine f1_ 57 ?_); refine gl_ (some 9) Try.func57 #[.slice A0 l0.length c0, .int .i64 2] ?_; (with_reducible refine (spec_l1Later.calls _ _ l0 2 Av Bb w _ ?_ ?_ ?_ A2.out).mono ?_); exact below_a; exact Dh.out; exact Di.out; rintro e w8 ⟨Ah, rfl, hi, hb, hb2⟩; refine ⟨_, rfl, ?_⟩; have n0_ := A_ (blk_below (g := Ad) blk_c hb2); replace HB := A_ (hb); have Ac := A_ (hi); have Ca := A_ (IsS118.ne_blk hi (blk_below (g := Ad) blk_c hb2) (by decide)); have Ak := A_ (Ne.symm (IsS118.ne_blk hi (blk_below (g := Ad) blk_c hb2) (by decide))); replace Ai := n0_; clear n0_; (try clear hb hb2 hi)) | ((with_reducible refine f1_ 18 ?_); refine gl_ (some 12) Try.func18 #[.slice A0 l0.length c0] ?_; (with_reducible refine (spec_DrawSealLetter.calls k _ _ l0 A1 Ax Bc Bd Be Ar _ ?_ ?_ A3.out).mono ?_); exact ca_ (Kd.C_below Dh.out HB.out); exact Di.out; rintro e w9 ⟨Dz, Cy, rfl, A9, Dq, hb⟩; refine ⟨_, rfl, ?_⟩; have Ab := A_ (Kd.N_lower (Kd.N_mono (ok' := fun k_ => (w.heap.size ≤ k_) ∧ some k_ ≠ (Cy : Value).ownBlock ∧ k_ ≠ Ad ∧ k_ ≠ Ah) A9 (fun k_ hk_ => ⟨(Nat.le_trans (below_size below_i) hk_.1), hk_.2, (Kd.freshB (g := Ad) blk_c k_ hk_.1), (IsS118.fresh (IsS118.a) k_ hk_.1)⟩)) (below_size below_i)); have Ae := A_ (Kd.R_lower (Kd.R_newM (M := fun k_ => (w.heap.size ≤ k_)) (Kd.R_mono (ok' := fun k_ => True) Dq (fun _ hk_ => trivial)) (below_size below_i) (fun k_ h_ => h_)) (below_size below_i)); replace Ai := bw_ Ad hb; have n3_ := A_ (IsS118.below (IsS118.a) hb); replace HB := A_ (below_step below_i hb); replace Ac := n3_; clear n3_; (try clear hb A9 Dq)) | ((with_reducible refine d1_ 5 ?_); refine by_ 5 (#[.int .i64 0, .slice none 0 0]) 34 ?_; intro Af hg Ei hbox hb; replace Ab := A_ (Kd.N_below (Kd.N_elderB (np_ Ab) Af (Nat.le_of_eq hg.symm)) hb); replace Ae := rv_ Ae hb; have n3_ := A_ (IsS118.below (IsS118.a) hb); have n4_ := A_ (below_step below_i hb); have Aj := A_ (hbox); have Dr := A_ ((by rw [hg]; exact (below_size below_i) : w.heap.size ≤ Af)); have Ds := A_ ((by rw [hg]; exact (below_size below_i) : w.heap.size ≤ Af)); obtain ⟨Bg, Al⟩ := bu_ Ad hg; have Cb := A_ ((by rw [hg]; exact Nat.ne_of_lt (IsS118.lt (show IsS118 w _ Ah Av Bb from IsS118.a)) : Ah ≠ Af)); have Am := A_ ((by rw [hg]; exact Nat.ne_of_gt (IsS118.lt (show IsS118 w _ Ah Av Bb from IsS118.a)) : Af ≠ Ah)); replace Ai := bw_ Ad hb; replace Ac := n3_; replace HB := n4_; clear n3_ n4_; clear hb hbox hg) | ((with_reducible refine d1_ 6 ?_); refine by_ 6 (#[.int .i64 0, .int .i64 0, .int .i64 0, .slice none 0 0]) 28 ?_; intro Ag hg D0 hbox hb; replace Ab := A_ (Kd.N_below (Kd.N_elderB (np_ Ab) Ag (Nat.le_of_eq hg.symm)) hb); replace Ae := rv_ Ae hb; have n3_ := A_ (IsS118.below (IsS118.a) hb); have n5_ := A_ (below_step below_i hb); have Ap := A_ (hbox); have Dt := A_ ((by rw [hg]; exact (below_size below_i) : w.heap.size ≤ Ag)); have Du := A_ ((by rw [hg]; exact (below_size below_i) : w.heap.size ≤ Ag)); obtain ⟨An, Bh⟩ := bu_ Ad hg; obtain ⟨Ao, Cc⟩ := bu_ Af hg; have Cd := A_ ((by rw [hg]; exact Nat.ne_of_lt (IsS118.lt (show IsS118 w _ Ah Av Bb from IsS118.a)) : Ah ≠ Ag)); have Bi := A_ ((by rw [hg]; exact Nat.ne_of_gt (IsS118.lt (show IsS118 w _ Ah Av Bb from IsS118.a)) : Ag ≠ Ah)); replace Ai := bw_ Ad hb; replace Ac := n3_; replace Aj := bw_ Af hb; replace HB := n5_; clear n3_ n5_; clear hb hbox hg; have := nn_ Al; have := nn_ Ao; have := nn_ Am; have := bc2_ Aj.out; obtain ⟨A6, Az, Cz⟩ := Kd.N_slice Ab.out; subst Cz; have := nn_ Bh; have := nn_ Bi; have := bc4_ Ap.out; obtain ⟨Aw, Au, C0⟩ := Kd.R_slice Ae.out; subst C0) | ((with_reducible refine f1_ 24 ?_); refine gl_ (some 17) Try.func24 #[.agg #[.int .i64 A1, .slice A6 Ax.length Az], .agg #[.int .i64 Bc, .int .i64 Bd, .int .i64 Be, .slice Aw Ar.length Au]] ?_; (with_reducible refine (spec_SealLetter.calls k A1 _ _ Ax Bc Bd Be _ _ Ar Cx Aq _ ?_ ?_ ?_ ?_ A4.out).mono ?_); (refine (Kd.N_reads' (e := 59) (base := w.heap.size) (ok := fun k_ => ((((w.heap.size ≤ k_) ∧ (some k_ ≠ (.slice Aw Ar.length Au : Value).ownBlock ∧ (k_ ≠ Ad ∧ k_ ≠ Ah))) ∧ k_ ≠ Af) ∧ k_ ≠ Ag)) (n := Ax.length) (c := Az) ?_).2.2; exact (np_ Ab)); exact (Kd.N_reads' Ab.out).2.1; (refine (Kd.R_reads' (e := 5) (base := w.heap.size) (ok := fun k_ => ((w.heap.size ≤ k_) ∧ True)) (n := Ar.length) (c := Au) ?_).2.2; exact (rp_ Ae)); exact cl_ Ae; rintro e Ej ⟨Bl, rfl, A9, hb⟩; refine ⟨_, rfl, ?_⟩; replace Ab := A_ (Kd.N_elder' (np_ Ab) (Kd.R_base A9) hb); have n1_ := A_ (Kd.R_elder' (rp_ Ae) (Kd.R_base A9) hb); have Aa := A_ (Kd.R_lower (Kd.R_new' (Kd.R_newM (M := fun k_ => (w.heap.size ≤ k_)) A9 (below_size below_i) (fun k_ h_ => h_)) (Kd.R_lt (rp_ Ae))) (below_size below_i)); have n4_ := A_ (IsS118.below (show IsS118 w ((((((D0.setCell ⟨Af, 0, none⟩ (.int .i64 A1)).setCell ⟨Af, 1, none⟩ (.slice A6 Ax.length Az)).setCell ⟨Ag, 0, none⟩ (.int .i64 Bc)).setCell ⟨Ag, 1, none⟩ (.int .i64 Bd)).setCell ⟨Ag, 2, none⟩ (.int .i64 Be)).setCell ⟨Ag, 3, none⟩ (.slice Aw Ar.length Au)) Ah Av Bb from IsS118.a) hb); have n5_ := A_ (blk_below (g := Af) (o := .cells #[.int .i64 A1, .slice A6 Ax.length Az] 34 (0, 0)) bk_a hb); replace Ap := A_ (blk_below (g := Ag) (o := .cells #[.int .i64 Bc, .int .i64 Bd, .int .i64 Be, .slice Aw Ar.length Au] 28 (0, 0)) bk_a hb); replace HB := A_ (below_step below_i hb); replace Ae := n1_; replace Ai := bw_ Ad hb; replace Ac := n4_; replace Aj := n5_; clear n1_ n4_ n5_; (try clear hb A9)) | ((with_reducible refine f1_ 53 ?_); refine gl_ (some 20) Try.func53 #[.pointer (some ⟨Ah, 0, none⟩), .int .i64 7] ?_; (with_reducible refine (spec_l1Next.calls Ah Av Bb 7 Bf Bq w _ ?_ ?_ A5.out).mono ?_); exact IsS118.a; exact below_i; rintro e D1 ⟨rfl, hi, hb, hk⟩; refine ⟨_, rfl, ?_⟩; replace Ab := A_ (Kd.N_mono (Kd.N_keep (Kd.N_mono (ok := fun k_ => ((((((w.heap.size ≤ k_)) ∧ (some k_ ≠ (.slice Aw Ar.length Au : Value).ownBlock ∧ (k_ ≠ Ad ∧ k_ ≠ Ah))) ∧ k_ ≠ Af) ∧ k_ ≠ Ag) ∧ some k_ ≠ (Bl : Value).ownBlock)) (by (with_reducible repeat (first | apply Kd.N_alloc | apply Kd.N_drewN | apply Kd.N_drew)); first | exact Ab.out | exact Kd.V_mono Ab.out (fun k_ h_ => by simpa only [own_map] using h_)) (fun k_ hk_ => (⟨hk_, hk_.1.1.1.2.2.2⟩ : _ ∧ k_ ≠ Ah))) hk (fun _ h => h.2)) (fun _ h => h.1)); replace Ae := rk_ Ac Ae hk; replace Ap := kb_ Ag hk; replace Aa := rk_ Ac Aa hk; replace HB := A_ (hb); replace Ac := A_ (hi); replace Ai := kb_ Ad hk; replace Aj := kb_ Af hk; (try clear hb hk hi)))
 (try simp only [P4_])
 have H := Dn.out
 clear Dn
 by_cases Cg : Bf = 0
 ·
  rw [if_pos Cg] at H; obtain ⟨Ba, Ch⟩ := be_ Cg; clear Cg; (first | rw [Ba] | (simp only [i64_w, i32_w]; rw [Ba]) | skip)
  by_cases Ce : (Aq.length : Int) > 0
  ·
   rw [if_pos Ce] at H; have Ci := dt_ Ce; have Cj : decide (0 < Aq.length) = true := decide_eq_true (by omega); clear Ce; obtain ⟨⟨As, Ck⟩, D2, H⟩ := bj_ H; (try dsimp only at H)
   obtain ⟨Dv, H⟩ := iq_ H; have Dw := decide_eq_true Dv; clear Dv
   obtain ⟨Dx, H⟩ := iq_ H; have Dy := decide_eq_true Dx; clear Dx; obtain ⟨⟨Bj, Cl⟩, D3, H⟩ := bj_ H; (try dsimp only at H); obtain ⟨C1, Bm⟩ := ey_ (Aq.set (As : Int).toNat (Go.bits .xor .u8 (rd Aq As) ((wrap64 (1 + Bj)) % 256))); (try (with_reducible replace H := os_ H)); (try dsimp only at H); (try rw [← Bm] at H)
   have Cm := A_ Bm; clear Bm; obtain ⟨rfl, rfl, rfl⟩ := s3_ H; obtain ⟨D4, Bn, rfl⟩ := Kd.R_slice Aa.out
   try go_wp2
   replace Ab := A_ (Kd.N_drew Ab.out); replace Ae := hd_ Ae; replace Aa := hd_ Aa; replace Ai := bd_ Ai; replace Aj := bd_ Aj; replace Ap := bd_ Ap; replace Ac := A_ (IsS118.drew Ac.out); replace HB := A_ (below_drew1 HB.out); have Bw : 0 ≤ (As : Int) := od_; have Bx : As < (Aq.length : Int) := od_; obtain ⟨Bo, C2, A7⟩ := Kd.at_int (Kd.R_reads' Aa.out).2.2 As Bw Bx
   cases C2
   replace Bw := eq_true Bw; replace Bx := eq_true Bx; refine start_ (n := 14) (S := fun w' => w'.cell? (Bo.add (As).toNat) = some (.int .u8 (rd Aq As))) (ds := [13]) (rl_ [0, 14]) (by kernel_rfl) rfl rfl (A7) (fun hHeld => ?_); refine with_tabW spec_DrawOpenLetter.tab7 spec_DrawOpenLetter.bits7 (fun HT_ HW_ => ?_); generalize D1.drew = Ek at Ab Ae Aa Ai Aj Ap Ac HB A7 hHeld ⊢; refine p1_ 0 (rl_ [1, 13]) HT_ ?_
   refine p1_ 1 (rl_ [2, 12]) HT_ ?_
   refine p1_ 2 (rl_ [3, 11]) HT_ ?_
   refine p1_ 3 (rl_ [4, 10]) HT_ ?_
   refine p1_ 7 (rl_ [4, 3, 1, 6]) HT_ ?_
   refine o1_ 4 (rl_ [5, 2, 1, 6]) HT_ fun K hK => ?_; refine gs_ Try.func53 #[.pointer (some ⟨Ah, 0, none⟩), .int .i64 (Aq.length : Int)] ?_
   with_reducible refine (spec_l1Next.calls Ah Av Bq (Aq.length : Int) As Ck w _ ?_ ?_ D2.out).mono ?_
   exact IsS118.a; exact below_i; rintro e El ⟨rfl, hi, hb, hk⟩; have HS0_ := keep_cell hk (hHeld) (by first | (rw [add_block]; exact Kd.own_blk (IsS118.own_ne Ac.out Aa.out (by decide))) | (show (Addr.add _ _).block ≠ _; rw [add_block]; exact Kd.own_blk (IsS118.own_ne Ac.out Aa.out (by decide))) | exact Kd.own_blk (IsS118.own_ne Ac.out Aa.out (by decide))); refine ⟨_, rfl, ?_⟩; replace Ab := A_ (Kd.N_mono (Kd.N_keep (Kd.N_mono (ok := fun k_ => ((((((w.heap.size ≤ k_)) ∧ (some k_ ≠ (.slice Aw Ar.length Au : Value).ownBlock ∧ (k_ ≠ Ad ∧ k_ ≠ Ah))) ∧ k_ ≠ Af) ∧ k_ ≠ Ag) ∧ some k_ ≠ (.slice (some Bo) Aq.length Bn : Value).ownBlock)) (by (with_reducible repeat (first | apply Kd.N_alloc | apply Kd.N_drewN | apply Kd.N_drew)); first | exact Ab.out | exact Kd.V_mono Ab.out (fun k_ h_ => by simpa only [own_map] using h_)) (fun k_ hk_ => (⟨hk_, hk_.1.1.1.2.2.2⟩ : _ ∧ k_ ≠ Ah))) hk (fun _ h => h.2)) (fun _ h => h.1)); replace Ae := rk_ Ac Ae hk; replace Ap := kb_ Ag hk; replace Aa := rk_ Ac Aa hk; replace HB := A_ (hb); replace Ac := A_ (hi); replace Ai := kb_ Ad hk; replace Aj := kb_ Af hk; (try clear hb hk hi); refine k1_ hK (HS0_) (fun hHeld => ?_); clear hK K; refine p1_ 5 (rl_ [6, 1, 1, 6]) HT_ ?_
   refine take_ (i := 6) (N := some 32) (v := ?_) (a' := ?_) (rl_ [8, 6]) rfl rfl (take_ofW HT_.out HW_.out (by kernel_rfl)) (fun _ _ _ h => h) (Or.inl ⟨by rfl, ?_⟩) hHeld ?_ ?_; rotate_left
   ·
    intro w' s0
    go_simp
    with_reducible rfl
   rotate_left
   ·
    simp only [P4_]; rfl
   refine o1_ 8 (rl_ [9, 5]) HT_ fun K hK => ?_; refine gs_ Try.func53 #[.pointer (some ⟨Ah, 0, none⟩), .int .i64 255] ?_
   with_reducible refine (spec_l1Next.calls Ah Av Ck 255 Bj Cl w _ ?_ ?_ D3.out).mono ?_
   exact IsS118.a; exact below_i; rintro e D5 ⟨rfl, hi, hb, hk⟩; have HS0_ := keep_cell hk (hHeld) (by first | (rw [add_block]; exact Kd.own_blk (IsS118.own_ne Ac.out Aa.out (by decide))) | (show (Addr.add _ _).block ≠ _; rw [add_block]; exact Kd.own_blk (IsS118.own_ne Ac.out Aa.out (by decide))) | exact Kd.own_blk (IsS118.own_ne Ac.out Aa.out (by decide))); refine ⟨_, rfl, ?_⟩; replace Ab := A_ (Kd.N_mono (Kd.N_keep (Kd.N_mono (ok := fun k_ => ((((((w.heap.size ≤ k_)) ∧ (some k_ ≠ (.slice Aw Ar.length Au : Value).ownBlock ∧ (k_ ≠ Ad ∧ k_ ≠ Ah))) ∧ k_ ≠ Af) ∧ k_ ≠ Ag) ∧ some k_ ≠ (.slice (some Bo) Aq.length Bn : Value).ownBlock)) (by (with_reducible repeat (first | apply Kd.N_alloc | apply Kd.N_drewN | apply Kd.N_drew)); first | exact Ab.out | exact Kd.V_mono Ab.out (fun k_ h_ => by simpa only [own_map] using h_)) (fun k_ hk_ => (⟨hk_, hk_.1.1.1.2.2.2⟩ : _ ∧ k_ ≠ Ah))) hk (fun _ h => h.2)) (fun _ h => h.1)); replace Ae := rk_ Ac Ae hk; replace Ap := kb_ Ag hk; replace Aa := rk_ Ac Aa hk; replace HB := A_ (hb); replace Ac := A_ (hi); replace Ai := kb_ Ad hk; replace Aj := kb_ Af hk; (try clear hb hk hi); have C3 : 0 ≤ (As : Int) := od_; have C4 : (As : Int) < ((Aq.length : Int) : Int) := od_; obtain ⟨A8, D6, Cn, Co, gl29, D7, HG29⟩ := Kd.R_form Aa.out (by omega); (first | cases Cn | (injection Cn with ea_ en_ ec_; (first | subst ea_ | (injection ea_ with ea_; subst ea_)); subst ec_; clear en_)); have D8 := A_ Co; have D9 := A_ HG29; clear Co gl29 HG29; (first | simp only [add_plain] at A7 | skip); obtain ⟨C5, C6⟩ := Kd.R_celln 0 Aa.out (As : Int) C3 C4; replace C3 := eq_true C3; replace C4 := eq_true C4; have HN700_go29 := A_ (show Ah ≠ A8 from by have h_ := IsS118.own_ne Ac.out Aa.out (by decide); intro e_; exact h_ (by rw [e_]; rfl)); have Bz := Kd.R_putn Aa.out (As : Int) (Go.bits .xor .u8 (rd Aq As) ((wrap64 (1 + Bj)) % 256)); rw [← Cm.out] at Bz; have C7 := A_ Bz; clear Bz; refine k1_ hK (HS0_) (fun hHeld => ?_); clear hK K; refine p1_ 9 (rl_ [10, 4]) HT_ ?_
   refine p1_ 10 (rl_ [11, 3]) HT_ ?_
   refine p1_ 11 (rl_ [12, 2]) HT_ ?_
   refine p1_ 12 (rl_ [13, 1]) HT_ ?_
   refine last_ (i := 13) (N := none) (rl_ [14]) rfl rfl (one_of HT_.out (by kernel_rfl)) (by decide) (fun K hK => ?_); refine skip_ (w1 := ?_) (by rfl) rfl ?_ ?_; rotate_left
   ·
    go_simp
    rfl
   refine hK.out _ _ ?_; clear hK K; refine done_ (done_of HT_.out (by kernel_rfl)) ?_; simp only [IntKind.wrap_u8]; generalize hW_ : (D5.setCell ⟨A8, (As : Int).toNat, none⟩ (.int .u8 (Go.bits .xor .u8 (rd Aq As) ((wrap64 (1 + Bj)) % 256)))) = Bt at ⊢; have n0_ : Aside0 (Kd.N k59 59 Bt w.heap.size (fun k_ => (w.heap.size ≤ k_) ∧ some k_ ≠ (.slice Aw Ar.length Au : Value).ownBlock ∧ some k_ ≠ (.slice (some ⟨A8, 0, none⟩) Aq.length Bn : Value).ownBlock ∧ k_ ≠ Ad ∧ k_ ≠ Ah ∧ k_ ≠ Af ∧ k_ ≠ Ag) (.slice A6 Ax.length Az) Ax) := hW_ ▸ ⟨by (with_reducible repeat (first | apply Kd.N_alloc | apply Kd.N_drewN | apply Kd.N_drew)); exact Kd.N_mono (Kd.N_far (p := ⟨A8, (As : Int).toNat, none⟩) (Kd.N_mono Ab.out (fun k_ hk => (⟨hk, fun e_ => hk.2 (by rw [e_]; rfl)⟩ : _ ∧ k_ ≠ A8))) (fun _ hk => hk.2) (.int .u8 (Go.bits .xor .u8 (rd Aq As) ((wrap64 (1 + Bj)) % 256)))) (fun _ hk => ⟨hk.1.1.1.1.1, ⟨hk.1.1.1.1.2.1, ⟨hk.1.2, ⟨hk.1.1.1.1.2.2.1, ⟨hk.1.1.1.1.2.2.2, ⟨hk.1.1.1.2, hk.1.1.2⟩⟩⟩⟩⟩⟩)⟩; have n1_ : Aside0 (Kd.R (Kd.int .u8) 5 Bt w.heap.size (fun k_ => (w.heap.size ≤ k_) ∧ some k_ ≠ (.slice (some ⟨A8, 0, none⟩) Aq.length Bn : Value).ownBlock) (.slice Aw Ar.length Au) Ar) := hW_ ▸ ⟨by (with_reducible repeat (first | apply Kd.R_alloc | apply Kd.R_drewN | apply Kd.R_drew)); exact Kd.R_mono (Kd.R_far (p := ⟨A8, (As : Int).toNat, none⟩) (Kd.R_mono Ae.out (fun k_ hk => (⟨hk, fun e_ => hk.2 (by rw [e_]; rfl)⟩ : _ ∧ k_ ≠ A8))) (fun _ hk => hk.2) (.int .u8 (Go.bits .xor .u8 (rd Aq As) ((wrap64 (1 + Bj)) % 256)))) (fun _ hk => ⟨hk.1.1.1, hk.1.2⟩)⟩; have n2_ : Aside0 (Kd.R (Kd.int .u8) 5 Bt w.heap.size (fun k_ => (w.heap.size ≤ k_) ∧ some k_ ≠ (.slice Aw Ar.length Au : Value).ownBlock) (.slice (some ⟨A8, 0, none⟩) Aq.length Bn) C1) := hW_ ▸ ⟨by (with_reducible repeat (first | apply Kd.R_alloc | apply Kd.R_drewN | apply Kd.R_drew)); exact Kd.R_mono C7.out (fun _ hk => ⟨hk.1.1, hk.2⟩)⟩; have n3_ : Aside0 (Bt.heap[Ad]? = some (.cells #[.int .i64 0, .slice none 0 0] 34 (0, 0))) := hW_ ▸ ⟨by (with_reducible repeat (first | refine blk_drewN ?_ _ | refine blk_drew ?_ | refine blk_alloc ?_ _)); refine blk_far ?_ (by have h_ := Kd.R_ne Aa.out Ai.out (by decide); intro e_; exact h_ (by rw [e_]; rfl)) _; exact bl_ Ai.out⟩; have n4_ : Aside0 (Bt.heap[Af]? = some (.cells #[.int .i64 A1, .slice A6 Ax.length Az] 34 (0, 0))) := hW_ ▸ ⟨by (with_reducible repeat (first | refine blk_drewN ?_ _ | refine blk_drew ?_ | refine blk_alloc ?_ _)); refine blk_far ?_ (by have h_ := Kd.R_ne Aa.out Aj.out (by decide); intro e_; exact h_ (by rw [e_]; rfl)) _; exact bl_ Aj.out⟩; have n5_ : Aside0 (Bt.heap[Ag]? = some (.cells #[.int .i64 Bc, .int .i64 Bd, .int .i64 Be, .slice Aw Ar.length Au] 28 (0, 0))) := hW_ ▸ ⟨by (with_reducible repeat (first | refine blk_drewN ?_ _ | refine blk_drew ?_ | refine blk_alloc ?_ _)); refine blk_far ?_ (by have h_ := Kd.R_ne Aa.out Ap.out (by decide); intro e_; exact h_ (by rw [e_]; rfl)) _; exact bl_ Ap.out⟩; have n6_ : Aside0 (IsS118 w Bt Ah Av Cl) := hW_ ▸ ⟨IsS118.a⟩; have n7_ : Aside0 (Below w.heap.size w Bt) := hW_ ▸ ⟨below_i⟩; skip; clear hW_; have Ab := n0_; have Ae := n1_; have Aa := n2_; have Ai := n3_; have Aj := n4_; have Ap := n5_; have Ac := n6_; have HB := n7_; clear n0_ n1_ n2_ n3_ n4_ n5_ n6_ n7_; have := nn_ Al; have := nn_ Ao; have := nn_ Am; have := bc2_ Aj.out; have := nn_ An; have := nn_ Ak; have := bc2_ Ai.out
   have := nn_ Al; have := nn_ Ao; have := nn_ Am; have := bc2_ Aj.out; have := nn_ An; have := nn_ Ak; have := bc2_ Ai.out
   try go_wp2
   refine bodyPost_ret (results_ct rfl _ _ Ad 34 #[.int .i64 A1, .slice A6 Ax.length Az] (0, 0) _ rfl blk_a Try.underlying34 rfl (by kernel_rfl)) rfl ?_; exact ⟨_, _, eq_a, np_ Ab, rp_ Aa, below_i⟩
  rw [if_neg Ce] at H; have Ci := df_ Ce; have Cj : decide (0 < Aq.length) = false := decide_eq_false (by omega); clear Ce; obtain ⟨rfl, rfl, rfl⟩ := s3_ H; obtain ⟨Ea, Eb, rfl⟩ := Kd.R_slice Aa.out; have := nn_ Al; have := nn_ Ao; have := nn_ Am; have := bc2_ Aj.out; have := nn_ An; have := nn_ Ak; have := bc2_ Ai.out
  go_wp2
  refine bodyPost_ret (results_ct rfl _ _ Ad 34 #[.int .i64 A1, .slice A6 Ax.length Az] (0, 0) _ rfl blk_a Try.underlying34 rfl (by kernel_rfl)) rfl ?_; exact ⟨_, _, eq_a, np_ Ab, rp_ Aa, below_i⟩
 rw [if_neg Cg] at H; obtain ⟨Ba, Ch⟩ := nb_ Cg; (first | rw [Ba] | (simp only [i64_w, i32_w]; rw [Ba]) | skip)
 by_cases Cf : Bf = 1
 ·
  rw [if_pos Cf] at H; obtain ⟨Cp, Cq⟩ := be_ Cf; clear Cf; obtain ⟨Br, Bp⟩ := ey_ (([0, 11, 40, 327, 328] : List Int)); (try (with_reducible replace H := os_ H)); (try dsimp only at H); (try rw [← Bp] at H)
  have Bu := A_ Bp; clear Bp; obtain ⟨⟨B0, Bs⟩, Ec, H⟩ := bj_ H; (try dsimp only at H); obtain ⟨⟨C8, C9⟩, Ed, H⟩ := bj_ H; (try dsimp only at H); obtain ⟨rfl, rfl, rfl⟩ := s3_ H
  go_wp2_with (first | ((with_reducible refine d1_ 43 ?_); refine Kd.R_lit (Kd.int .i64) _ 2 ?hg (N := 43) ?hd (xs := ([0, 11, 40, 327, 328] : List Int)) (inner := [.int .i64 0, .int .i64 11, .int .i64 40, .int .i64 327, .int .i64 328]) (ok := fun _ => True) (okp := fun _ => True) ?hr ?hp (fun _ hk => hk) trivial (Below.refl _ _) (Nat.le_refl _) (by simp) ?_; (case hd => rfl); (case hg => rfl); (case hr => go_simp <;> rfl); (case hp => exact (Reps.one (show Kd.M (Kd.int .i64) _ _ _ 0 [.int .i64 0] from rfl) (Reps.one (show Kd.M (Kd.int .i64) _ _ _ 11 [.int .i64 11] from rfl) (Reps.one (show Kd.M (Kd.int .i64) _ _ _ 40 [.int .i64 40] from rfl) (Reps.one (show Kd.M (Kd.int .i64) _ _ _ 327 [.int .i64 327] from rfl) (Reps.one (show Kd.M (Kd.int .i64) _ _ _ 328 [.int .i64 328] from rfl) (Reps.none _ _))))))); intro Ee Em Bk hb hg_ hnew_; clear hg_ hnew_; (first | rw [← Bu.out] at Bk | (simp only [Int.reduceToNat] at Bk; rw [← Bu.out] at Bk)); replace Ab := A_ (Kd.N_elder' (np_ Ab) (Kd.R_base Bk) hb); replace Ae := rv_ Ae hb; replace Aa := rv_ Aa hb; have Ay := A_ (Kd.R_lower (Kd.R_newM (M := fun k_ => (w.heap.size ≤ k_)) Bk (below_size below_i) (fun k_ h_ => h_)) (below_size below_i)); replace Ai := bw_ Ad hb; have n5_ := A_ (IsS118.below (IsS118.a) hb); replace Aj := bw_ Af hb; replace Ap := bw_ Ag hb; replace HB := A_ (below_step below_i hb); replace Ac := n5_; clear n5_; clear hb Bk; obtain ⟨B3, B4, Da⟩ := Kd.R_slice Ay.out; subst Da) | ((with_reducible refine f1_ 59 ?_); refine gl_ (some 44) Try.func59 #[.pointer (some ⟨Ah, 0, none⟩), .slice B3 Br.length B4] ?_; (with_reducible refine (spec_l1Pick.calls Ah Av Bq _ _ Br B0 Bs w _ ?_ ?_ ?_ ?_ ?_ Ec.out).mono ?_); exact IsS118.a; exact below_i; exact cr_ Ay; exact cl_ Ay; exact far_slice (IsS118.own_ne Ac.out Ay.out (by decide)); rintro e En ⟨rfl, hi, hb, hk⟩; refine ⟨_, rfl, ?_⟩; replace Ab := A_ (Kd.N_mono (Kd.N_keep (Kd.N_mono (ok := fun k_ => (((((((w.heap.size ≤ k_)) ∧ (some k_ ≠ (.slice Aw Ar.length Au : Value).ownBlock ∧ (k_ ≠ Ad ∧ k_ ≠ Ah))) ∧ k_ ≠ Af) ∧ k_ ≠ Ag) ∧ some k_ ≠ (Bl : Value).ownBlock) ∧ some k_ ≠ (.slice B3 Br.length B4 : Value).ownBlock)) (by (with_reducible repeat (first | apply Kd.N_alloc | apply Kd.N_drewN | apply Kd.N_drew)); first | exact Ab.out | exact Kd.V_mono Ab.out (fun k_ h_ => by simpa only [own_map] using h_)) (fun k_ hk_ => (⟨hk_, hk_.1.1.1.1.2.2.2⟩ : _ ∧ k_ ≠ Ah))) hk (fun _ h => h.2)) (fun _ h => h.1)); replace Ae := rk_ Ac Ae hk; replace Ap := kb_ Ag hk; replace Aa := rk_ Ac Aa hk; replace Ay := rk_ Ac Ay hk; replace HB := A_ (hb); replace Ac := A_ (hi); replace Ai := kb_ Ad hk; replace Aj := kb_ Af hk; (try clear hb hk hi)) | ((with_reducible refine f1_ 58 ?_); refine gl_ (some 45) Try.func58 #[.pointer (some ⟨Ah, 0, none⟩), .int .i64 B0] ?_; (with_reducible refine (spec_l1Some.calls k Ah Av Bs B0 C8 C9 w _ ?_ ?_ Ed.out).mono ?_); exact IsS118.a; exact below_i; rintro e Eo ⟨Ef, rfl, A9, hi, hb, hk⟩; refine ⟨_, rfl, ?_⟩; replace Ab := A_ (Kd.N_mono (Kd.N_told (Kd.N_oldK (Kd.N_mono (ok := fun k_ => (((((((w.heap.size ≤ k_)) ∧ (some k_ ≠ (.slice Aw Ar.length Au : Value).ownBlock ∧ (k_ ≠ Ad ∧ k_ ≠ Ah))) ∧ k_ ≠ Af) ∧ k_ ≠ Ag) ∧ some k_ ≠ (Bl : Value).ownBlock) ∧ some k_ ≠ (.slice B3 Br.length B4 : Value).ownBlock)) (by (with_reducible repeat (first | apply Kd.N_alloc | apply Kd.N_drewN | apply Kd.N_drew)); first | exact Ab.out | exact Kd.V_mono Ab.out (fun k_ h_ => by simpa only [own_map] using h_)) (fun k_ hk_ => (⟨hk_, hk_.1.1.1.1.2.2.2⟩ : _ ∧ k_ ≠ Ah))) hk) (Kd.R_base A9)) (fun _ h_ => h_.1)); have n2_ := A_ (Kd.R_mono (Kd.R_told (Kd.R_oldK (IsS118.apart (show IsS118 w _ Ah Av Bs from IsS118.a) (R_a Ae.out) (by decide)) hk) (Kd.R_base A9)) (fun _ h_ => h_.1)); replace Ap := kb_ Ag hk; have n5_ := A_ (Kd.R_mono (Kd.R_told (Kd.R_oldK (IsS118.apart (show IsS118 w _ Ah Av Bs from IsS118.a) (R_a Aa.out) (by decide)) hk) (Kd.R_base A9)) (fun _ h_ => h_.1)); replace Ay := rk_ Ac Ay hk; have Cr := A_ (Kd.R_lower (Kd.R_new' (Kd.R_new' (Kd.R_newM (M := fun k_ => (w.heap.size ≤ k_)) A9 (below_size below_i) (fun k_ h_ => h_)) (Kd.R_lt (R_a Ae.out))) (Kd.R_lt (R_a Aa.out))) (below_size below_i)); replace HB := A_ (hb); replace Ac := A_ (hi); replace Ai := kb_ Ad hk; replace Ae := n2_; replace Aj := kb_ Af hk; replace Aa := n5_; clear n2_ n5_; (try clear hb hk hi A9); have := nn_ Al; have := nn_ Ao; have := nn_ Am; have := bc2_ Aj.out; have := nn_ An; have := nn_ Ak; have := bc2_ Ai.out))
  refine bodyPost_ret (results_ct rfl _ _ Ad 34 #[.int .i64 A1, .slice A6 Ax.length Az] (0, 0) _ rfl blk_a Try.underlying34 rfl (by kernel_rfl)) rfl ?_; exact ⟨_, _, eq_a, np_ Ab, rp_ Cr, below_i⟩
 rw [if_neg Cf] at H; have Cp : (Bf == 1) = false := beq_eq_false_iff_ne.mpr Cf; have Cq : (Bf != 1) = true := bne_iff_ne.mpr Cf
 by_cases Cs : Bf = 2
 ·
  rw [if_pos Cs] at H; obtain ⟨Ct, Cu⟩ := be_ Cs; clear Cs; obtain ⟨⟨Cv, Cw, Db⟩, Eg, H⟩ := bj_ H; (try dsimp only at H); obtain ⟨rfl, rfl, rfl⟩ := s3_ H
  go_wp2_with (first | ((with_reducible refine f1_ 60 ?_); refine gl_ (some 49) Try.func60 #[.pointer (some ⟨Ah, 0, none⟩)] ?_; (with_reducible refine (spec_l4Draw.calls k Ah Av Bq Cv Cw Db w _ ?_ ?_ Eg.out).mono ?_); exact IsS118.a; exact below_i; rintro e Ep ⟨Eh, rfl, A9, hi, hb, hk⟩; refine ⟨_, rfl, ?_⟩; have n1_ := A_ (Kd.N_mono (Kd.N_told (Kd.N_oldK (Kd.N_mono (ok := fun k_ => ((((((w.heap.size ≤ k_)) ∧ (some k_ ≠ (.slice Aw Ar.length Au : Value).ownBlock ∧ (k_ ≠ Ad ∧ k_ ≠ Ah))) ∧ k_ ≠ Af) ∧ k_ ≠ Ag) ∧ some k_ ≠ (Bl : Value).ownBlock)) (by (with_reducible repeat (first | apply Kd.N_alloc | apply Kd.N_drewN | apply Kd.N_drew)); first | exact Ab.out | exact Kd.V_mono Ab.out (fun k_ h_ => by simpa only [own_map] using h_)) (fun k_ hk_ => (⟨hk_, hk_.1.1.1.2.2.2⟩ : _ ∧ k_ ≠ Ah))) hk) (Kd.S_base A9)) (fun _ h_ => h_.1)); have n2_ := rk_ Ac Ae hk; have n5_ := rk_ Ac Aa hk; have Bv := A_ (Kd.N_lower (Kd.N_mono (ok' := fun k_ => (w.heap.size ≤ k_) ∧ some k_ ≠ (.slice A6 Ax.length Az : Value).ownBlock ∧ some k_ ≠ (.slice Aw Ar.length Au : Value).ownBlock ∧ some k_ ≠ (Bl : Value).ownBlock ∧ k_ ≠ Ad ∧ k_ ≠ Af ∧ k_ ≠ Ag ∧ k_ ≠ Ah) (Kd.S_N (Kd.S_bound A9)) (fun k_ hk_ => ⟨(Nat.le_trans (below_size below_i) hk_.2.1), (Kd.fresh' (Kd.N_lt (np_ Ab)) k_ hk_.2.1), (Kd.fresh' (Kd.R_lt (R_a Ae.out)) k_ hk_.2.1), (Kd.fresh' (Kd.R_lt (R_a Aa.out)) k_ hk_.2.1), (Kd.freshB (g := Ad) blk_c k_ hk_.2.1), (Kd.freshB (g := Af) blk_c k_ hk_.2.1), (Kd.freshB (g := Ag) blk_c k_ hk_.2.1), (IsS118.fresh (IsS118.a) k_ hk_.2.1)⟩)) (below_size below_i)); replace HB := A_ (hb); replace Ac := A_ (hi); replace Ai := kb_ Ad hk; replace Ab := n1_; replace Ae := n2_; replace Aj := kb_ Af hk; replace Ap := kb_ Ag hk; replace Aa := n5_; clear n1_ n2_ n5_; (try clear hb hk hi A9); have := nn_ Bg; have := nn_ An; have := nn_ Ak; have := bc2_ Ai.out; obtain ⟨Dc, Dd, De⟩ := Kd.N_slice Bv.out; subst De))
  refine bodyPost_ret (results_ct rfl _ _ Ad 34 #[.int .i64 Cv, .slice Dc Cw.length Dd] (0, 0) _ rfl blk_a Try.underlying34 rfl (by kernel_rfl)) rfl ?_; exact ⟨_, _, eq_a, np_ Bv, rp_ Aa, below_i⟩
 rw [if_neg Cs] at H; obtain ⟨Ct, Cu⟩ := nb_ Cs; obtain ⟨rfl, rfl, rfl⟩ := s3_ H; have := nn_ Al; have := nn_ Ao; have := nn_ Am; have := bc2_ Aj.out; have := nn_ An; have := nn_ Ak; have := bc2_ Ai.out
 go_wp2
 refine bodyPost_ret (results_ct rfl _ _ Ad 34 #[.int .i64 A1, .slice A6 Ax.length Az] (0, 0) _ rfl blk_a Try.underlying34 rfl (by kernel_rfl)) rfl ?_; exact ⟨_, _, eq_a, np_ Ab, rp_ Aa, below_i⟩
def spec_DrawReadHead.f (k : Nat) (l0 : List Int) : Option (List Int) := (spec_l1Source.f l0).bind fun Aa => ((spec_l5Draw.f k Aa.1 Aa.2).bind fun Ab => ((spec_l5HeadOf.f k Ab.1 Ab.2.1 Ab.2.2.1 Ab.2.2.2.1).bind fun Ai => ((spec_l1Next.f Aa.1 Ab.2.2.2.2 4).bind fun Ah => ((spec_l1Some.f k Aa.1 Ah.2 Ah.1).bind fun Af => (if Ai.length + Af.1.length < 140737488355328 then ((some (Ai ++ Af.1 : List Int)).bind fun Ae => ((spec_l1Next.f Aa.1 Af.2 8).bind fun Ad => (if Ad.1 = 0 then ((spec_l1Next.f Aa.1 Ad.2 11).bind fun Ac => (if 0 ≤ Ac.1 then (if Ac.1 < (Ae.length : Int) then ((spec_l1Next.f Aa.1 Ac.2 255).bind fun Aj => (some (Ae.set (Ac.1 : Int).toNat (Go.bits .xor .u8 (rd Ae Ac.1) ((wrap64 (1 + Aj.1)) % 256))))) else (none)) else (none))) else (if Ad.1 = 1 then ((spec_l1Next.f Aa.1 Ad.2 11).bind fun Ag => (if 0 ≤ Ag.1 then (if Ag.1 ≤ (Ae.length : Int) then (some (Ae.take (Ag.1 : Int).toNat)) else (none)) else (none))) else (some Ae))))) else (none))))))
def spec_DrawReadHead.T6 : Bool × List (List Nat × List Nat) := (true, [([], []), ([], []), ([1], [1]), ([0, 2], [0, 2]), ([3], [3]), ([], []), ([5, 2], [5]), ([6], [6]), ([7], [7]), ([4, 8], [4, 8]), ([0, 2, 0, 1, 2, 3, 4, 5, 6, 7, 8, 9], [0, 2]), ([10, 9, 6, 0, 1, 2, 3, 4, 5, 6, 7, 8, 9], [9, 10])])
def spec_DrawReadHead.B6 : List Nat := [0, 0, 2, 7, 15, 0, 38, 102, 230, 511, 1023, 2047]
theorem spec_DrawReadHead.tab6 : rtab .any (opsOf Try.f21 6) = spec_DrawReadHead.T6 := by kernel_rfl
theorem spec_DrawReadHead.bits6 : waitsOk spec_DrawReadHead.T6.2 spec_DrawReadHead.B6 = true := by kernel_rfl
theorem spec_DrawReadHead.calls (k : Nat) (A0 : Option Addr) (c0 : Nat) (l0 : List Int) (r : List Int) (w : World) (Cu : Kd.C (Kd.int .u8) w A0 l0.length l0) (Cv : l0.length ≤ c0) (h : spec_DrawReadHead.f k l0 = some r) :
  Calls Try.prog 21 #[.slice A0 l0.length c0] w fun e w' => ∃ v0_ : Value, e = .returned (v0_) ∧ Kd.R (Kd.int .u8) 5 w' w.heap.size (fun _ => True) v0_ r ∧ Below w.heap.size w w' := by
 have hu28 := Try.underlying28
 have Dc := A_ Cu
 have Dd := A_ Cv
 clear Cu Cv
 have HB := A_ (Below.refl w.heap.size w)
 unfold spec_DrawReadHead.f at h; have H := h; clear h
 obtain ⟨⟨Ah, Bn⟩, Cw, H⟩ := bi_ H
 (try dsimp only at H)
 have A2 := A_ Cw
 clear Cw
 obtain ⟨⟨Ap, Aq, Ar, Ak, Aw⟩, Cx, H⟩ := bi_ H
 (try dsimp only at H)
 have A3 := A_ Cx
 clear Cx
 obtain ⟨Bd, Cy, H⟩ := bi_ H
 (try dsimp only at H)
 have A4 := A_ Cy
 clear Cy
 obtain ⟨⟨Be, A9⟩, Cz, H⟩ := bi_ H
 (try dsimp only at H)
 have A5 := A_ Cz
 clear Cz
 obtain ⟨⟨Ax, Bf⟩, C0, H⟩ := bi_ H
 (try dsimp only at H)
 have A6 := A_ C0
 clear C0
 obtain ⟨c7, H⟩ := iq_ H; have LMc7 := A_ c7; clear c7; obtain ⟨Al, Ay⟩ := ey_ (Bd ++ Ax : List Int); (try (with_reducible replace H := os_ H)); (try dsimp only at H); (try rw [← Ay] at H)
 have Bo := A_ Ay; clear Ay; obtain ⟨⟨Bg, Bh⟩, A8, H⟩ := bj_ H; (try dsimp only at H); have C1 := A_ H; clear H
 go_enter Try.func21, Try.ntmps21
 go_upto_if 18 with (first | ((with_reducible refine f1_ 49 ?_); refine gl_ (some 7) Try.func49 #[.slice A0 l0.length c0] ?_; (with_reducible refine (spec_l1Source.calls _ _ l0 Ah Bn w _ ?_ ?_ ?_ A2.out).mono ?_); exact below_a; exact Dc.out; exact Dd.out; rintro e Dv ⟨Af, rfl, hi, hb, hb2⟩; refine ⟨_, rfl, ?_⟩; replace HB := A_ (hb); have Aa := A_ (hi); (try clear hb hb2 hi)) | ((with_reducible refine f1_ 61 ?_); refine gl_ (some 9) Try.func61 #[.pointer (some ⟨Af, 0, none⟩)] ?_; (with_reducible refine (spec_l5Draw.calls k Af Ah Bn Ap Aq Ar Ak Aw w _ ?_ ?_ A3.out).mono ?_); exact IsS118.a; exact below_i; rintro e Dw ⟨De, rfl, Az, hi, hb, hk⟩; refine ⟨_, rfl, ?_⟩; have Ac := A_ (Kd.R_lower Az (below_size below_i)); replace HB := A_ (hb); replace Aa := A_ (hi); (try clear hb hk hi Az)) | ((with_reducible refine d1_ 4 ?_); refine by_ 4 (#[.int .i64 0, .int .i64 0, .int .i64 0, .slice none 0 0]) 28 ?_; intro Ad hg Df hbox hb; replace Ac := rv_ Ac hb; have n1_ := A_ (IsS118.below (IsS118.a) hb); have n2_ := A_ (below_step below_i hb); have Ag := A_ (hbox); have C2 := A_ ((by rw [hg]; exact (below_size below_i) : w.heap.size ≤ Ad)); have C3 := A_ ((by rw [hg]; exact (below_size below_i) : w.heap.size ≤ Ad)); have Bm := A_ ((by rw [hg]; exact Nat.ne_of_lt (IsS118.lt (show IsS118 w _ Af Ah Aw from IsS118.a)) : Af ≠ Ad)); have Av := A_ ((by rw [hg]; exact Nat.ne_of_gt (IsS118.lt (show IsS118 w _ Af Ah Aw from IsS118.a)) : Ad ≠ Af)); replace Aa := n1_; replace HB := n2_; clear n1_ n2_; clear hb hbox hg; have := nn_ Av; have := bc4_ Ag.out; obtain ⟨An, Am, Cc⟩ := Kd.R_slice Ac.out; subst Cc) | (go_at_call 38; (with_reducible refine (spec_l5HeadOf.calls k _ Ap Aq Ar An Am Ak Bd _ ?_ ?_ ?_ ?_ ?_ ?_ A4.out).mono ?_); (refine (Kd.R_reads' (e := 5) (base := w.heap.size) (ok := fun k_ => True) (n := Ak.length) (c := Am) ?_).2.2; exact (rp_ Ac)); exact cl_ Ac; exact (blk_cell (cs := #[.int .i64 Ap, .int .i64 Aq, .int .i64 Ar, .slice An Ak.length Am]) (t := 28) bk_a 0).trans rfl; exact (blk_cell (cs := #[.int .i64 Ap, .int .i64 Aq, .int .i64 Ar, .slice An Ak.length Am]) (t := 28) bk_a 1).trans rfl; exact (blk_cell (cs := #[.int .i64 Ap, .int .i64 Aq, .int .i64 Ar, .slice An Ak.length Am]) (t := 28) bk_a 2).trans rfl; exact (blk_cell (cs := #[.int .i64 Ap, .int .i64 Aq, .int .i64 Ar, .slice An Ak.length Am]) (t := 28) bk_a 3).trans rfl; rintro e Dx ⟨Cd, rfl, Az, hb⟩; have n0_ := A_ (Kd.R_elder' (rp_ Ac) (Kd.R_base Az) hb); have Ai := A_ (Kd.R_lower (Kd.R_new' Az (Kd.R_lt (rp_ Ac))) (below_size below_i)); have n2_ := A_ (IsS118.below (show IsS118 w ((((Df.setCell ⟨Ad, 0, none⟩ (.int .i64 Ap)).setCell ⟨Ad, 1, none⟩ (.int .i64 Aq)).setCell ⟨Ad, 2, none⟩ (.int .i64 Ar)).setCell ⟨Ad, 3, none⟩ (.slice An Ak.length Am)) Af Ah Aw from IsS118.a) hb); replace Ag := A_ (blk_below (g := Ad) (o := .cells #[.int .i64 Ap, .int .i64 Aq, .int .i64 Ar, .slice An Ak.length Am] 28 (0, 0)) bk_a hb); replace HB := A_ (below_step below_i hb); replace Ac := n0_; replace Aa := n2_; clear n0_ n2_; (try clear hb Az)) | ((with_reducible refine f1_ 53 ?_); refine gl_ (some 13) Try.func53 #[.pointer (some ⟨Af, 0, none⟩), .int .i64 4] ?_; (with_reducible refine (spec_l1Next.calls Af Ah Aw 4 Be A9 w _ ?_ ?_ A5.out).mono ?_); exact IsS118.a; exact below_i; rintro e Dy ⟨rfl, hi, hb, hk⟩; refine ⟨_, rfl, ?_⟩; replace Ac := rk_ Aa Ac hk; replace Ag := kb_ Ad hk; replace Ai := rk_ Aa Ai hk; replace HB := A_ (hb); replace Aa := A_ (hi); (try clear hb hk hi)) | ((with_reducible refine f1_ 58 ?_); refine gl_ (some 14) Try.func58 #[.pointer (some ⟨Af, 0, none⟩), .int .i64 Be] ?_; (with_reducible refine (spec_l1Some.calls k Af Ah A9 Be Ax Bf w _ ?_ ?_ A6.out).mono ?_); exact IsS118.a; exact below_i; rintro e Dz ⟨Dg, rfl, Az, hi, hb, hk⟩; refine ⟨_, rfl, ?_⟩; have n0_ := A_ (Kd.R_mono (Kd.R_told (Kd.R_oldK (IsS118.apart (show IsS118 w _ Af Ah A9 from IsS118.a) (R_a Ac.out) (by decide)) hk) (Kd.R_base Az)) (fun _ h_ => h_.1)); replace Ag := kb_ Ad hk; have n2_ := A_ (Kd.R_mono (Kd.R_told (Kd.R_oldK (IsS118.apart (show IsS118 w _ Af Ah A9 from IsS118.a) (R_a Ai.out) (by decide)) hk) (Kd.R_base Az)) (fun _ h_ => h_.1)); have Ae := A_ (Kd.R_lower (Kd.R_new' (Kd.R_new' Az (Kd.R_lt (R_a Ac.out))) (Kd.R_lt (R_a Ai.out))) (below_size below_i)); replace HB := A_ (hb); replace Aa := A_ (hi); replace Ac := n0_; replace Ai := n2_; clear n0_ n2_; (try clear hb hk hi Az); obtain ⟨Bp, Bq, Ce⟩ := Kd.R_slice Ae.out; subst Ce) | ((with_reducible refine gate_builtin (b := .append) (xs := #[.tmp 10, .tmp 14]) rfl ?_); at_builtin; refine Kd.R_append_rows (Kd.int .u8) (w0 := w) w.heap.size rfl (.tmp 10) (.tmp 14) 25 5 (.int .u8 0) 1 rfl Try.underlying25 info5 rfl (by decide) (by omega) Cd Bd Ax _ _ _ (fun k_ => some k_ ≠ (.slice An Ak.length Am : Value).ownBlock ∧ some k_ ≠ (.slice Bp Ax.length Bq : Value).ownBlock) (fun _ => False) rfl rfl ?aO ?aR (fun _ _ h => h) (fun _ h => h.elim) ?aF ?aB ?aS ?aL ?_; (case aR => exact cr_ Ae); (case aB => exact below_i); (case aF => exact (fun k_ hk => ⟨Kd.fresh' (Kd.R_lt (R_a Ac.out)) k_ hk, Kd.fresh' (Kd.R_lt (R_a Ae.out)) k_ hk⟩)); (case aO => exact (rp_ Ai)); (case aS => exact (below_size below_i)); (case aL => have := LMc7.out; omega); intro Dh D0 ho hb hg hat; rw [← Bo.out] at ho; replace Aa := A_ (IsS118.grown (show IsS118 w _ Af Ah Bf from IsS118.a) hg (IsS118.own_ne Aa.out Ai.out (by decide))); replace Ac := A_ (Kd.R_after (ok := (fun k_ => some k_ ≠ (.slice Bp Ax.length Bq : Value).ownBlock)) (rp_ Ac) hg hat); replace Ag := A_ (blk_grown (g := Ad) blk_c hg (Kd.R_ne Ai.out Ag.out (by decide))); replace Ae := A_ (Kd.R_after (ok := (fun k_ => some k_ ≠ (.slice An Ak.length Am : Value).ownBlock)) (rp_ Ae) hg hat); replace HB := A_ (hb); have Ab := A_ (ho); clear Ai; clear ho hb hg hat) | ((with_reducible refine f1_ 53 ?_); refine gl_ (some 17) Try.func53 #[.pointer (some ⟨Af, 0, none⟩), .int .i64 8] ?_; (with_reducible refine (spec_l1Next.calls Af Ah Bf 8 Bg Bh w _ ?_ ?_ A8.out).mono ?_); exact IsS118.a; exact below_i; rintro e Di ⟨rfl, hi, hb, hk⟩; refine ⟨_, rfl, ?_⟩; replace Ac := rk_ Aa Ac hk; replace Ag := kb_ Ad hk; replace Ae := rk_ Aa Ae hk; replace Ab := rk_ Aa Ab hk; replace HB := A_ (hb); replace Aa := A_ (hi); (try clear hb hk hi)))
 (try simp only [P4_]); have H := C1.out; clear C1
 by_cases Br : Bg = 0
 ·
  rw [if_pos Br] at H; obtain ⟨As, Bs⟩ := be_ Br; clear Br; (first | rw [As] | (simp only [i64_w, i32_w]; rw [As]) | skip); obtain ⟨⟨Aj, Bt⟩, Dj, H⟩ := bj_ H; (try dsimp only at H)
  obtain ⟨C4, H⟩ := iq_ H; have C5 := decide_eq_true C4; clear C4
  obtain ⟨C6, H⟩ := iq_ H; have C7 := decide_eq_true C6; clear C6; obtain ⟨⟨Bi, Cf⟩, Dk, H⟩ := bj_ H; (try dsimp only at H); obtain ⟨Dl, A1⟩ := ey_ (Al.set (Aj : Int).toNat (Go.bits .xor .u8 (rd Al Aj) ((wrap64 (1 + Bi)) % 256))); (try (with_reducible replace H := os_ H)); (try dsimp only at H); (try rw [← A1] at H)
  have Bu := A_ A1; clear A1; obtain rfl := Option.some.inj H
  try go_wp2
  replace Ac := hd_ Ac; replace Ae := hd_ Ae; replace Ab := hd_ Ab; replace Ag := bd_ Ag; replace Aa := A_ (IsS118.drew Aa.out); replace HB := A_ (below_drew1 HB.out); have Bj : 0 ≤ (Aj : Int) := od_; have Bk : Aj < (Al.length : Int) := od_; obtain ⟨Ao_, co_, rfl⟩ := Kd.R_slice Ab.out; obtain ⟨Bv, Cg, Ao⟩ := Kd.at_int (Kd.R_reads' Ab.out).2.2 Aj Bj Bk
  cases Cg
  replace Bj := eq_true Bj; replace Bk := eq_true Bk; refine start_ (n := 12) (S := fun w' => w'.cell? (Bv.add (Aj).toNat) = some (.int .u8 (rd Al Aj))) (ds := [11]) (rl_ [0, 12]) (by kernel_rfl) rfl rfl (Ao) (fun hHeld => ?_); refine with_tabW spec_DrawReadHead.tab6 spec_DrawReadHead.bits6 (fun HT_ HW_ => ?_); generalize Di.drew = D1 at Ac Ae Ab Ag Aa HB Ao hHeld ⊢; refine p1_ 0 (rl_ [1, 11]) HT_ ?_
  refine p1_ 1 (rl_ [2, 10]) HT_ ?_
  refine p1_ 5 (rl_ [2, 3, 1, 6]) HT_ ?_
  refine o1_ 2 (rl_ [3, 2, 1, 6]) HT_ fun K hK => ?_; refine gs_ Try.func53 #[.pointer (some ⟨Af, 0, none⟩), .int .i64 11] ?_
  with_reducible refine (spec_l1Next.calls Af Ah Bh 11 Aj Bt w _ ?_ ?_ Dj.out).mono ?_
  exact IsS118.a; exact below_i; rintro e D2 ⟨rfl, hi, hb, hk⟩; have HS0_ := keep_cell hk (hHeld) (by first | (rw [add_block]; exact Kd.own_blk (IsS118.own_ne Aa.out Ab.out (by decide))) | (show (Addr.add _ _).block ≠ _; rw [add_block]; exact Kd.own_blk (IsS118.own_ne Aa.out Ab.out (by decide))) | exact Kd.own_blk (IsS118.own_ne Aa.out Ab.out (by decide))); refine ⟨_, rfl, ?_⟩; replace Ac := rk_ Aa Ac hk; replace Ag := kb_ Ad hk; replace Ae := rk_ Aa Ae hk; replace Ab := rk_ Aa Ab hk; replace HB := A_ (hb); replace Aa := A_ (hi); (try clear hb hk hi); obtain ⟨Dm, Dn, Bw⟩ := Kd.R_slice Ab.out; (first | subst Bw | (injection Bw with f1_ f2_ f3_; have f4_ := f1_.symm; have f5_ := f3_.symm; clear f1_ f2_ f3_; subst f4_; subst f5_)); refine k1_ hK (HS0_) (fun hHeld => ?_); clear hK K; refine p1_ 3 (rl_ [4, 1, 1, 6]) HT_ ?_
  refine take_ (i := 4) (N := some 24) (v := ?_) (a' := ?_) (rl_ [6, 6]) rfl rfl (take_ofW HT_.out HW_.out (by kernel_rfl)) (fun _ _ _ h => h) (Or.inl ⟨by rfl, ?_⟩) hHeld ?_ ?_; rotate_left
  ·
   intro w' s0
   go_simp
   with_reducible rfl
  rotate_left
  ·
   simp only [P4_]; rfl
  refine o1_ 6 (rl_ [7, 5]) HT_ fun K hK => ?_; refine gs_ Try.func53 #[.pointer (some ⟨Af, 0, none⟩), .int .i64 255] ?_
  with_reducible refine (spec_l1Next.calls Af Ah Bt 255 Bi Cf w _ ?_ ?_ Dk.out).mono ?_
  exact IsS118.a; exact below_i; rintro e D3 ⟨rfl, hi, hb, hk⟩; have HS0_ := keep_cell hk (hHeld) (by first | (rw [add_block]; exact Kd.own_blk (IsS118.own_ne Aa.out Ab.out (by decide))) | (show (Addr.add _ _).block ≠ _; rw [add_block]; exact Kd.own_blk (IsS118.own_ne Aa.out Ab.out (by decide))) | exact Kd.own_blk (IsS118.own_ne Aa.out Ab.out (by decide))); refine ⟨_, rfl, ?_⟩; replace Ac := rk_ Aa Ac hk; replace Ag := kb_ Ad hk; replace Ae := rk_ Aa Ae hk; replace Ab := rk_ Aa Ab hk; replace HB := A_ (hb); replace Aa := A_ (hi); (try clear hb hk hi); have Ch : 0 ≤ (Aj : Int) := od_; have Ci : (Aj : Int) < ((Al.length : Int) : Int) := od_; obtain ⟨Cj, Dp, Bx, Bz, gl27, Dq, HG27⟩ := Kd.R_form Ab.out (by omega); (first | cases Bx | (injection Bx with ea_ en_ ec_; (first | subst ea_ | (injection ea_ with ea_; subst ea_)); subst ec_; clear en_)); have Dr := A_ Bz; have Ds := A_ HG27; clear Bz gl27 HG27; (first | simp only [add_plain] at Ao | skip); obtain ⟨Ck, Cl⟩ := Kd.R_celln 0 Ab.out (Aj : Int) Ch Ci; replace Ch := eq_true Ch; replace Ci := eq_true Ci; have HN741_go27 := A_ (show Af ≠ Cj from by have h_ := IsS118.own_ne Aa.out Ab.out (by decide); intro e_; exact h_ (by rw [e_]; rfl)); have Bl := Kd.R_putn Ab.out (Aj : Int) (Go.bits .xor .u8 (rd Al Aj) ((wrap64 (1 + Bi)) % 256)); rw [← Bu.out] at Bl; have Cm := A_ Bl; clear Bl; refine k1_ hK (HS0_) (fun hHeld => ?_); clear hK K; refine p1_ 7 (rl_ [8, 4]) HT_ ?_
  refine p1_ 8 (rl_ [9, 3]) HT_ ?_
  refine p1_ 9 (rl_ [10, 2]) HT_ ?_
  refine p1_ 10 (rl_ [11, 1]) HT_ ?_
  refine last_ (i := 11) (N := none) (rl_ [12]) rfl rfl (one_of HT_.out (by kernel_rfl)) (by decide) (fun K hK => ?_); refine skip_ (w1 := ?_) (by rfl) rfl ?_ ?_; rotate_left
  ·
   go_simp
   rfl
  refine hK.out _ _ ?_; clear hK K; refine done_ (done_of HT_.out (by kernel_rfl)) ?_
  try go_wp2
  go_ret
  exact ⟨_, eq_a, by (with_reducible repeat (first | apply Kd.R_alloc | apply Kd.R_drewN | apply Kd.R_drew)); exact Kd.R_mono Cm.out (fun _ hk => trivial), below_i⟩
 rw [if_neg Br] at H; obtain ⟨As, Bs⟩ := nb_ Br; (first | rw [As] | (simp only [i64_w, i32_w]; rw [As]) | skip)
 by_cases B0 : Bg = 1
 ·
  rw [if_pos B0] at H; obtain ⟨B3, B4⟩ := be_ B0; clear B0; obtain ⟨⟨Au, Cn⟩, Dt, H⟩ := bj_ H; (try dsimp only at H)
  obtain ⟨Co, H⟩ := iq_ H; have C8 := eq_true Co; have C9 : decide (0 ≤ Au) = true := decide_eq_true Co; clear Co
  obtain ⟨Cp, H⟩ := iq_ H; have Da := eq_true Cp; have Db : decide (Au ≤ (Al.length : Int)) = true := decide_eq_true Cp; clear Cp; obtain ⟨Cq, A7⟩ := ey_ (Al.take (Au : Int).toNat); (try (with_reducible replace H := os_ H)); (try dsimp only at H); (try rw [← A7] at H)
  have Bb := A_ A7; clear A7; obtain rfl := Option.some.inj H
  go_wp2_with (first | ((with_reducible refine f1_ 53 ?_); refine gl_ (some 35) Try.func53 #[.pointer (some ⟨Af, 0, none⟩), .int .i64 11] ?_; (with_reducible refine (spec_l1Next.calls Af Ah Bh 11 Au Cn w _ ?_ ?_ Dt.out).mono ?_); exact IsS118.a; exact below_i; rintro e D4 ⟨rfl, hi, hb, hk⟩; refine ⟨_, rfl, ?_⟩; replace Ac := rk_ Aa Ac hk; replace Ag := kb_ Ad hk; replace Ae := rk_ Aa Ae hk; replace Ab := rk_ Aa Ab hk; replace HB := A_ (hb); replace Aa := A_ (hi); (try clear hb hk hi); obtain ⟨Cr, Cs, rfl⟩ := Kd.R_slice Ab.out; have Ct : (Au : Int) ≤ ((Al.length : Int) : Int) := od_; obtain ⟨Du, Bc, _, hsz39, _⟩ := info_parts info5; have hcut39 := cut_to (P := Try.prog) 25 5 .i64 Try.underlying25 Bc Cr Al.length Cs Au od_ Ct (Kd.R_reads' Ab.out).2.1; have Ba := Kd.R_take (m := (Au : Int).toNat) Ab.out (by omega); have Ca : Cq.length = (Au : Int).toNat := (by rw [Bb.out, List.length_take]; omega); rw [← Bb.out] at Ba; rw [← Ca] at Ba hcut39; clear Ca Bc hsz39 Ab; have Cb := A_ Ba; clear Ba; replace Ct := eq_true Ct))
  go_ret
  exact ⟨_, eq_a, rp_ Cb, below_i⟩
 rw [if_neg B0] at H; obtain ⟨B3, B4⟩ := nb_ B0; obtain rfl := Option.some.inj H
 go_wp2
 go_ret
 exact ⟨_, eq_a, rp_ Ab, below_i⟩
end Go.Proofs.Ytiioiohdifkbgaa.MFnLetters
