-- Laid by a program of this session (the kit's print, turned where it falls short; the texts of functions that it does not take are proved by hand).
import Derived.Test.YtiioiohdifkbgaaMFnLettersx3
namespace Go.Proofs.Ytiioiohdifkbgaa.MFnLetters
open Go.RowKit Go.Proofs.YtiioiohdifkbgaaW.PrintWords Go.Proofs.YtiioiohdifkbgaaW.PrintLast Go.Proofs.YtiioiohdifkbgaaW.PrintMore
set_option maxHeartbeats 80000000
set_option maxRecDepth 100000
attribute [local go_sem] max2_int min2_int max_two min_two max_three min_three max_four min_four   -- for this text's walks alone
set_option linter.unusedVariables false
set_option linter.unusedSimpArgs false
attribute [local go_sem] isSome_setCell
def spec_l3Bytes.l0 : Nat → Int → Int → List Int → Int → Option (List Int)
 | 0, _, _, _, _ => none
 | k + 1, x0, x1, x5, x6 => if x6 ≥ 0 then (if 0 ≤ x6 then (if x6 < (x5.length : Int) then (if 0 ≤ (wrap64 (8 + x6)) then (if (wrap64 (8 + x6)) < (x5.length : Int) then (spec_l3Bytes.l0 k (IntKind.u64.wrap (Int.tdiv x0 256)) (IntKind.u64.wrap (Int.tdiv x1 256)) ((x5.set (x6 : Int).toNat ((Int.tmod x0 256) % 256)).set ((wrap64 (8 + x6)) : Int).toNat ((Int.tmod x1 256) % 256)) (wrap64 (x6 - 1))) else (none)) else (none)) else (none)) else (none)) else (some x5)
def spec_l3Bytes.f (k : Nat) (a0 : Int) (a1 : Int) : Option (List Int) := if 16 ≤ 281474976710656 then (spec_l3Bytes.l0 k a0 a1 (List.replicate 16 0) 7) else (none)
theorem spec_l3Bytes.calls (k : Nat) (a0 : Int) (a1 : Int) (r : List Int) (w : World) (h : spec_l3Bytes.f k a0 a1 = some r) :
  Calls Try.prog 123 #[.int .u64 a0, .int .u64 a1] w fun e w' => ∃ v0_ : Value, e = .returned (v0_) ∧ Kd.R (Kd.int .u8) 5 w' w.heap.size (fun _ => True) v0_ r ∧ Below w.heap.size w w' := by
 have HB := A_ (Below.refl w.heap.size w)
 unfold spec_l3Bytes.f at h; have H := h; clear h
 obtain ⟨c3, H⟩ := iq_ H; have Av := eq_true c3; have Aw : decide (16 ≤ 281474976710656) = true := decide_eq_true c3; clear c3; obtain ⟨Ax, Ag⟩ := ey_ (List.replicate 16 0 : List Int); (try (with_reducible replace H := os_ H)); (try dsimp only at H); (try rw [← Ag] at H)
 have Aj := A_ Ag; clear Ag; have H' := A_ H; clear H
 go_enter Try.func123, Try.ntmps123
 go_wp2_with (first | ((with_reducible refine d1_ 7 ?_); refine Kd.R_make (Kd.int .u8) _ 5 rfl (N := 7) rfl 25 _ _ rfl 16 rfl rfl Try.underlying25 (.int .u8 0) 1 info5 rfl (by decide) (by omega) 0 (ok := fun _ => True) (okp := fun _ => True) rfl (fun _ hk => hk) trivial (by omega) (by omega) (Below.refl _ _) (Nat.le_refl _) ?_; intro Ay w4 An hb hg_ hnew_; clear hg_ hnew_; (first | rw [← Aj.out] at An | (simp only [Int.reduceToNat] at An; rw [← Aj.out] at An)); have Ao := A_ (Kd.R_lower An (below_size below_a)); replace HB := bs_ hb; clear hb An))
 go_loopg [0, 1, 6] k (fun kq v0 v1 v6 w' => ∃ (Ae : Int) (Af : Int) (Ac : List Int) (Aa : Int), v0 = .int .u64 Ae ∧ v1 = .int .u64 Af ∧ v6 = .int .i64 Aa ∧ Aside0 (spec_l3Bytes.l0 kq Ae Af Ac Aa = some r) ∧ Aside0 (kq ≤ k) ∧ Aside0 (Kd.R (Kd.int .u8) 5 w' w.heap.size (fun _ => True) Ay Ac) ∧ Aside0 (Below w.heap.size w w'))
 case atStart => exact ⟨(a0), (a1), (Ax), (7), eq_b, eq_b, eq_b, H', ⟨Nat.le_refl _⟩, ⟨R_a Ao.out⟩, ⟨below_a⟩⟩
 case round =>
  clear H'
  try clear c1
  try clear p2
  try clear c3 Av Aw
  obtain ⟨Ae, Af, Ac, Aa, rfl, rfl, rfl, HA, HK1, Ab, HB⟩ := hrel
  cases gk with
  | zero => exact absurd HA.out (by simp [spec_l3Bytes.l0])
  | succ k1 =>
   have H := HA.out; clear HA; simp only [spec_l3Bytes.l0] at H
   by_cases c6 : Aa ≥ 0
   ·
    rw [if_pos c6] at H; have Az : decide (0 ≤ Aa) = true := decide_eq_true c6; clear c6
    obtain ⟨c7, H⟩ := iq_ H; have Bg := decide_eq_true c7; clear c7
    obtain ⟨c8, H⟩ := iq_ H; have Bh := decide_eq_true c8; clear c8; obtain ⟨Ap, Ah⟩ := ey_ (Ac.set (Aa : Int).toNat ((Int.tmod Ae 256) % 256)); (try (with_reducible replace H := os_ H)); (try dsimp only at H); (try rw [← Ah] at H)
    have Aq := A_ Ah; clear Ah; obtain ⟨Ad, hji10⟩ : ∃ j_ : Int, (wrap64 (8 + Aa)) = j_ := ⟨_, rfl⟩; first | rw [hji10] at H | simp only [hji10] at H
    have hji10w : (IntKind.i64.wrap (8 + Aa)) = Ad := (i64_w _).trans hji10
    obtain ⟨A6, H⟩ := iq_ H; have A7 := decide_eq_true A6; clear A6
    obtain ⟨A8, H⟩ := iq_ H; have A9 := decide_eq_true A8; clear A8; obtain ⟨Ar, Ai⟩ := ey_ (Ap.set ((Ad) : Int).toNat ((Int.tmod Af 256) % 256)); (try (with_reducible replace H := os_ H)); (try dsimp only at H); (try rw [← Ai] at H)
    have As := A_ Ai; clear Ai; have H' := A_ H; clear H; have p9 : 0 ≤ (Aa : Int) := od_; have q9 : (Aa : Int) < ((Ac.length : Int) : Int) := od_; obtain ⟨Am, Ba, Bb, Bc, gl9, Bi, HG9⟩ := Kd.R_form Ab.out (by omega); (first | cases Bb | (injection Bb with ea_ en_ ec_; (first | subst ea_ | (injection ea_ with ea_; subst ea_)); subst ec_; clear en_)); have Bd := A_ Bc; have Bj := A_ HG9; clear Bc gl9 HG9; obtain ⟨Be, Bf⟩ := Kd.R_celln 0 Ab.out (Aa : Int) p9 q9; replace p9 := eq_true p9; replace q9 := eq_true q9; have Ak := Kd.R_putg Ab.out (Aa : Int) ((Int.tmod Ae 256) % 256)
    go_wp2_with (first | ((with_reducible refine s1_ 5 17 ?_); refine store_event (t := 5) (p := 17) (v := ?vo_w15) (w1 := (wr.setCell ⟨Am, (Aa : Int).toNat, none⟩ (.int .u8 ((Int.tmod Ae 256) % 256)))) ?hg ?ho ?hn ?hr ?_; (case ho => rfl); (case hg => rfl); (case hn => rfl); (case hr => go_simp <;> rfl); intro Au hw; have hg : wr.grownBy Au (some Am) := (by rw [hw]; exact Ak.2); have hp_ : Kd.R (Kd.int .u8) 5 Au w.heap.size (fun _ => True) (.slice (some ⟨Am, 0, none⟩) Ac.length Ba) Ap := (by rw [hw, Aq.out]; exact Ak.1); clear Ak; replace Ab := A_ (hp_); replace HB := A_ ((by rw [hw]; exact below_set (HB.out) Bd.out : Below w.heap.size w Au)); clear hg hw hp_; have A0 : 0 ≤ ((Ad) : Int) := od_; have A1 : ((Ad) : Int) < ((Ac.length : Int) : Int) := od_; obtain ⟨A3, A4⟩ := Kd.R_celln 0 Ab.out ((Ad) : Int) A0 A1; replace A0 := eq_true A0; replace A1 := eq_true A1; obtain ⟨hy16_, hz16_⟩ := Kd.R_celln 0 Ab.out ((Ad) : Int) od_ od_; have Al := Kd.R_putg Ab.out ((Ad) : Int) ((Int.tmod Af 256) % 256)) | ((with_reducible refine s1_ 5 24 ?_); refine store_event (t := 5) (p := 24) (v := ?vo_w17) (w1 := (Au.setCell ⟨Am, ((Ad) : Int).toNat, none⟩ (.int .u8 ((Int.tmod Af 256) % 256)))) ?hg ?ho ?hn ?hr ?_; (case ho => rfl); (case hg => rfl); (case hn => rfl); (case hr => go_simp <;> rfl); intro A5 hw; have hg : Au.grownBy A5 (some Am) := (by rw [hw]; exact Al.2); have hp_ : Kd.R (Kd.int .u8) 5 A5 w.heap.size (fun _ => True) (.slice (some ⟨Am, 0, none⟩) Ac.length Ba) Ar := (by rw [hw, As.out]; exact Al.1); clear Al; replace Ab := A_ (hp_); replace HB := A_ ((by rw [hw]; exact below_set (HB.out) Bd.out : Below w.heap.size w A5)); clear hg hw hp_))
    go_roundg k1
    case measure => have := HK1.out; omega
    case rel => exact ⟨(IntKind.u64.wrap (Int.tdiv Ae 256)), (IntKind.u64.wrap (Int.tdiv Af 256)), (Ar), (wrap64 (Aa - 1)), eq_b, eq_b, eq_b, H', ⟨by have := HK1.out; omega⟩, ⟨R_a Ab.out⟩, ⟨below_a⟩⟩
   rw [if_neg c6] at H; have Az : decide (0 ≤ Aa) = false := decide_eq_false c6; clear c6; obtain rfl := Option.some.inj H
   go_wp2
   go_ret
   exact ⟨_, eq_a, R_a Ab.out, below_a⟩
def spec_l3Times.l0 : Nat → List Int → Int → Int → Int → Int → Int → Option (List Int)
 | 0, _, _, _, _, _, _ => none
 | k + 1, x0, x5, x6, x7, x8, x9 => if x9 < 128 then (if 0 ≤ (wrap64 (Int.tdiv x9 8)) then (if (wrap64 (Int.tdiv x9 8)) < (x0.length : Int) then (if 0 ≤ (IntKind.u64.wrap (7 - (IntKind.u64.wrap (Int.tmod x9 8)))) then (if (Int.tmod (shr .u8 (rd x0 (wrap64 (Int.tdiv x9 8))) (IntKind.u64.wrap (7 - (IntKind.u64.wrap (Int.tmod x9 8))))) 2) = 1 then (if (Int.tmod x8 2) = 1 then (spec_l3Times.l0 k x0 (Go.bits .xor .u64 x5 x7) (Go.bits .xor .u64 x6 x8) (Go.bits .xor .u64 (IntKind.u64.wrap (Int.tdiv x7 2)) 16212958658533785600) (IntKind.u64.wrap ((IntKind.u64.wrap (Int.tdiv x8 2)) + (IntKind.u64.wrap ((Int.tmod x7 2) * 9223372036854775808)))) (wrap64 (x9 + 1))) else (spec_l3Times.l0 k x0 (Go.bits .xor .u64 x5 x7) (Go.bits .xor .u64 x6 x8) (IntKind.u64.wrap (Int.tdiv x7 2)) (IntKind.u64.wrap ((IntKind.u64.wrap (Int.tdiv x8 2)) + (IntKind.u64.wrap ((Int.tmod x7 2) * 9223372036854775808)))) (wrap64 (x9 + 1)))) else (if (Int.tmod x8 2) = 1 then (spec_l3Times.l0 k x0 x5 x6 (Go.bits .xor .u64 (IntKind.u64.wrap (Int.tdiv x7 2)) 16212958658533785600) (IntKind.u64.wrap ((IntKind.u64.wrap (Int.tdiv x8 2)) + (IntKind.u64.wrap ((Int.tmod x7 2) * 9223372036854775808)))) (wrap64 (x9 + 1))) else (spec_l3Times.l0 k x0 x5 x6 (IntKind.u64.wrap (Int.tdiv x7 2)) (IntKind.u64.wrap ((IntKind.u64.wrap (Int.tdiv x8 2)) + (IntKind.u64.wrap ((Int.tmod x7 2) * 9223372036854775808)))) (wrap64 (x9 + 1))))) else (none)) else (none)) else (none)) else ((spec_l3Bytes.f k x5 x6).bind fun Aa => (some Aa))
def spec_l3Times.f (k : Nat) (l0 : List Int) (l1 : List Int) : Option (List Int) := (spec_l3Half.f k l1).bind fun t160 => (if 8 ≤ (l1.length : Int) then ((spec_l3Half.f k (l1.drop 8)).bind fun t162 => (spec_l3Times.l0 k l0 0 0 t160 t162 0)) else (none))
theorem spec_l3Times.calls (k : Nat) (A0 : Option Addr) (c0 : Nat) (l0 : List Int) (A1 : Option Addr) (c1 : Nat) (l1 : List Int) (r : List Int) (w : World) (Bf : Kd.C (Kd.int .u8) w A0 l0.length l0) (Bg : l0.length ≤ c0) (Bh : Kd.C (Kd.int .u8) w A1 l1.length l1) (Bi : l1.length ≤ c1) (h : spec_l3Times.f k l0 l1 = some r) :
  Calls Try.prog 111 #[.slice A0 l0.length c0, .slice A1 l1.length c1] w fun e w' => ∃ v0_ : Value, e = .returned (v0_) ∧ Kd.R (Kd.int .u8) 5 w' w.heap.size (fun _ => True) v0_ r ∧ Below w.heap.size w w' := by
 have Ba := A_ Bf
 have Bu := A_ Bg
 clear Bf Bg
 have Bj := A_ Bh
 have Bk := A_ Bi
 clear Bh Bi
 have HB := A_ (Below.refl w.heap.size w)
 unfold spec_l3Times.f at h; have H := h; clear h
 obtain ⟨Ao, Bl, H⟩ := bi_ H
 (try dsimp only at H)
 have A3 := A_ Bl
 clear Bl
 obtain ⟨c4, H⟩ := iq_ H; have Bb := eq_true c4; have Bc : decide (8 ≤ (l1.length : Int)) = true := decide_eq_true c4; clear c4; obtain ⟨Ap, A5, H⟩ := bj_ H; (try dsimp only at H); have H' := A_ H; clear H
 go_enter Try.func111, Try.ntmps111
 go_wp2_with (first | ((with_reducible refine f1_ 122 ?_); refine gl_ (some 12) Try.func122 #[.slice A1 l1.length c1] ?_; (with_reducible refine (spec_l3Half.calls k _ _ l1 Ao _ ?_ ?_ A3.out).mono ?_); exact ca_ Bj.out; exact Bk.out; rintro e w' ⟨rfl, ⟨nd, rfl⟩⟩; refine ⟨_, rfl, ?_⟩; obtain ⟨Bv, Aq, _, hsz6, _⟩ := info_parts info5; obtain ⟨A6, hcut6, hA6, hC6⟩ := print_drop_of (P := Try.prog) (Value.int .u8) 0 25 5 .i64 Try.underlying25 Aq hsz6 A1 c1 l1 8 (by omega) od_ Bk.out; have Ar := A_ (Kd.C_of_reads (h1 := fun _ => rfl) (hA6 _ (Kd.reads_of_C Bj.out))); have As := A_ hC6; clear hA6 hC6 Aq hsz6) | ((with_reducible refine f1_ 122 ?_); refine goesL_ (some 15) rfl rfl Try.func122 (by kernel_rfl) rfl #[.slice A6 (l1.drop 8).length (c1 - 8)] rfl (by (try simp only [List.map_toArray, List.map_cons, List.map_nil]); first | done | (rw [show (l1.drop 8).length = (l1.length - 8) from List.length_drop] <;> rfl) | rfl | (simp only [List.length_drop, List.length_take]; rfl)) ?_; (with_reducible refine (spec_l3Half.calls k _ _ (l1.drop 8) Ap _ ?_ ?_ A5.out).mono ?_); exact ca_ Ar.out; exact As.out; rintro e w' ⟨rfl, ⟨nd, rfl⟩⟩; refine ⟨_, rfl, ?_⟩))
 go_loopg [5, 6, 7, 8, 9] k (fun kq v5 v6 v7 v8 v9 w' => ∃ (Ag : Int) (Ah : Int) (Ad : Int) (Ae : Int) (Af : Int), v5 = .int .u64 Ag ∧ v6 = .int .u64 Ah ∧ v7 = .int .u64 Ad ∧ v8 = .int .u64 Ae ∧ v9 = .int .i64 Af ∧ Aside0 (spec_l3Times.l0 kq l0 Ag Ah Ad Ae Af = some r) ∧ Aside0 (kq ≤ k) ∧ Aside0 (Below w.heap.size w w'))
 case atStart => exact ⟨(0), (0), (Ao), (Ap), (0), eq_b, eq_b, eq_b, eq_b, eq_b, H', ⟨Nat.le_refl _⟩, ⟨below_a⟩⟩
 case round =>
  clear H'
  try clear c1
  try clear p2
  try clear c4 Bb Bc
  obtain ⟨Ag, Ah, Ad, Ae, Af, rfl, rfl, rfl, rfl, rfl, HA, HK1, HB⟩ := hrel
  cases gk with
  | zero => exact absurd HA.out (by simp [spec_l3Times.l0])
  | succ k1 =>
   have H := HA.out; clear HA; simp only [spec_l3Times.l0] at H
   by_cases c7 : Af < 128
   ·
    rw [if_pos c7] at H; have Bd := decide_eq_true c7; clear c7; obtain ⟨Ai, hji8⟩ : ∃ j_ : Int, (wrap64 (Int.tdiv Af 8)) = j_ := ⟨_, rfl⟩; first | rw [hji8] at H | simp only [hji8] at H
    have hji8w : (IntKind.i64.wrap (Int.tdiv Af 8)) = Ai := (i64_w _).trans hji8
    obtain ⟨c9, H⟩ := iq_ H; have Br := decide_eq_true c9; clear c9
    obtain ⟨Bm, H⟩ := iq_ H; have Bn := decide_eq_true Bm; clear Bm; obtain ⟨Ak, hji11⟩ : ∃ j_ : Int, (IntKind.u64.wrap (7 - (IntKind.u64.wrap (Int.tmod Af 8)))) = j_ := ⟨_, rfl⟩; first | rw [hji11] at H | simp only [hji11] at H
    obtain ⟨Be, H⟩ := iq_ H; have Bo := eq_true Be; have Bp : decide (0 ≤ (Ak)) = true := decide_eq_true Be; clear Be; obtain ⟨Al, hji13⟩ : ∃ j_ : Int, (shr .u8 (rd l0 (Ai)) (Ak)) = j_ := ⟨_, rfl⟩; first | rw [hji13] at H | simp only [hji13] at H
    have hji13_ : ((rd l0 (Ai)) / 2 ^ min (Ak).toNat 8) = Al := hji13; have hji13z : (Ak) ≤ 8 → ((rd l0 (Ai)) / 2 ^ (Ak).toNat) = Al := shr_small hji13
    by_cases An : (Int.tmod (Al) 2) = 1
    ·
     rw [if_pos An] at H; obtain ⟨Au, Av⟩ := be_ An; clear An
     by_cases Aw : (Int.tmod Ae 2) = 1
     ·
      rw [if_pos Aw] at H; obtain ⟨Ax, Ay⟩ := be_ Aw; clear Aw; have H' := A_ H; clear H; have Ab : 0 ≤ ((Ai) : Int) := od_; have Ac : (Ai) < (l0.length : Int) := od_; obtain ⟨Am, Aj, Aa⟩ := Kd.at_int Ba.out (Ai) Ab Ac
      cases Aj
      replace Aa := hc_ HB Aa; replace Ab := eq_true Ab; replace Ac := eq_true Ac
      go_wp2
      go_roundg k1
      case measure => have := HK1.out; omega
      case rel => exact ⟨(Go.bits .xor .u64 Ag Ad), (Go.bits .xor .u64 Ah Ae), (Go.bits .xor .u64 (IntKind.u64.wrap (Int.tdiv Ad 2)) 16212958658533785600), (IntKind.u64.wrap ((IntKind.u64.wrap (Int.tdiv Ae 2)) + (IntKind.u64.wrap ((Int.tmod Ad 2) * 9223372036854775808)))), (wrap64 (Af + 1)), eq_b, eq_b, eq_b, eq_b, eq_b, H', ⟨by have := HK1.out; omega⟩, ⟨below_a⟩⟩
     rw [if_neg Aw] at H; obtain ⟨Ax, Ay⟩ := nb_ Aw; have H' := A_ H; clear H; have Ab : 0 ≤ ((Ai) : Int) := od_; have Ac : (Ai) < (l0.length : Int) := od_; obtain ⟨Am, Aj, Aa⟩ := Kd.at_int Ba.out (Ai) Ab Ac
     cases Aj
     replace Aa := hc_ HB Aa; replace Ab := eq_true Ab; replace Ac := eq_true Ac
     go_wp2
     go_roundg k1
     case measure => have := HK1.out; omega
     case rel => exact ⟨(Go.bits .xor .u64 Ag Ad), (Go.bits .xor .u64 Ah Ae), (IntKind.u64.wrap (Int.tdiv Ad 2)), (IntKind.u64.wrap ((IntKind.u64.wrap (Int.tdiv Ae 2)) + (IntKind.u64.wrap ((Int.tmod Ad 2) * 9223372036854775808)))), (wrap64 (Af + 1)), eq_b, eq_b, eq_b, eq_b, eq_b, H', ⟨by have := HK1.out; omega⟩, ⟨below_a⟩⟩
    rw [if_neg An] at H; have Au : ((Int.tmod (Al) 2) == 1) = false := beq_eq_false_iff_ne.mpr An; have Av : ((Int.tmod (Al) 2) != 1) = true := bne_iff_ne.mpr An
    by_cases Az : (Int.tmod Ae 2) = 1
    ·
     rw [if_pos Az] at H; obtain ⟨A4, A7⟩ := be_ Az; clear Az; have H' := A_ H; clear H; have Ab : 0 ≤ ((Ai) : Int) := od_; have Ac : (Ai) < (l0.length : Int) := od_; obtain ⟨Am, Aj, Aa⟩ := Kd.at_int Ba.out (Ai) Ab Ac
     cases Aj
     replace Aa := hc_ HB Aa; replace Ab := eq_true Ab; replace Ac := eq_true Ac
     go_wp2
     go_roundg k1
     case measure => have := HK1.out; omega
     case rel => exact ⟨(Ag), (Ah), (Go.bits .xor .u64 (IntKind.u64.wrap (Int.tdiv Ad 2)) 16212958658533785600), (IntKind.u64.wrap ((IntKind.u64.wrap (Int.tdiv Ae 2)) + (IntKind.u64.wrap ((Int.tmod Ad 2) * 9223372036854775808)))), (wrap64 (Af + 1)), eq_b, eq_b, eq_b, eq_b, eq_b, H', ⟨by have := HK1.out; omega⟩, ⟨below_a⟩⟩
    rw [if_neg Az] at H; obtain ⟨A4, A7⟩ := nb_ Az; have H' := A_ H; clear H; have Ab : 0 ≤ ((Ai) : Int) := od_; have Ac : (Ai) < (l0.length : Int) := od_; obtain ⟨Am, Aj, Aa⟩ := Kd.at_int Ba.out (Ai) Ab Ac
    cases Aj
    replace Aa := hc_ HB Aa; replace Ab := eq_true Ab; replace Ac := eq_true Ac
    go_wp2
    go_roundg k1
    case measure => have := HK1.out; omega
    case rel => exact ⟨(Ag), (Ah), (IntKind.u64.wrap (Int.tdiv Ad 2)), (IntKind.u64.wrap ((IntKind.u64.wrap (Int.tdiv Ae 2)) + (IntKind.u64.wrap ((Int.tmod Ad 2) * 9223372036854775808)))), (wrap64 (Af + 1)), eq_b, eq_b, eq_b, eq_b, eq_b, H', ⟨by have := HK1.out; omega⟩, ⟨below_a⟩⟩
   rw [if_neg c7] at H; have Bd := decide_eq_false c7; clear c7; obtain ⟨A8, Bs, H⟩ := bj_ H; replace H : (some A8) = some r := H; obtain rfl := Option.some.inj H
   go_wp2_with (first | ((with_reducible refine f1_ 123 ?_); refine gl_ (some 54) Try.func123 #[.int .u64 Ag, .int .u64 Ah] ?_; (with_reducible refine (spec_l3Bytes.calls k1 Ag Ah A8 _ Bs.out).mono ?_); rintro e Bw ⟨Bt, rfl, Bq, hb⟩; refine ⟨_, rfl, ?_⟩; have A9 := A_ (Kd.R_lower Bq (below_size below_a)); replace HB := bs_ hb; (try clear hb Bq)))
   go_ret
   exact ⟨_, eq_a, R_a A9.out, below_a⟩
def spec_l3Hash.l0 : Nat → List Int → List Int → List Int → Int → Option (List Int)
 | 0, _, _, _, _ => none
 | k + 1, x0, x1, x5, x6 => if (wrap64 (x6 + 16)) ≤ (x1.length : Int) then (if 0 ≤ x6 then (if x6 ≤ (wrap64 (x6 + 16)) then ((spec_l1Xor.f k x5 ((x1.take ((wrap64 (x6 + 16)) : Int).toNat).drop (x6 : Int).toNat)).bind fun Aa => ((spec_l3Times.f k Aa x0).bind fun Ab => (spec_l3Hash.l0 k x0 x1 Ab (wrap64 (x6 + 16))))) else (none)) else (none)) else (some x5)
def spec_l3Hash.f (k : Nat) (l0 : List Int) (l1 : List Int) : Option (List Int) := if 16 ≤ 281474976710656 then (spec_l3Hash.l0 k l0 l1 (List.replicate 16 0) 0) else (none)
theorem spec_l3Hash.calls (k : Nat) (A0 : Option Addr) (c0 : Nat) (l0 : List Int) (A1 : Option Addr) (c1 : Nat) (l1 : List Int) (r : List Int) (w : World) (A4 : Kd.C (Kd.int .u8) w A0 l0.length l0) (A5 : l0.length ≤ c0) (A6 : Kd.C (Kd.int .u8) w A1 l1.length l1) (A7 : l1.length ≤ c1) (h : spec_l3Hash.f k l0 l1 = some r) :
  Calls Try.prog 102 #[.slice A0 l0.length c0, .slice A1 l1.length c1] w fun e w' => ∃ v0_ : Value, e = .returned (v0_) ∧ Kd.R (Kd.int .u8) 5 w' w.heap.size (fun _ => True) v0_ r ∧ Below w.heap.size w w' := by
 have A8 := A_ A4
 have A9 := A_ A5
 clear A4 A5
 have Ba := A_ A6
 have Bb := A_ A7
 clear A6 A7
 have HB := A_ (Below.refl w.heap.size w)
 unfold spec_l3Hash.f at h; have H := h; clear h
 obtain ⟨c3, H⟩ := iq_ H; have Ap := eq_true c3; have Aq : decide (16 ≤ 281474976710656) = true := decide_eq_true c3; clear c3; obtain ⟨Ar, Ad⟩ := ey_ (List.replicate 16 0 : List Int); (try (with_reducible replace H := os_ H)); (try dsimp only at H); (try rw [← Ad] at H)
 have Af := A_ Ad; clear Ad; have H' := A_ H; clear H
 go_enter Try.func102, Try.ntmps102
 go_wp2_with (first | ((with_reducible refine d1_ 7 ?_); refine Kd.R_make (Kd.int .u8) _ 5 rfl (N := 7) rfl 25 _ _ rfl 16 rfl rfl Try.underlying25 (.int .u8 0) 1 info5 rfl (by decide) (by omega) 0 (ok := fun _ => True) (okp := fun _ => True) rfl (fun _ hk => hk) trivial (by omega) (by omega) (Below.refl _ _) (Nat.le_refl _) ?_; intro Bc w4 Aj hb hg_ hnew_; clear hg_ hnew_; (first | rw [← Af.out] at Aj | (simp only [Int.reduceToNat] at Aj; rw [← Af.out] at Aj)); have Ak := A_ (Kd.R_lower Aj (below_size below_a)); replace HB := bs_ hb; clear hb Aj))
 go_loopg [5, 6] k (fun kq v5 v6 w' => ∃ (Ae : List Int) (Aa : Int), v6 = .int .i64 Aa ∧ Aside0 (spec_l3Hash.l0 kq l0 l1 Ae Aa = some r) ∧ Aside0 (kq ≤ k) ∧ Aside0 (Kd.R (Kd.int .u8) 5 w' w.heap.size (fun _ => True) v5 Ae) ∧ Aside0 (Below w.heap.size w w'))
 case atStart => exact ⟨(Ar), (0), eq_b, H', ⟨Nat.le_refl _⟩, ⟨R_a Ak.out⟩, ⟨below_a⟩⟩
 case round =>
  clear H'
  try clear c1
  try clear p2
  try clear c3 Ap Aq
  obtain ⟨Ae, Aa, rfl, HA, HK1, Ab, HB⟩ := hrel
  cases gk with
  | zero => exact absurd HA.out (by simp [spec_l3Hash.l0])
  | succ k1 =>
   have H := HA.out; clear HA; simp only [spec_l3Hash.l0] at H
   by_cases c6 : (wrap64 (Aa + 16)) ≤ (l1.length : Int)
   ·
    rw [if_pos c6] at H; have As := decide_eq_true c6; (try (have Au : decide ((IntKind.i64.wrap (Aa + 16)) ≤ (l1.length : Int)) = true := by simp only [i64_w]; exact decide_eq_true c6)); clear c6
    obtain ⟨c7, H⟩ := iq_ H; have Bd := eq_true c7; have Be : decide (0 ≤ Aa) = true := decide_eq_true c7; clear c7
    obtain ⟨c8, H⟩ := iq_ H; have Bf := eq_true c8; have Bg : decide (Aa ≤ (wrap64 (Aa + 16))) = true := decide_eq_true c8; have Bh := eq_true (od_ : (wrap64 (Aa + 16)) ≤ (l1.length : Int)); obtain ⟨Ai, Bi, H⟩ := bj_ H; (try dsimp only at H); obtain ⟨Al, Bj, H⟩ := bj_ H; (try dsimp only at H); have H' := A_ H; clear H; obtain ⟨Bk, Ag, _, hsz12, _⟩ := info_parts info5; obtain ⟨Bl, hcut12, hA12, hC12⟩ := print_mid_of (P := Try.prog) (Value.int .u8) 0 25 5 .i64 .i64 Try.underlying25 Ag hsz12 A1 c1 l1 Aa (wrap64 (Aa + 16)) od_ (by first | omega | exact od_) od_ Bb.out; have Am := A_ (Kd.C_of_reads (h1 := fun _ => rfl) (hA12 _ (Kd.reads_of_C Ba.out))); have An := A_ hC12; clear hA12 hC12 Ag hsz12; have Av := A_ (show ((l1.take ((wrap64 (Aa + 16)) : Int).toNat).drop (Aa : Int).toNat).length = (wrap64 (Aa + 16)).toNat - Aa.toNat from by have h_ : ((wrap64 (Aa + 16)) : Int) ≤ (l1.length : Int) := od_; rw [List.length_drop, List.length_take]; omega); obtain ⟨Aw, Ax, rfl⟩ := Kd.R_slice Ab.out
    go_wp2_with (first | ((with_reducible refine f1_ 101 ?_); refine goesL_ (some 21) rfl rfl Try.func101 (by kernel_rfl) rfl #[.slice Aw Ae.length Ax, .slice Bl ((l1.take ((wrap64 (Aa + 16)) : Int).toNat).drop (Aa : Int).toNat).length (c1 - Aa.toNat)] rfl (by (try simp only [List.map_toArray, List.map_cons, List.map_nil]); first | done | (rw [show ((l1.take ((wrap64 (Aa + 16)) : Int).toNat).drop (Aa : Int).toNat).length = ((wrap64 (Aa + 16)).toNat - Aa.toNat) from (by rw [List.length_drop, List.length_take]; have h_ : ((wrap64 (Aa + 16)) : Int) ≤ (l1.length : Int) := od_; omega)] <;> rfl) | rfl | (simp only [List.length_drop, List.length_take]; rfl)) ?_; (with_reducible refine (spec_l1Xor.calls k1 _ _ Ae _ _ ((l1.take ((wrap64 (Aa + 16)) : Int).toNat).drop (Aa : Int).toNat) Ai _ ?_ ?_ ?_ ?_ Bi.out).mono ?_); exact cr_ Ab; exact cl_ Ab; exact ca_ (Kd.C_below Am.out HB.out); exact An.out; rintro e Bo ⟨Bm, rfl, Ah, hb⟩; refine ⟨_, rfl, ?_⟩; have n0_ := re_ Ab hb (Kd.R_base Ah); have Ac := A_ (Kd.R_lower (Kd.R_new' Ah (Kd.R_lt (R_a Ab.out))) (below_size below_a)); replace HB := bs_ hb; replace Ab := n0_; clear n0_; (try clear hb Ah); obtain ⟨Ay, Az, A3⟩ := Kd.R_slice Ac.out; subst A3) | ((with_reducible refine f1_ 111 ?_); refine gl_ (some 23) Try.func111 #[.slice Ay Ai.length Az, .slice A0 l0.length c0] ?_; (with_reducible refine (spec_l3Times.calls k1 _ _ Ai _ _ l0 Al _ ?_ ?_ ?_ ?_ Bj.out).mono ?_); exact cr_ Ac; exact cl_ Ac; exact ca_ (Kd.C_below A8.out HB.out); exact A9.out; rintro e Bp ⟨Bn, rfl, Ah, hb⟩; refine ⟨_, rfl, ?_⟩; have n0_ := re_ Ab hb (Kd.R_base Ah); have n1_ := re_ Ac hb (Kd.R_base Ah); have Ao := A_ (Kd.R_lower (Kd.R_new' (Kd.R_new' Ah (Kd.R_lt (R_a Ab.out))) (Kd.R_lt (R_a Ac.out))) (below_size below_a)); replace HB := bs_ hb; replace Ab := n0_; replace Ac := n1_; clear n0_ n1_; (try clear hb Ah)))
    go_roundg k1
    case measure => have := HK1.out; omega
    case rel => exact ⟨(Al), (wrap64 (Aa + 16)), eq_b, H', ⟨by have := HK1.out; omega⟩, ⟨rp_ Ao⟩, ⟨below_a⟩⟩
   rw [if_neg c6] at H; have As := decide_eq_false c6; (try (have Au : decide ((IntKind.i64.wrap (Aa + 16)) ≤ (l1.length : Int)) = false := by simp only [i64_w]; exact decide_eq_false c6)); clear c6; obtain rfl := Option.some.inj H
   go_wp2
   go_ret
   exact ⟨_, eq_a, R_a Ab.out, below_a⟩
def spec_l3Tag.f (k : Nat) (l0 : List Int) (l1 : List Int) (l2 : List Int) (l3 : List Int) : Option (List Int) := if 16 ≤ 281474976710656 then ((spec_l2Encrypt.f l0 (List.replicate 16 0)).bind fun Ag => ((spec_l3Whole.f k l2).bind fun Aa => ((spec_l3Whole.f k l3).bind fun Ab => (if Aa.length + Ab.length < 140737488355328 then ((some (Aa ++ Ab : List Int)).bind fun Ac => ((spec_l1Pack.f k (wrap64 (8 * (l2.length : Int))) 8).bind fun Ad => (if Ac.length + Ad.length < 140737488355328 then ((some (Ac ++ Ad : List Int)).bind fun Ae => ((spec_l1Pack.f k (wrap64 (8 * (l3.length : Int))) 8).bind fun Af => (if Ae.length + Af.length < 140737488355328 then ((spec_l3First.f l1).bind fun Ah => ((spec_l2Encrypt.f l0 Ah).bind fun Ai => ((spec_l3Hash.f k Ag (Ae ++ Af)).bind fun Aj => ((spec_l1Xor.f k Ai Aj).bind fun Ak => (some Ak))))) else (none)))) else (none)))) else (none))))) else (none)
theorem spec_l3Tag.calls (k : Nat) (A0 : Option Addr) (c0 : Nat) (l0 : List Int) (A1 : Option Addr) (c1 : Nat) (l1 : List Int) (A2 : Option Addr) (c2 : Nat) (l2 : List Int) (A3 : Option Addr) (c3 : Nat) (l3 : List Int) (r : List Int) (w : World) (Cj : Kd.C (Kd.int .u8) w A0 l0.length l0) (Ck : l0.length ≤ c0) (Cl : Kd.C (Kd.int .u8) w A1 l1.length l1) (Cm : l1.length ≤ c1) (Cn : Kd.C (Kd.int .u8) w A2 l2.length l2) (Co : l2.length ≤ c2) (Cp : Kd.C (Kd.int .u8) w A3 l3.length l3) (Cq : l3.length ≤ c3) (h : spec_l3Tag.f k l0 l1 l2 l3 = some r) :
  Calls Try.prog 75 #[.slice A0 l0.length c0, .slice A1 l1.length c1, .slice A2 l2.length c2, .slice A3 l3.length c3] w fun e w' => ∃ v0_ : Value, e = .returned (v0_) ∧ Kd.R (Kd.int .u8) 5 w' w.heap.size (fun _ => True) v0_ r ∧ Below w.heap.size w w' := by
 have Cr := A_ Cj
 have Cs := A_ Ck
 clear Cj Ck
 have Cv := A_ Cl
 have Cw := A_ Cm
 clear Cl Cm
 have Cx := A_ Cn
 have Cy := A_ Co
 clear Cn Co
 have Cz := A_ Cp
 have C0 := A_ Cq
 clear Cp Cq
 have HB := A_ (Below.refl w.heap.size w)
 unfold spec_l3Tag.f at h; have H := h; clear h
 obtain ⟨c5, H⟩ := iq_ H; have C1 := eq_true c5; have C2 : decide (16 ≤ 281474976710656) = true := decide_eq_true c5; clear c5; obtain ⟨Aj, Az⟩ := ey_ (List.replicate 16 0 : List Int); (try (with_reducible replace H := os_ H)); (try dsimp only at H); (try rw [← Az] at H)
 have Bd := A_ Az; clear Az; obtain ⟨Be, A6, H⟩ := bj_ H; (try dsimp only at H); obtain ⟨Bf, A7, H⟩ := bj_ H; (try dsimp only at H); obtain ⟨Ai, A8, H⟩ := bj_ H; (try dsimp only at H)
 obtain ⟨c9, H⟩ := iq_ H; have LMc9 := A_ c9; clear c9; obtain ⟨Bj, A4⟩ := ey_ (Bf ++ Ai : List Int); (try (with_reducible replace H := os_ H)); (try dsimp only at H); (try rw [← A4] at H)
 have Bk := A_ A4; clear A4; obtain ⟨An, C3, H⟩ := bj_ H; (try dsimp only at H)
 obtain ⟨Ct, H⟩ := iq_ H; have LMc11 := A_ Ct; clear Ct; obtain ⟨Bl, A5⟩ := ey_ (Bj ++ An : List Int); (try (with_reducible replace H := os_ H)); (try dsimp only at H); (try rw [← A5] at H)
 have Bm := A_ A5; clear A5; obtain ⟨Av, C4, H⟩ := bj_ H; (try dsimp only at H)
 obtain ⟨Cu, H⟩ := iq_ H; have LMc13 := A_ Cu; clear Cu; obtain ⟨Bn, A9⟩ := ey_ (Bl ++ Av : List Int); (try (with_reducible replace H := os_ H)); (try dsimp only at H); (try rw [← A9] at H)
 have Bo := A_ A9; clear A9; obtain ⟨Bg, C5, H⟩ := bj_ H; (try dsimp only at H); obtain ⟨Bh, C6, H⟩ := bj_ H; (try dsimp only at H); obtain ⟨Bi, C7, H⟩ := bj_ H; (try dsimp only at H); obtain ⟨Bp, C8, H⟩ := bj_ H; replace H : (some Bp) = some r := H; obtain rfl := Option.some.inj H
 go_enter Try.func75, Try.ntmps75
 go_wp2_with (first | ((with_reducible refine d1_ 12 ?_); refine Kd.R_make (Kd.int .u8) _ 5 rfl (N := 12) rfl 25 _ _ rfl 16 rfl rfl Try.underlying25 (.int .u8 0) 1 info5 rfl (by decide) (by omega) 0 (ok := fun _ => True) (okp := fun _ => True) rfl (fun _ hk => hk) trivial (by omega) (by omega) (Below.refl _ _) (Nat.le_refl _) ?_; intro C9 Di Ba hb hg_ hnew_; clear hg_ hnew_; (first | rw [← Bd.out] at Ba | (simp only [Int.reduceToNat] at Ba; rw [← Bd.out] at Ba)); have Aa := A_ (Kd.R_lower Ba (below_size below_a)); replace HB := bs_ hb; clear hb Ba; obtain ⟨Al, Am, Br⟩ := Kd.R_slice Aa.out; subst Br) | ((with_reducible refine f1_ 99 ?_); refine gl_ (some 13) Try.func99 #[.slice A0 l0.length c0, .slice Al Aj.length Am] ?_; (with_reducible refine (spec_l2Encrypt.calls _ _ l0 _ _ Aj Be _ ?_ ?_ ?_ ?_ A6.out).mono ?_); exact ca_ (Kd.C_below Cr.out HB.out); exact Cs.out; exact cr_ Aa; exact cl_ Aa; rintro e Dj ⟨Ao, rfl, Ad, hb⟩; refine ⟨_, rfl, ?_⟩; have n0_ := re_ Aa hb (Kd.R_base Ad); have Ab := A_ (Kd.R_lower (Kd.R_new' Ad (Kd.R_lt (R_a Aa.out))) (below_size below_a)); replace HB := bs_ hb; replace Aa := n0_; clear n0_; (try clear hb Ad)) | ((with_reducible refine f1_ 100 ?_); refine gl_ (some 15) Try.func100 #[.slice A2 l2.length c2] ?_; (with_reducible refine (spec_l3Whole.calls k _ _ l2 Bf _ ?_ ?_ A7.out).mono ?_); exact ca_ (Kd.C_below Cx.out HB.out); exact Cy.out; rintro e Dk ⟨Bs, rfl, Ad, hb⟩; refine ⟨_, rfl, ?_⟩; have n0_ := re_ Aa hb (Kd.R_base Ad); have n1_ := re_ Ab hb (Kd.R_base Ad); have Aw := A_ (Kd.R_lower (Kd.R_new' (Kd.R_new' Ad (Kd.R_lt (R_a Aa.out))) (Kd.R_lt (R_a Ab.out))) (below_size below_a)); replace HB := bs_ hb; replace Aa := n0_; replace Ab := n1_; clear n0_ n1_; (try clear hb Ad)) | ((with_reducible refine f1_ 100 ?_); refine gl_ (some 17) Try.func100 #[.slice A3 l3.length c3] ?_; (with_reducible refine (spec_l3Whole.calls k _ _ l3 Ai _ ?_ ?_ A8.out).mono ?_); exact ca_ (Kd.C_below Cz.out HB.out); exact C0.out; rintro e Dl ⟨Da, rfl, Ad, hb⟩; refine ⟨_, rfl, ?_⟩; have n0_ := re_ Aa hb (Kd.R_base Ad); have n1_ := re_ Ab hb (Kd.R_base Ad); have n2_ := re_ Aw hb (Kd.R_base Ad); have Ac := A_ (Kd.R_lower (Kd.R_new' (Kd.R_new' (Kd.R_new' Ad (Kd.R_lt (R_a Aa.out))) (Kd.R_lt (R_a Ab.out))) (Kd.R_lt (R_a Aw.out))) (below_size below_a)); replace HB := bs_ hb; replace Aa := n0_; replace Ab := n1_; replace Aw := n2_; clear n0_ n1_ n2_; (try clear hb Ad); obtain ⟨Ap, Aq, Bt⟩ := Kd.R_slice Ac.out; subst Bt) | ((with_reducible refine gate_builtin (b := .append) (xs := #[.tmp 15, .tmp 17]) rfl ?_); at_builtin; refine Kd.R_append_rows (Kd.int .u8) (w0 := w) w.heap.size rfl (.tmp 15) (.tmp 17) 25 5 (.int .u8 0) 1 rfl Try.underlying25 info5 rfl (by decide) (by omega) Bs Bf Ai _ _ _ (fun k_ => some k_ ≠ (.slice Al Aj.length Am : Value).ownBlock ∧ some k_ ≠ (Ao : Value).ownBlock ∧ some k_ ≠ (.slice Ap Ai.length Aq : Value).ownBlock) (fun _ => False) rfl rfl ?aO ?aR (fun _ _ h => h) (fun _ h => h.elim) ?aF ?aB ?aS ?aL ?_; (case aR => exact cr_ Ac); (case aB => exact below_a); (case aF => exact (fun k_ hk => ⟨Kd.fresh' (Kd.R_lt (R_a Aa.out)) k_ hk, Kd.fresh' (Kd.R_lt (R_a Ab.out)) k_ hk, Kd.fresh' (Kd.R_lt (R_a Ac.out)) k_ hk⟩)); (case aO => exact (rp_ Aw)); (case aS => exact (below_size below_a)); (case aL => have := LMc9.out; omega); intro Bu Dm ho hb hg hat; rw [← Bk.out] at ho; replace Aa := A_ (Kd.R_after (ok := (fun k_ => some k_ ≠ (Ao : Value).ownBlock ∧ some k_ ≠ (.slice Ap Ai.length Aq : Value).ownBlock)) (rp_ Aa) hg hat); replace Ab := A_ (Kd.R_after (ok := (fun k_ => some k_ ≠ (.slice Al Aj.length Am : Value).ownBlock ∧ some k_ ≠ (.slice Ap Ai.length Aq : Value).ownBlock)) (rp_ Ab) hg hat); replace Ac := A_ (Kd.R_after (ok := (fun k_ => some k_ ≠ (.slice Al Aj.length Am : Value).ownBlock ∧ some k_ ≠ (Ao : Value).ownBlock)) (rp_ Ac) hg hat); replace HB := A_ (hb); have Ax := A_ (ho); clear Aw; clear ho hb hg hat) | ((with_reducible refine f1_ 79 ?_); refine gl_ (some 23) Try.func79 #[.int .i64 (wrap64 (8 * (l2.length : Int))), .int .i64 8] ?_; (with_reducible refine (spec_l1Pack.calls k (wrap64 (8 * (l2.length : Int))) 8 An _ C3.out).mono ?_); rintro e Dn ⟨Db, rfl, Ad, hb⟩; refine ⟨_, rfl, ?_⟩; have n0_ := re_ Aa hb (Kd.R_base Ad); have n1_ := re_ Ab hb (Kd.R_base Ad); have n2_ := re_ Ac hb (Kd.R_base Ad); have n3_ := re_ Ax hb (Kd.R_base Ad); have Ae := A_ (Kd.R_lower (Kd.R_new' (Kd.R_new' (Kd.R_new' (Kd.R_new' Ad (Kd.R_lt (R_a Aa.out))) (Kd.R_lt (R_a Ab.out))) (Kd.R_lt (R_a Ac.out))) (Kd.R_lt (R_a Ax.out))) (below_size below_a)); replace HB := bs_ hb; replace Aa := n0_; replace Ab := n1_; replace Ac := n2_; replace Ax := n3_; clear n0_ n1_ n2_ n3_; (try clear hb Ad); obtain ⟨As, Au, Bv⟩ := Kd.R_slice Ae.out; subst Bv) | ((with_reducible refine gate_builtin (b := .append) (xs := #[.tmp 19, .tmp 23]) rfl ?_); at_builtin; refine Kd.R_append_rows (Kd.int .u8) (w0 := w) w.heap.size rfl (.tmp 19) (.tmp 23) 25 5 (.int .u8 0) 1 rfl Try.underlying25 info5 rfl (by decide) (by omega) Bu Bj An _ _ _ (fun k_ => some k_ ≠ (.slice Al Aj.length Am : Value).ownBlock ∧ some k_ ≠ (Ao : Value).ownBlock ∧ some k_ ≠ (.slice Ap Ai.length Aq : Value).ownBlock ∧ some k_ ≠ (.slice As An.length Au : Value).ownBlock) (fun _ => False) rfl rfl ?aO ?aR (fun _ _ h => h) (fun _ h => h.elim) ?aF ?aB ?aS ?aL ?_; (case aR => exact cr_ Ae); (case aB => exact below_a); (case aF => exact (fun k_ hk => ⟨Kd.fresh' (Kd.R_lt (R_a Aa.out)) k_ hk, Kd.fresh' (Kd.R_lt (R_a Ab.out)) k_ hk, Kd.fresh' (Kd.R_lt (R_a Ac.out)) k_ hk, Kd.fresh' (Kd.R_lt (R_a Ae.out)) k_ hk⟩)); (case aO => exact (rp_ Ax)); (case aS => exact (below_size below_a)); (case aL => have := LMc11.out; omega); intro Bw Dp ho hb hg hat; rw [← Bm.out] at ho; replace Aa := A_ (Kd.R_after (ok := (fun k_ => some k_ ≠ (Ao : Value).ownBlock ∧ some k_ ≠ (.slice Ap Ai.length Aq : Value).ownBlock ∧ some k_ ≠ (.slice As An.length Au : Value).ownBlock)) (rp_ Aa) hg hat); replace Ab := A_ (Kd.R_after (ok := (fun k_ => some k_ ≠ (.slice Al Aj.length Am : Value).ownBlock ∧ some k_ ≠ (.slice Ap Ai.length Aq : Value).ownBlock ∧ some k_ ≠ (.slice As An.length Au : Value).ownBlock)) (rp_ Ab) hg hat); replace Ac := A_ (Kd.R_after (ok := (fun k_ => some k_ ≠ (.slice Al Aj.length Am : Value).ownBlock ∧ some k_ ≠ (Ao : Value).ownBlock ∧ some k_ ≠ (.slice As An.length Au : Value).ownBlock)) (rp_ Ac) hg hat); replace Ae := A_ (Kd.R_after (ok := (fun k_ => some k_ ≠ (.slice Al Aj.length Am : Value).ownBlock ∧ some k_ ≠ (Ao : Value).ownBlock ∧ some k_ ≠ (.slice Ap Ai.length Aq : Value).ownBlock)) (rp_ Ae) hg hat); replace HB := A_ (hb); have Ay := A_ (ho); clear Ax; clear ho hb hg hat) | ((with_reducible refine f1_ 79 ?_); refine gl_ (some 28) Try.func79 #[.int .i64 (wrap64 (8 * (l3.length : Int))), .int .i64 8] ?_; (with_reducible refine (spec_l1Pack.calls k (wrap64 (8 * (l3.length : Int))) 8 Av _ C4.out).mono ?_); rintro e Dq ⟨Dc, rfl, Ad, hb⟩; refine ⟨_, rfl, ?_⟩; have n0_ := re_ Aa hb (Kd.R_base Ad); have n1_ := re_ Ab hb (Kd.R_base Ad); have n2_ := re_ Ac hb (Kd.R_base Ad); have n3_ := re_ Ae hb (Kd.R_base Ad); have n4_ := re_ Ay hb (Kd.R_base Ad); have Af := A_ (Kd.R_lower (Kd.R_new' (Kd.R_new' (Kd.R_new' (Kd.R_new' (Kd.R_new' Ad (Kd.R_lt (R_a Aa.out))) (Kd.R_lt (R_a Ab.out))) (Kd.R_lt (R_a Ac.out))) (Kd.R_lt (R_a Ae.out))) (Kd.R_lt (R_a Ay.out))) (below_size below_a)); replace HB := bs_ hb; replace Aa := n0_; replace Ab := n1_; replace Ac := n2_; replace Ae := n3_; replace Ay := n4_; clear n0_ n1_ n2_ n3_ n4_; (try clear hb Ad); obtain ⟨Bb, Bc, Bx⟩ := Kd.R_slice Af.out; subst Bx) | ((with_reducible refine gate_builtin (b := .append) (xs := #[.tmp 24, .tmp 28]) rfl ?_); at_builtin; refine Kd.R_append_rows (Kd.int .u8) (w0 := w) w.heap.size rfl (.tmp 24) (.tmp 28) 25 5 (.int .u8 0) 1 rfl Try.underlying25 info5 rfl (by decide) (by omega) Bw Bl Av _ _ _ (fun k_ => some k_ ≠ (.slice Al Aj.length Am : Value).ownBlock ∧ some k_ ≠ (Ao : Value).ownBlock ∧ some k_ ≠ (.slice Ap Ai.length Aq : Value).ownBlock ∧ some k_ ≠ (.slice As An.length Au : Value).ownBlock ∧ some k_ ≠ (.slice Bb Av.length Bc : Value).ownBlock) (fun _ => False) rfl rfl ?aO ?aR (fun _ _ h => h) (fun _ h => h.elim) ?aF ?aB ?aS ?aL ?_; (case aR => exact cr_ Af); (case aB => exact below_a); (case aF => exact (fun k_ hk => ⟨Kd.fresh' (Kd.R_lt (R_a Aa.out)) k_ hk, Kd.fresh' (Kd.R_lt (R_a Ab.out)) k_ hk, Kd.fresh' (Kd.R_lt (R_a Ac.out)) k_ hk, Kd.fresh' (Kd.R_lt (R_a Ae.out)) k_ hk, Kd.fresh' (Kd.R_lt (R_a Af.out)) k_ hk⟩)); (case aO => exact (rp_ Ay)); (case aS => exact (below_size below_a)); (case aL => have := LMc13.out; omega); intro Dd Dr ho hb hg hat; rw [← Bo.out] at ho; replace Aa := A_ (Kd.R_after (ok := (fun k_ => some k_ ≠ (Ao : Value).ownBlock ∧ some k_ ≠ (.slice Ap Ai.length Aq : Value).ownBlock ∧ some k_ ≠ (.slice As An.length Au : Value).ownBlock ∧ some k_ ≠ (.slice Bb Av.length Bc : Value).ownBlock)) (rp_ Aa) hg hat); replace Ab := A_ (Kd.R_after (ok := (fun k_ => some k_ ≠ (.slice Al Aj.length Am : Value).ownBlock ∧ some k_ ≠ (.slice Ap Ai.length Aq : Value).ownBlock ∧ some k_ ≠ (.slice As An.length Au : Value).ownBlock ∧ some k_ ≠ (.slice Bb Av.length Bc : Value).ownBlock)) (rp_ Ab) hg hat); replace Ac := A_ (Kd.R_after (ok := (fun k_ => some k_ ≠ (.slice Al Aj.length Am : Value).ownBlock ∧ some k_ ≠ (Ao : Value).ownBlock ∧ some k_ ≠ (.slice As An.length Au : Value).ownBlock ∧ some k_ ≠ (.slice Bb Av.length Bc : Value).ownBlock)) (rp_ Ac) hg hat); replace Ae := A_ (Kd.R_after (ok := (fun k_ => some k_ ≠ (.slice Al Aj.length Am : Value).ownBlock ∧ some k_ ≠ (Ao : Value).ownBlock ∧ some k_ ≠ (.slice Ap Ai.length Aq : Value).ownBlock ∧ some k_ ≠ (.slice Bb Av.length Bc : Value).ownBlock)) (rp_ Ae) hg hat); replace Af := A_ (Kd.R_after (ok := (fun k_ => some k_ ≠ (.slice Al Aj.length Am : Value).ownBlock ∧ some k_ ≠ (Ao : Value).ownBlock ∧ some k_ ≠ (.slice Ap Ai.length Aq : Value).ownBlock ∧ some k_ ≠ (.slice As An.length Au : Value).ownBlock)) (rp_ Af) hg hat); replace HB := A_ (hb); have Ag := A_ (ho); clear Ay; clear ho hb hg hat) | ((with_reducible refine f1_ 78 ?_); refine gl_ (some 32) Try.func78 #[.slice A1 l1.length c1] ?_; (with_reducible refine (spec_l3First.calls _ _ l1 Bg _ ?_ ?_ C5.out).mono ?_); exact ca_ (Kd.C_below Cv.out HB.out); exact Cw.out; rintro e Ds ⟨De, rfl, Ad, hb⟩; refine ⟨_, rfl, ?_⟩; have n0_ := re_ Aa hb (Kd.R_base Ad); have n1_ := re_ Ab hb (Kd.R_base Ad); have n2_ := re_ Ac hb (Kd.R_base Ad); have n3_ := re_ Ae hb (Kd.R_base Ad); have n4_ := re_ Af hb (Kd.R_base Ad); have n5_ := re_ Ag hb (Kd.R_base Ad); have Ah := A_ (Kd.R_lower (Kd.R_new' (Kd.R_new' (Kd.R_new' (Kd.R_new' (Kd.R_new' (Kd.R_new' Ad (Kd.R_lt (R_a Aa.out))) (Kd.R_lt (R_a Ab.out))) (Kd.R_lt (R_a Ac.out))) (Kd.R_lt (R_a Ae.out))) (Kd.R_lt (R_a Af.out))) (Kd.R_lt (R_a Ag.out))) (below_size below_a)); replace HB := bs_ hb; replace Aa := n0_; replace Ab := n1_; replace Ac := n2_; replace Ae := n3_; replace Af := n4_; replace Ag := n5_; clear n0_ n1_ n2_ n3_ n4_ n5_; (try clear hb Ad); obtain ⟨Bz, B0, B3⟩ := Kd.R_slice Ah.out; subst B3) | ((with_reducible refine f1_ 99 ?_); refine gl_ (some 33) Try.func99 #[.slice A0 l0.length c0, .slice Bz Bg.length B0] ?_; (with_reducible refine (spec_l2Encrypt.calls _ _ l0 _ _ Bg Bh _ ?_ ?_ ?_ ?_ C6.out).mono ?_); exact ca_ (Kd.C_below Cr.out HB.out); exact Cs.out; exact cr_ Ah; exact cl_ Ah; rintro e Dt ⟨Df, rfl, Ad, hb⟩; refine ⟨_, rfl, ?_⟩; have n0_ := re_ Aa hb (Kd.R_base Ad); have n1_ := re_ Ab hb (Kd.R_base Ad); have n2_ := re_ Ac hb (Kd.R_base Ad); have n3_ := re_ Ae hb (Kd.R_base Ad); have n4_ := re_ Af hb (Kd.R_base Ad); have n5_ := re_ Ag hb (Kd.R_base Ad); have n6_ := re_ Ah hb (Kd.R_base Ad); have Ak := A_ (Kd.R_lower (Kd.R_new' (Kd.R_new' (Kd.R_new' (Kd.R_new' (Kd.R_new' (Kd.R_new' (Kd.R_new' Ad (Kd.R_lt (R_a Aa.out))) (Kd.R_lt (R_a Ab.out))) (Kd.R_lt (R_a Ac.out))) (Kd.R_lt (R_a Ae.out))) (Kd.R_lt (R_a Af.out))) (Kd.R_lt (R_a Ag.out))) (Kd.R_lt (R_a Ah.out))) (below_size below_a)); replace HB := bs_ hb; replace Aa := n0_; replace Ab := n1_; replace Ac := n2_; replace Ae := n3_; replace Af := n4_; replace Ag := n5_; replace Ah := n6_; clear n0_ n1_ n2_ n3_ n4_ n5_ n6_; (try clear hb Ad); obtain ⟨B4, Ca, rfl⟩ := Kd.R_slice Ab.out; obtain ⟨Cb, Cc, Cd⟩ := Kd.R_slice Ag.out; subst Cd) | ((with_reducible refine f1_ 102 ?_); refine gl_ (some 36) Try.func102 #[.slice B4 Be.length Ca, .slice Cb Bn.length Cc] ?_; (with_reducible refine (spec_l3Hash.calls k _ _ Be _ _ Bn Bi _ ?_ ?_ ?_ ?_ C7.out).mono ?_); exact cr_ Ab; exact cl_ Ab; exact cr_ Ag; exact cl_ Ag; rintro e Du ⟨Dg, rfl, Ad, hb⟩; refine ⟨_, rfl, ?_⟩; have n0_ := re_ Aa hb (Kd.R_base Ad); have n1_ := re_ Ab hb (Kd.R_base Ad); have n2_ := re_ Ac hb (Kd.R_base Ad); have n3_ := re_ Ae hb (Kd.R_base Ad); have n4_ := re_ Af hb (Kd.R_base Ad); have n5_ := re_ Ag hb (Kd.R_base Ad); have n6_ := re_ Ah hb (Kd.R_base Ad); have n7_ := re_ Ak hb (Kd.R_base Ad); have Ar := A_ (Kd.R_lower (Kd.R_new' (Kd.R_new' (Kd.R_new' (Kd.R_new' (Kd.R_new' (Kd.R_new' (Kd.R_new' (Kd.R_new' Ad (Kd.R_lt (R_a Aa.out))) (Kd.R_lt (R_a Ab.out))) (Kd.R_lt (R_a Ac.out))) (Kd.R_lt (R_a Ae.out))) (Kd.R_lt (R_a Af.out))) (Kd.R_lt (R_a Ag.out))) (Kd.R_lt (R_a Ah.out))) (Kd.R_lt (R_a Ak.out))) (below_size below_a)); replace HB := bs_ hb; replace Aa := n0_; replace Ab := n1_; replace Ac := n2_; replace Ae := n3_; replace Af := n4_; replace Ag := n5_; replace Ah := n6_; replace Ak := n7_; clear n0_ n1_ n2_ n3_ n4_ n5_ n6_ n7_; (try clear hb Ad); obtain ⟨Ce, Cf, rfl⟩ := Kd.R_slice Ak.out; obtain ⟨Cg, Ch, Ci⟩ := Kd.R_slice Ar.out; subst Ci) | ((with_reducible refine f1_ 101 ?_); refine gl_ (some 37) Try.func101 #[.slice Ce Bh.length Cf, .slice Cg Bi.length Ch] ?_; (with_reducible refine (spec_l1Xor.calls k _ _ Bh _ _ Bi Bp _ ?_ ?_ ?_ ?_ C8.out).mono ?_); exact cr_ Ak; exact cl_ Ak; exact cr_ Ar; exact cl_ Ar; rintro e Dv ⟨Dh, rfl, Ad, hb⟩; refine ⟨_, rfl, ?_⟩; have n0_ := re_ Aa hb (Kd.R_base Ad); have n1_ := re_ Ab hb (Kd.R_base Ad); have n2_ := re_ Ac hb (Kd.R_base Ad); have n3_ := re_ Ae hb (Kd.R_base Ad); have n4_ := re_ Af hb (Kd.R_base Ad); have n5_ := re_ Ag hb (Kd.R_base Ad); have n6_ := re_ Ah hb (Kd.R_base Ad); have n7_ := re_ Ak hb (Kd.R_base Ad); have n8_ := re_ Ar hb (Kd.R_base Ad); have Bq := A_ (Kd.R_lower (Kd.R_new' (Kd.R_new' (Kd.R_new' (Kd.R_new' (Kd.R_new' (Kd.R_new' (Kd.R_new' (Kd.R_new' (Kd.R_new' Ad (Kd.R_lt (R_a Aa.out))) (Kd.R_lt (R_a Ab.out))) (Kd.R_lt (R_a Ac.out))) (Kd.R_lt (R_a Ae.out))) (Kd.R_lt (R_a Af.out))) (Kd.R_lt (R_a Ag.out))) (Kd.R_lt (R_a Ah.out))) (Kd.R_lt (R_a Ak.out))) (Kd.R_lt (R_a Ar.out))) (below_size below_a)); replace HB := bs_ hb; replace Aa := n0_; replace Ab := n1_; replace Ac := n2_; replace Ae := n3_; replace Af := n4_; replace Ag := n5_; replace Ah := n6_; replace Ak := n7_; replace Ar := n8_; clear n0_ n1_ n2_ n3_ n4_ n5_ n6_ n7_ n8_; (try clear hb Ad)))
 go_ret
 exact ⟨_, eq_a, rp_ Bq, below_a⟩
def spec_l3Count.f (k : Nat) (l0 : List Int) : Option (List Int) := (spec_l1Read.f k l0 12 4).bind fun Ac => (if 12 ≤ (l0.length : Int) then ((spec_l1Copy.f (l0.take 12)).bind fun Aa => ((spec_l1Pack.f k (Int.tmod (wrap64 (Ac + 1)) 4294967296) 4).bind fun Ab => (if Aa.length + Ab.length < 140737488355328 then (some (Aa ++ Ab)) else (none)))) else (none))
theorem spec_l3Count.calls (k : Nat) (A0 : Option Addr) (c0 : Nat) (l0 : List Int) (r : List Int) (w : World) (Aq : Kd.C (Kd.int .u8) w A0 l0.length l0) (Ar : l0.length ≤ c0) (h : spec_l3Count.f k l0 = some r) :
  Calls Try.prog 77 #[.slice A0 l0.length c0] w fun e w' => ∃ v0_ : Value, e = .returned (v0_) ∧ Kd.R (Kd.int .u8) 5 w' w.heap.size (fun _ => True) v0_ r ∧ Below w.heap.size w w' := by
 have As := A_ Aq
 have Au := A_ Ar
 clear Aq Ar
 have HB := A_ (Below.refl w.heap.size w)
 unfold spec_l3Count.f at h; have H := h; clear h
 obtain ⟨Ae, Av, H⟩ := bi_ H
 (try dsimp only at H)
 have A2 := A_ Av
 clear Av
 obtain ⟨c3, H⟩ := iq_ H; have Aw := eq_true c3; have Ax : decide (12 ≤ (l0.length : Int)) = true := decide_eq_true c3; clear c3; obtain ⟨Af, A4, H⟩ := bj_ H; (try dsimp only at H); obtain ⟨Ad, A5, H⟩ := bj_ H; (try dsimp only at H)
 obtain ⟨c6, H⟩ := iq_ H; have LMc6 := A_ c6; clear c6; obtain ⟨Ay, Ac⟩ := ey_ (Af ++ Ad : List Int); (try (with_reducible replace H := os_ H)); (try dsimp only at H); (try rw [← Ac] at H)
 have Ah := A_ Ac; clear Ac; obtain rfl := Option.some.inj H
 go_enter Try.func77, Try.ntmps77
 go_wp2_with (first | ((with_reducible refine f1_ 65 ?_); refine gl_ (some 5) Try.func65 #[.slice A0 l0.length c0, .int .i64 12, .int .i64 4] ?_; (with_reducible refine (spec_l1Read.calls k _ _ l0 12 4 Ae _ ?_ ?_ A2.out).mono ?_); exact ca_ As.out; exact Au.out; rintro e w' ⟨rfl, ⟨nd, rfl⟩⟩; refine ⟨_, rfl, ?_⟩; obtain ⟨A3, Ai, _, hsz7, _⟩ := info_parts info5; obtain ⟨hcut7, hA7, hC7⟩ := print_take_of (P := Try.prog) (Value.int .u8) 0 25 5 .i64 Try.underlying25 Ai hsz7 A0 c0 l0 12 (by omega) od_ Au.out; have Aj := A_ (Kd.C_of_reads (h1 := fun _ => rfl) (hA7 _ (Kd.reads_of_C As.out))); have Ak := A_ hC7; clear hA7 hC7 Ai hsz7) | ((with_reducible refine f1_ 63 ?_); refine goesL_ (some 10) rfl rfl Try.func63 (by kernel_rfl) rfl #[.slice A0 (l0.take 12).length c0] rfl (by (try simp only [List.map_toArray, List.map_cons, List.map_nil]); first | done | (rw [show (l0.take 12).length = 12 from (by rw [List.length_take]; have h_ : (12 : Int) ≤ (l0.length : Int) := od_; omega)] <;> rfl) | rfl | (simp only [List.length_drop, List.length_take]; rfl)) ?_; (with_reducible refine (spec_l1Copy.calls _ _ (l0.take 12) Af _ ?_ ?_ A4.out).mono ?_); exact ca_ Aj.out; exact Ak.out; rintro e w8 ⟨Am, rfl, Ag, hb⟩; refine ⟨_, rfl, ?_⟩; have Aa := A_ (Kd.R_lower Ag (below_size below_a)); replace HB := bs_ hb; (try clear hb Ag)) | ((with_reducible refine f1_ 79 ?_); refine gl_ (some 12) Try.func79 #[.int .i64 (Int.tmod (wrap64 (Ae + 1)) 4294967296), .int .i64 4] ?_; (with_reducible refine (spec_l1Pack.calls k (Int.tmod (wrap64 (Ae + 1)) 4294967296) 4 Ad _ A5.out).mono ?_); rintro e w9 ⟨Az, rfl, Ag, hb⟩; refine ⟨_, rfl, ?_⟩; have n0_ := re_ Aa hb (Kd.R_base Ag); have Ab := A_ (Kd.R_lower (Kd.R_new' Ag (Kd.R_lt (R_a Aa.out))) (below_size below_a)); replace HB := bs_ hb; replace Aa := n0_; clear n0_; (try clear hb Ag); obtain ⟨An, Ao, Ap⟩ := Kd.R_slice Ab.out; subst Ap) | ((with_reducible refine gate_builtin (b := .append) (xs := #[.tmp 10, .tmp 12]) rfl ?_); at_builtin; refine Kd.R_append_rows (Kd.int .u8) (w0 := w) w.heap.size rfl (.tmp 10) (.tmp 12) 25 5 (.int .u8 0) 1 rfl Try.underlying25 info5 rfl (by decide) (by omega) Am Af Ad _ _ _ (fun k_ => some k_ ≠ (.slice An Ad.length Ao : Value).ownBlock) (fun _ => False) rfl rfl ?aO ?aR (fun _ _ h => h) (fun _ h => h.elim) ?aF ?aB ?aS ?aL ?_; (case aR => exact cr_ Ab); (case aB => exact below_a); (case aF => exact (fun k_ hk => Kd.fresh' (Kd.R_lt (R_a Ab.out)) k_ hk)); (case aO => exact (rp_ Aa)); (case aS => exact (below_size below_a)); (case aL => have := LMc6.out; omega); intro A1 A6 ho hb hg hat; rw [← Ah.out] at ho; replace Ab := A_ (Kd.R_after (ok := (fun _ => True)) (R_a Ab.out) hg hat); replace HB := A_ (hb); have Al := A_ (ho); clear Aa; clear ho hb hg hat))
 go_ret
 exact ⟨_, eq_a, rp_ Al, below_a⟩
mutual
def spec_l3Stream.l0 : Nat → List Int → List Int → List Int → List Int → Int → Option (List Int)
 | 0, _, _, _, _, _ => none
 | k + 1, x0, x1, x2, x7, x8 => if x8 < (x2.length : Int) then ((spec_l2Encrypt.f x0 x1).bind fun t230 => (spec_l3Stream.l1 k x0 x1 x2 x7 x8 t230 0)) else (some x7)
def spec_l3Stream.l1 : Nat → List Int → List Int → List Int → List Int → Int → List Int → Int → Option (List Int)
 | 0, _, _, _, _, _, _, _ => none
 | k + 1, x0, x1, x2, x7, x8, x9, Aa => if Aa < 16 then (if (wrap64 (x8 + Aa)) < (x2.length : Int) then (if 0 ≤ (wrap64 (x8 + Aa)) then (if 0 ≤ Aa then (if Aa < (x9.length : Int) then (if x7.length < 140737488355328 then (spec_l3Stream.l1 k x0 x1 x2 (x7 ++ [Go.bits .xor .u8 (rd x2 (wrap64 (x8 + Aa))) (rd x9 Aa)]) x8 x9 (wrap64 (Aa + 1))) else (none)) else (none)) else (none)) else (none)) else ((spec_l3Count.f k x1).bind fun Ab => (spec_l3Stream.l0 k x0 Ab x2 x7 (wrap64 (x8 + 16))))) else ((spec_l3Count.f k x1).bind fun Ac => (spec_l3Stream.l0 k x0 Ac x2 x7 (wrap64 (x8 + 16))))
end
def spec_l3Stream.f (k : Nat) (l0 : List Int) (l1 : List Int) (l2 : List Int) : Option (List Int) := spec_l3Stream.l0 k l0 l1 l2 (([] : List Int)) 0
def spec_l3Stream.T9 : Bool × List (List Nat × List Nat) := (true, [([], []), ([], []), ([], []), ([], []), ([2, 3], [2, 3]), ([1, 4], [1, 4]), ([5], [5]), ([], []), ([], []), ([7, 8], [7, 8]), ([9], [9]), ([6, 10], [6, 10]), ([11], [11]), ([0, 12], [0, 12]), ([13, 13, 0, 1, 2, 3, 4, 5, 6, 7, 8, 9, 10, 11, 12, 13], [0, 13])])
def spec_l3Stream.B9 : List Nat := [0, 0, 0, 0, 12, 30, 62, 0, 0, 384, 896, 2046, 4094, 8191, 16383]
theorem spec_l3Stream.tab9 : rtab .any (opsOf Try.f76 9) = spec_l3Stream.T9 := by kernel_rfl
theorem spec_l3Stream.bits9 : waitsOk spec_l3Stream.T9.2 spec_l3Stream.B9 = true := by kernel_rfl
theorem spec_l3Stream.calls (k : Nat) (A0 : Option Addr) (c0 : Nat) (l0 : List Int) (P1_ : Nat → Prop) (A1 : Option Addr) (c1 : Nat) (l1 : List Int) (A2 : Option Addr) (c2 : Nat) (l2 : List Int) (r : List Int) (w : World) (Br : Kd.C (Kd.int .u8) w A0 l0.length l0) (Bs : l0.length ≤ c0) (hs1 : Kd.V (Kd.int .u8) 5 w w.heap.size (fun k_ => P1_ k_) (.slice A1 l1.length c1) l1) (Bt : Kd.C (Kd.int .u8) w A2 l2.length l2) (Bu : l2.length ≤ c2) (h : spec_l3Stream.f k l0 l1 l2 = some r) :
  Calls Try.prog 76 #[.slice A0 l0.length c0, .slice A1 l1.length c1, .slice A2 l2.length c2] w fun e w' => ∃ v0_ : Value, e = .returned (v0_) ∧ Kd.R (Kd.int .u8) 5 w' w.heap.size (fun k_ => (w.heap.size ≤ k_)) v0_ r ∧ Below w.heap.size w w' := by
 have Ca := A_ Br
 have Cb := A_ Bs
 clear Br Bs
 have Bn := A_ (show Kd.V (Kd.int .u8) 5 w w.heap.size (fun k_ => (P1_ k_ ∨ w.heap.size ≤ k_)) (.slice A1 l1.length c1) l1 from Kd.V_mono hs1 (fun k_ hk => .inl hk))
 have Cc := A_ Bt
 have Cm := A_ Bu
 clear Bt Bu
 have HB := A_ (Below.refl w.heap.size w)
 unfold spec_l3Stream.f at h; have H := h; clear h
 obtain ⟨A5, Aj⟩ : ∃ y_ : List Int, y_ = (([] : List Int)) := ⟨_, rfl⟩
 replace H : (spec_l3Stream.l0 k l0 l1 l2 A5 0) = some r := by first | (rw [Aj]; with_reducible exact H) | (have H2_ := os_ H; rw [Aj]; with_reducible exact H2_) | (have H2_ := os_ H; with_reducible exact H2_) | with_reducible exact H | (rw [Aj]; exact H) | exact H
 have Ar := A_ Aj
 clear Aj
 have H' := A_ H
 clear H
 go_enter Try.func76, Try.ntmps76
 go_wp2_with (first | ((with_reducible refine d1_ 11 ?_); (try (refine gate_guard (by rfl) ?_; dsimp only)); refine Kd.R_lit (Kd.int .u8) _ 5 ?hg (N := 11) ?hd (xs := ([] : List Int)) (inner := []) (ok := fun _ => True) (okp := fun _ => True) ?hr ?hp (fun _ hk => hk) trivial (Below.refl _ _) (Nat.le_refl _) (by simp) ?_; (case hd => rfl); (case hg => rfl); (case hr => go_simp <;> rfl); (case hp => exact (Reps.none _ _)); intro Cd w4 A3 hb hg_ hnew_; clear hg_ hnew_; (first | rw [← Ar.out] at A3 | (simp only [Int.reduceToNat] at A3; rw [← Ar.out] at A3)); replace Bn := A_ (Kd.V_elder' (by (with_reducible repeat (first | apply Kd.V_alloc | apply Kd.V_drewN | apply Kd.V_drew)); exact Bn.out) (Kd.R_base A3) hb); have A6 := A_ (Kd.R_lower (Kd.R_newM (M := fun k_ => (w.heap.size ≤ k_)) A3 (below_size below_a) (fun k_ h_ => h_)) (below_size below_a)); replace HB := bs_ hb; clear hb A3))
 go_loopg [1, 7, 8] k (fun kq v1 v7 v8 w' => ∃ (Ae : List Int) (Aq : List Int) (Af : Int), v8 = .int .i64 Af ∧ Aside0 (spec_l3Stream.l0 kq l0 Ae l2 Aq Af = some r) ∧ Aside0 (kq ≤ k) ∧ Aside0 (Kd.V (Kd.int .u8) 5 w' w.heap.size (fun k_ => (P1_ k_ ∨ w.heap.size ≤ k_) ∧ some k_ ≠ (v7 : Value).ownBlock) v1 Ae) ∧ Aside0 (Kd.R (Kd.int .u8) 5 w' w.heap.size (fun k_ => (w.heap.size ≤ k_)) v7 Aq) ∧ Aside0 (Below w.heap.size w w'))
 case atStart => exact ⟨(l1), (A5), (0), eq_b, H', ⟨Nat.le_refl _⟩, ⟨by (with_reducible repeat (first | apply Kd.V_alloc | apply Kd.V_drewN | apply Kd.V_drew)); exact Bn.out⟩, ⟨rp_ A6⟩, ⟨below_a⟩⟩
 case round =>
  clear H'
  try clear c1
  try clear c2
  try clear p2
  obtain ⟨Ae, Aq, Af, rfl, HA, HK1, Ab, Ac, HB⟩ := hrel
  cases gk with
  | zero => exact absurd HA.out (by simp [spec_l3Stream.l0])
  | succ k1 =>
   have H := HA.out; clear HA; simp only [spec_l3Stream.l0] at H
   by_cases c6 : Af < (l2.length : Int)
   ·
    rw [if_pos c6] at H; have A8 := decide_eq_true c6; clear c6; obtain ⟨Ah, A7, H⟩ := bj_ H; (try dsimp only at H); have H' := A_ H; clear H; obtain ⟨Bl, Bm, Ce⟩ := Kd.V_slice Ab.out; subst Ce
    go_wp2_with (first | ((with_reducible refine f1_ 99 ?_); refine gl_ (some 20) Try.func99 #[.slice A0 l0.length c0, .slice Bl Ae.length Bm] ?_; (with_reducible refine (spec_l2Encrypt.calls _ _ l0 _ _ Ae Ah _ ?_ ?_ ?_ ?_ A7.out).mono ?_); exact ca_ (Kd.C_below Ca.out HB.out); exact Cb.out; exact ca_ ((Kd.V_reads' Ab.out).2.2); exact (Kd.V_reads' Ab.out).2.1; rintro e w9 ⟨Av, rfl, Ak, hb⟩; refine ⟨_, rfl, ?_⟩; replace Ab := A_ (Kd.V_elder' (by (with_reducible repeat (first | apply Kd.V_alloc | apply Kd.V_drewN | apply Kd.V_drew)); exact Ab.out) (Kd.R_base Ak) hb); have n1_ := re_ Ac hb (Kd.R_base Ak); have A9 := A_ (Kd.R_lower (Kd.R_new' (Kd.R_newM (M := fun k_ => (w.heap.size ≤ k_)) Ak (below_size below_a) (fun k_ h_ => h_)) (Kd.R_lt (R_a Ac.out))) (below_size below_a)); replace HB := bs_ hb; replace Ac := n1_; clear n1_; (try clear hb Ak)))
    go_loopg [7, 10] k1 (fun kq v7 Cf w' => ∃ (Al : List Int) (Aa : Int), Cf = .int .i64 Aa ∧ Aside0 (spec_l3Stream.l1 kq l0 Ae l2 Al Af Ah Aa = some r) ∧ Aside0 (kq ≤ k1) ∧ Aside0 (Kd.V (Kd.int .u8) 5 w' w.heap.size (fun k_ => (P1_ k_ ∨ w.heap.size ≤ k_) ∧ some k_ ≠ (v7 : Value).ownBlock ∧ some k_ ≠ (Av : Value).ownBlock) (.slice Bl Ae.length Bm) Ae) ∧ Aside0 (Kd.R (Kd.int .u8) 5 w' w.heap.size (fun k_ => (w.heap.size ≤ k_) ∧ some k_ ≠ (Av : Value).ownBlock) v7 Al) ∧ Aside0 (Kd.R (Kd.int .u8) 5 w' w.heap.size (fun k_ => (w.heap.size ≤ k_) ∧ some k_ ≠ (v7 : Value).ownBlock) Av Ah) ∧ Aside0 (Below w.heap.size w w'))
    case atStart => exact ⟨(Aq), (0), eq_b, H', ⟨Nat.le_refl _⟩, ⟨by (with_reducible repeat (first | apply Kd.V_alloc | apply Kd.V_drewN | apply Kd.V_drew)); exact Kd.V_mono Ab.out (fun _ hk => ⟨hk.1.1, ⟨hk.1.2, hk.2⟩⟩)⟩, ⟨R_a Ac.out⟩, ⟨rp_ A9⟩, ⟨below_a⟩⟩
    case round =>
     clear H'
     try clear c1
     try clear c2
     try clear p2 p2
     try clear c6 A8
     try clear c7
     try clear c9
     obtain ⟨Al, Aa, rfl, HA, HK2, Ab, Ac, Ad, HB⟩ := hrel
     cases gk with
     | zero => exact absurd HA.out (by simp [spec_l3Stream.l1])
     | succ k2 =>
      have H := HA.out; clear HA; simp only [spec_l3Stream.l1] at H
      by_cases A4 : Aa < 16
      ·
       rw [if_pos A4] at H; have Ba := decide_eq_true A4; clear A4
       by_cases As : (wrap64 (Af + Aa)) < (l2.length : Int)
       ·
        rw [if_pos As] at H; have Au := decide_eq_true As; (try (have Bb : decide ((IntKind.i64.wrap (Af + Aa)) < (l2.length : Int)) = true := by simp only [i64_w]; exact decide_eq_true As)); clear As; obtain ⟨Ai, hji12⟩ : ∃ j_ : Int, (wrap64 (Af + Aa)) = j_ := ⟨_, rfl⟩; first | rw [hji12] at H | simp only [hji12] at H
        (try rw [hji12] at Au); have hji12w : (IntKind.i64.wrap (Af + Aa)) = Ai := (i64_w _).trans hji12
        obtain ⟨Bv, H⟩ := iq_ H; have Bw := decide_eq_true Bv; clear Bv
        obtain ⟨Bx, H⟩ := iq_ H; have Bz := decide_eq_true Bx; clear Bx
        obtain ⟨B0, H⟩ := iq_ H; have B3 := decide_eq_true B0; clear B0
        obtain ⟨B4, H⟩ := iq_ H; have LMc16 := A_ B4; clear B4; obtain ⟨Bo, Ao⟩ := ey_ (Al ++ [Go.bits .xor .u8 (rd l2 (Ai)) (rd Ah Aa)] : List Int); (try (with_reducible replace H := os_ H)); (try dsimp only at H); (try rw [← Ao] at H)
        have Bc := A_ Ao; clear Ao; have H' := A_ H; clear H
        try go_wp2
        replace Ab := A_ (Kd.V_drew Ab.out); replace Ac := hd_ Ac; replace Ad := hd_ Ad; replace HB := A_ (below_drew1 HB.out); have Aw : 0 ≤ ((Ai) : Int) := od_; have Ax : (Ai) < (l2.length : Int) := od_; obtain ⟨Bd, Bp, Ag⟩ := Kd.at_int Cc.out (Ai) Aw Ax; have Am := Ag
        cases Bp
        replace Ag := hc_ HB Ag; replace Aw := eq_true Aw; replace Ax := eq_true Ax; obtain ⟨Cg, Be, Bf⟩ := Kd.R_slice Ad.out; (first | subst Bf | (injection Bf with f1_ f2_ f3_; have f4_ := f1_.symm; have f5_ := f3_.symm; clear f1_ f2_ f3_; subst f4_; subst f5_)); have Ay : 0 ≤ (Aa : Int) := od_; have Az : Aa < (Ah.length : Int) := od_; obtain ⟨Ap, Bq, An⟩ := Kd.at_int (Kd.R_reads' Ad.out).2.2 Aa Ay Az
        cases Bq
        replace Ay := eq_true Ay; replace Az := eq_true Az; refine start_ (n := 15) (S := fun w' => w'.cell? (Bd.add ((Ai)).toNat) = some (.int .u8 (rd l2 (Ai))) ∧ w'.cell? (Ap.add (Aa).toNat) = some (.int .u8 (rd Ah Aa))) (ds := [12, 13]) (rl_ [0, 15]) (by kernel_rfl) rfl rfl ⟨((HB.out.cell (World.block_lt_of_cell? w _ Am)).trans Am), An⟩ (fun hHeld => ?_); refine with_tabW spec_l3Stream.tab9 spec_l3Stream.bits9 (fun HT_ HW_ => ?_); generalize wr.drew = Cn at Ab Ac Ad HB Ag An hHeld ⊢; refine p1_ 0 (rl_ [1, 14]) HT_ ?_
        refine p1_ 1 (rl_ [2, 13]) HT_ ?_
        refine p1_ 2 (rl_ [3, 12]) HT_ ?_
        refine p1_ 3 (rl_ [4, 11]) HT_ ?_
        refine p1_ 4 (rl_ [5, 10]) HT_ ?_
        refine p1_ 5 (rl_ [6, 9]) HT_ ?_
        refine p1_ 7 (rl_ [6, 1, 1, 7]) HT_ ?_
        refine p1_ 8 (rl_ [6, 1, 2, 6]) HT_ ?_
        refine p1_ 9 (rl_ [6, 1, 3, 5]) HT_ ?_
        refine t1_ 6 (rl_ [10, 5]) HT_ HW_ hHeld ?_
        refine t1_ 10 (rl_ [11, 4]) HT_ HW_ hHeld ?_
        refine p1_ 11 (rl_ [12, 3]) HT_ ?_
        refine last_ (i := 12) (N := some 45) (rl_ [13, 2]) rfl rfl (one_of HT_.out (by kernel_rfl)) (by decide) (fun K hK => ?_); refine value_ (w1 := ?_) (v := ?_) (by rfl) rfl ?_ ?_; rotate_left 2
        ·
         go_simp
         constructor
         ·
          rfl
         rfl
        refine hK.out _ _ ?_; clear hK K; refine norm_ (a' := ?_) ?_ ?_; rotate_left
        ·
         show Act.put _ (some 45) _ = _; simp only [P4_]; rfl
        refine last_ (i := 13) (N := some 46) (rl_ [14, 1]) rfl rfl (one_of HT_.out (by kernel_rfl)) (by decide) (fun K hK => ?_); refine Kd.R_append_step (Kd.int .u8) (w0 := w) w.heap.size (by rfl) (.tmp 33) (.tmp 45) 25 5 (.int .u8 0) 1 rfl Try.underlying25 info5 rfl (by decide) (by omega) u7 Al (Go.bits .xor .u8 (rd l2 (Ai)) (rd Ah Aa)) [.int .u8 (Go.bits .xor .u8 (rd l2 (Ai)) (rd Ah Aa))] (fun k_ => (w.heap.size ≤ k_) ∧ some k_ ≠ (.slice (some Ap) Ah.length Be : Value).ownBlock) (fun _ => False) rfl rfl ?aP (fun _ hk => hk.elim) ?aF ?aO ?aB ?aS ?aL ?_; (case aP => exact rfl); (case aB => exact below_a); (case aF => exact (fun k_ hk => ⟨(Nat.le_trans (below_size below_a) hk), Kd.fresh' (Kd.R_lt (R_a Ad.out)) k_ hk⟩)); (case aO => exact (R_a Ac.out)); (case aS => exact (below_size below_a)); (case aL => have := LMc16.out; omega); intro Ch Co ho hb hg hat; rw [← Bc.out] at ho; replace Ab := A_ (Kd.V_afterv (ok := (fun k_ => (P1_ k_ ∨ w.heap.size ≤ k_) ∧ some k_ ≠ (.slice (some Ap) Ah.length Be : Value).ownBlock)) (by (with_reducible repeat (first | apply Kd.V_alloc | apply Kd.V_drewN | apply Kd.V_drew)); exact Kd.V_mono Ab.out (fun _ hk => ⟨⟨hk.1, hk.2.2⟩, hk.2.1⟩)) hg hat); replace Ad := A_ (Kd.R_after (ok := (fun k_ => (w.heap.size ≤ k_))) (R_a Ad.out) hg hat); replace HB := A_ (hb); have Bg := A_ (ho); clear Ac ho hb hg hat; refine hK.out _ _ ?_; clear hK K; refine norm_ (a' := ?_) ?_ ?_; rotate_left
        ·
         show Act.put _ (some 46) _ = _; simp only [P4_]; rfl
        refine p1_ 14 (rl_ [15]) HT_ ?_
        refine done_ (done_of HT_.out (by kernel_rfl)) ?_
        try go_wp2
        go_roundg k2
        case measure => have := HK1.out; have := HK2.out; omega
        case rel => exact ⟨(Bo), (wrap64 (Aa + 1)), eq_b, H', ⟨by have := HK1.out; have := HK2.out; omega⟩, ⟨by (with_reducible repeat (first | apply Kd.V_alloc | apply Kd.V_drewN | apply Kd.V_drew)); exact Kd.V_mono Ab.out (fun _ hk => ⟨hk.1.1, ⟨hk.2, hk.1.2⟩⟩)⟩, ⟨R_a Bg.out⟩, ⟨R_a Ad.out⟩, ⟨below_a⟩⟩
       rw [if_neg As] at H; have Au := decide_eq_false As; (try (have Bb : decide ((IntKind.i64.wrap (Af + Aa)) < (l2.length : Int)) = false := by simp only [i64_w]; exact decide_eq_false As)); clear As; obtain ⟨Bh, Ci, H⟩ := bj_ H; (try dsimp only at H); have H' := A_ H; clear H
       go_wp2_with (first | ((with_reducible refine f1_ 77 ?_); refine gl_ (some 48) Try.func77 #[.slice Bl Ae.length Bm] ?_; (with_reducible refine (spec_l3Count.calls k2 _ _ Ae Bh _ ?_ ?_ Ci.out).mono ?_); exact ca_ ((Kd.V_reads' Ab.out).2.2); exact (Kd.V_reads' Ab.out).2.1; rintro e Cp ⟨Cj, rfl, Ak, hb⟩; refine ⟨_, rfl, ?_⟩; replace Ab := A_ (Kd.V_elder' (by (with_reducible repeat (first | apply Kd.V_alloc | apply Kd.V_drewN | apply Kd.V_drew)); exact Ab.out) (Kd.R_base Ak) hb); have n1_ := re_ Ac hb (Kd.R_base Ak); have n2_ := re_ Ad hb (Kd.R_base Ak); have Bi := A_ (Kd.R_lower (Kd.R_new' (Kd.R_new' (Kd.R_newM (M := fun k_ => (w.heap.size ≤ k_)) Ak (below_size below_a) (fun k_ h_ => h_)) (Kd.R_lt (R_a Ac.out))) (Kd.R_lt (R_a Ad.out))) (below_size below_a)); replace HB := bs_ hb; replace Ac := n1_; replace Ad := n2_; clear n1_ n2_; (try clear hb Ak)))
       go_roundg k2
       case measure => have := HK1.out; have := HK2.out; omega
       case rel => exact ⟨(Bh), (Al), (wrap64 (Af + 16)), eq_b, H', ⟨by have := HK1.out; have := HK2.out; omega⟩, ⟨Kd.V_mono (Kd.R_V (by (with_reducible repeat (first | apply Kd.R_alloc | apply Kd.R_drewN | apply Kd.R_drew)); exact Kd.R_mono Bi.out (fun _ hk => And.intro hk.1.1.1 hk.1.2))) (fun k_ hk => by first | exact ⟨(.inr (hk.1)), hk.2⟩ | exact (.inr (hk)))⟩, ⟨rp_ Ac⟩, ⟨below_a⟩⟩
      rw [if_neg A4] at H; have Ba := decide_eq_false A4; clear A4; obtain ⟨Bj, Ck, H⟩ := bj_ H; (try dsimp only at H); have H' := A_ H; clear H
      go_wp2_with (first | ((with_reducible refine f1_ 77 ?_); refine gl_ (some 48) Try.func77 #[.slice Bl Ae.length Bm] ?_; (with_reducible refine (spec_l3Count.calls k2 _ _ Ae Bj _ ?_ ?_ Ck.out).mono ?_); exact ca_ ((Kd.V_reads' Ab.out).2.2); exact (Kd.V_reads' Ab.out).2.1; rintro e Cq ⟨Cl, rfl, Ak, hb⟩; refine ⟨_, rfl, ?_⟩; replace Ab := A_ (Kd.V_elder' (by (with_reducible repeat (first | apply Kd.V_alloc | apply Kd.V_drewN | apply Kd.V_drew)); exact Ab.out) (Kd.R_base Ak) hb); have n1_ := re_ Ac hb (Kd.R_base Ak); have n2_ := re_ Ad hb (Kd.R_base Ak); have Bk := A_ (Kd.R_lower (Kd.R_new' (Kd.R_new' (Kd.R_newM (M := fun k_ => (w.heap.size ≤ k_)) Ak (below_size below_a) (fun k_ h_ => h_)) (Kd.R_lt (R_a Ac.out))) (Kd.R_lt (R_a Ad.out))) (below_size below_a)); replace HB := bs_ hb; replace Ac := n1_; replace Ad := n2_; clear n1_ n2_; (try clear hb Ak)))
      go_roundg k2
      case measure => have := HK1.out; have := HK2.out; omega
      case rel => exact ⟨(Bj), (Al), (wrap64 (Af + 16)), eq_b, H', ⟨by have := HK1.out; have := HK2.out; omega⟩, ⟨Kd.V_mono (Kd.R_V (by (with_reducible repeat (first | apply Kd.R_alloc | apply Kd.R_drewN | apply Kd.R_drew)); exact Kd.R_mono Bk.out (fun _ hk => And.intro hk.1.1.1 hk.1.2))) (fun k_ hk => by first | exact ⟨(.inr (hk.1)), hk.2⟩ | exact (.inr (hk)))⟩, ⟨rp_ Ac⟩, ⟨below_a⟩⟩
   rw [if_neg c6] at H; have A8 := decide_eq_false c6; clear c6; obtain rfl := Option.some.inj H
   go_wp2
   go_ret
   exact ⟨_, eq_a, R_a Ac.out, below_a⟩
def spec_l3Open.f (k : Nat) (l0 : List Int) (l1 : List Int) (l2 : List Int) (l3 : List Int) : Option (List Int × Bool) := if (wrap64 ((l3.length : Int) - 16)) < 0 then (some (([] : List Int), false)) else ((spec_l2Keys.f l0).bind fun Aa => (if 0 ≤ (wrap64 ((l3.length : Int) - 16)) then (if (wrap64 ((l3.length : Int) - 16)) ≤ (l3.length : Int) then ((spec_l3Tag.f k Aa l1 l2 (l3.take ((wrap64 ((l3.length : Int) - 16)) : Int).toNat)).bind fun Ab => (if (strOfNums Ab).toList = (strOfNums (l3.drop ((wrap64 ((l3.length : Int) - 16)) : Int).toNat)).toList then ((spec_l3First.f l1).bind fun Ac => ((spec_l3Count.f k Ac).bind fun Ad => ((spec_l3Stream.f k Aa Ad (l3.take ((wrap64 ((l3.length : Int) - 16)) : Int).toNat)).bind fun Ae => (some (Ae, true))))) else (some (([] : List Int), false)))) else (none)) else (none)))
def spec_l3Open.T5 : Bool × List (List Nat × List Nat) := (true, [([], []), ([], []), ([], []), ([], []), ([], []), ([3, 4], [3, 4]), ([0, 1, 2, 5], [0, 1, 2, 5]), ([6], [6]), ([], []), ([], []), ([8, 9], [8, 9]), ([10], [10]), ([7, 11], [7, 11])])
def spec_l3Open.B5 : List Nat := [0, 0, 0, 0, 0, 24, 63, 127, 0, 0, 768, 1792, 4095]
theorem spec_l3Open.tab5 : rtab .any (opsOf Try.f36 5) = spec_l3Open.T5 := by kernel_rfl
theorem spec_l3Open.bits5 : waitsOk spec_l3Open.T5.2 spec_l3Open.B5 = true := by kernel_rfl
def spec_l3Open.T7 : Bool × List (List Nat × List Nat) := (true, [([], []), ([], []), ([1], [1]), ([2, 2], [2]), ([], []), ([], []), ([4, 5], [4, 5]), ([0, 3, 6, 3], [0, 3, 6]), ([7, 7, 0, 1, 2, 3, 4, 5, 6, 7], [7]), ([8, 0, 1, 2, 3, 4, 5, 6, 7, 8], [])])
def spec_l3Open.B7 : List Nat := [0, 0, 2, 6, 0, 0, 48, 127, 255, 511]
theorem spec_l3Open.tab7 : rtab .any (opsOf Try.f36 7) = spec_l3Open.T7 := by kernel_rfl
theorem spec_l3Open.bits7 : waitsOk spec_l3Open.T7.2 spec_l3Open.B7 = true := by kernel_rfl
theorem spec_l3Open.calls (k : Nat) (A0 : Option Addr) (c0 : Nat) (l0 : List Int) (A1 : Option Addr) (c1 : Nat) (l1 : List Int) (A2 : Option Addr) (c2 : Nat) (l2 : List Int) (A3 : Option Addr) (c3 : Nat) (l3 : List Int) (r1 : List Int) (r2 : Bool) (w : World) (Bm : Kd.C (Kd.int .u8) w A0 l0.length l0) (Bn : l0.length ≤ c0) (Bo : Kd.C (Kd.int .u8) w A1 l1.length l1) (Bp : l1.length ≤ c1) (Bq : Kd.C (Kd.int .u8) w A2 l2.length l2) (Br : l2.length ≤ c2) (Bs : Kd.C (Kd.int .u8) w A3 l3.length l3) (Bt : l3.length ≤ c3) (h : spec_l3Open.f k l0 l1 l2 l3 = some (r1, r2)) :
  Calls Try.prog 36 #[.slice A0 l0.length c0, .slice A1 l1.length c1, .slice A2 l2.length c2, .slice A3 l3.length c3] w fun e w' => ∃ v0_ : Value, e = .returned (.tuple #[v0_, .bool r2]) ∧ Kd.R (Kd.int .u8) 5 w' w.heap.size (fun _ => True) v0_ r1 ∧ Below w.heap.size w w' := by
 have Ca := A_ Bm
 have Cb := A_ Bn
 clear Bm Bn
 have Bc := A_ Bo
 have Bd := A_ Bp
 clear Bo Bp
 have Bu := A_ Bq
 have Bv := A_ Br
 clear Bq Br
 have Be := A_ Bs
 have Bf := A_ Bt
 clear Bs Bt
 have HB := A_ (Below.refl w.heap.size w)
 unfold spec_l3Open.f at h; have H := h; clear h
 by_cases c5 : (wrap64 ((l3.length : Int) - 16)) < 0
 ·
  rw [if_pos c5] at H; have Aw := decide_eq_true c5; (try (have Bg : decide ((IntKind.i64.wrap ((l3.length : Int) - 16)) < 0) = true := by simp only [i64_w]; exact decide_eq_true c5)); clear c5; obtain ⟨rfl, rfl⟩ := s2_ H
  go_enter Try.func36, Try.ntmps36
  go_wp2
  go_ret2
  exact ⟨_, eq_a, by first | exact Kd.R_nil _ _ _ _ _ | exact Kd.N_nil _ _ _ _ _ | exact Kd.V_nil _ _ _ _ _ | exact Kd.Q_nil _ _ _ _ _ | exact Kd.S_nil _ _ _ _ _, below_a⟩
 rw [if_neg c5] at H; have Aw := decide_eq_false c5; (try (have Bg : decide ((IntKind.i64.wrap ((l3.length : Int) - 16)) < 0) = false := by simp only [i64_w]; exact decide_eq_false c5)); clear c5; obtain ⟨Af, A6, H⟩ := bj_ H; (try dsimp only at H); obtain ⟨Ac, hji7⟩ : ∃ j_ : Int, (wrap64 ((l3.length : Int) - 16)) = j_ := ⟨_, rfl⟩; first | rw [hji7] at H | simp only [hji7] at H
 (try rw [hji7] at Aw); (try rw [hji7] at A6); have hji7w : (IntKind.i64.wrap ((l3.length : Int) - 16)) = Ac := (i64_w _).trans hji7
 obtain ⟨c8, H⟩ := iq_ H; have Cc := eq_true c8; have Cd : decide (0 ≤ (Ac)) = true := decide_eq_true c8; clear c8
 obtain ⟨c9, H⟩ := iq_ H; have Ce := eq_true c9; have Cf : decide ((Ac) ≤ (l3.length : Int)) = true := decide_eq_true c9; clear c9; obtain ⟨Am, Bw, H⟩ := bj_ H; (try dsimp only at H); have Bx := eq_true (od_ : 0 ≤ (Ac)); have Bz := eq_true (od_ : (Ac) ≤ (l3.length : Int)); have Ax := A_ H; clear H
 go_enter Try.func36, Try.ntmps36
 try go_wp2_with (first | ((with_reducible refine f1_ 74 ?_); refine gl_ (some 18) Try.func74 #[.slice A0 l0.length c0] ?_; (with_reducible refine (spec_l2Keys.calls _ _ l0 Af _ ?_ ?_ A6.out).mono ?_); exact ca_ Ca.out; exact Cb.out; rintro e Cg ⟨Ch, rfl, Ae, hb⟩; refine ⟨_, rfl, ?_⟩; have Aa := A_ (Kd.R_lower Ae (below_size below_a)); replace HB := bs_ hb; (try clear hb Ae); obtain ⟨Ai, Aj, Bh⟩ := Kd.R_slice Aa.out; subst Bh))
 replace Aa := hd_ Aa; replace HB := A_ (below_drew1 HB.out); obtain ⟨Ci, Ap, _, hsz17, _⟩ := info_parts info5; obtain ⟨hcut17, hA17, hC17⟩ := print_take_of (P := Try.prog) (Value.int .u8) 0 25 5 .i64 Try.underlying25 Ap hsz17 A3 c3 l3 (Ac) od_ od_ Bf.out; have An := A_ (Kd.C_of_reads (h1 := fun _ => rfl) (hA17 _ (Kd.reads_of_C Be.out))); have Aq := A_ hC17; clear hA17 hC17 Ap hsz17; obtain ⟨Cj, Ar, _, hsz18, _⟩ := info_parts info5; obtain ⟨Bi, hcut18, hA18, hC18⟩ := print_drop_of (P := Try.prog) (Value.int .u8) 0 25 5 .i64 Try.underlying25 Ar hsz18 A3 c3 l3 (Ac) od_ od_ Bf.out; have Al := A_ (Kd.C_of_reads (h1 := fun _ => rfl) (hA18 _ (Kd.reads_of_C Be.out))); have B0 := A_ hC18; clear hA18 hC18 Ar hsz18; refine start_ (n := 13) (S := fun w' => True) (ds := []) (rl_ [0, 13]) (by kernel_rfl) rfl rfl trivial (fun hHeld => ?_); refine with_tabW spec_l3Open.tab5 spec_l3Open.bits5 (fun HT_ HW_ => ?_); generalize Cg.drew = Cr at Aa HB An Al hHeld ⊢; refine p1_ 0 (rl_ [1, 12]) HT_ ?_
 refine p1_ 1 (rl_ [2, 11]) HT_ ?_
 refine p1_ 2 (rl_ [3, 10]) HT_ ?_
 refine p1_ 3 (rl_ [4, 9]) HT_ ?_
 refine p1_ 4 (rl_ [5, 8]) HT_ ?_
 refine p1_ 5 (rl_ [6, 7]) HT_ ?_
 refine p1_ 8 (rl_ [6, 2, 1, 4]) HT_ ?_
 refine p1_ 9 (rl_ [6, 2, 2, 3]) HT_ ?_
 refine p1_ 10 (rl_ [6, 2, 3, 2]) HT_ ?_
 refine join_ (σ := Value) 1 (rl_ [12, 1]) (fun s_ => [(25, s_), (26, .string (strOfNums Am)), (30, .string (strOfNums (l3.drop ((Ac) : Int).toNat)))]) (fun s_ w' => (Kd.R (Kd.int .u8) 5 w' w.heap.size (fun k_ => some k_ ≠ (s_ : Value).ownBlock) (.slice Ai Af.length Aj) Af) ∧ (Kd.R (Kd.int .u8) 5 w' w.heap.size (fun k_ => some k_ ≠ (.slice Ai Af.length Aj : Value).ownBlock) s_ Am) ∧ (Below w.heap.size w w')) ?_ ?_; rotate_left
 ·
  intro hCont; refine two_ (i := 6) (j := 11) (Ni := some 25) (Nj := some 30) (rl_ [7, 1, 3, 2]) (rl_ [6, 2, 4, 1]) rfl rfl rfl rfl (two_of HT_.out (by kernel_rfl)) (by decide) (by decide) (fun K hK => ?_) (fun K hK => ?_)
  ·
   refine goes_ Try.func75 (by kernel_rfl) rfl #[.slice Ai Af.length Aj, .slice A1 l1.length c1, .slice A2 l2.length c2, .slice A3 (l3.take ((Ac) : Int).toNat).length c3] (by rfl) rfl rfl (by (try simp only [List.map_toArray, List.map_cons, List.map_nil]); first | done | (rw [show (l3.take ((Ac) : Int).toNat).length = (Ac).toNat from (by rw [List.length_take]; have h_ : ((Ac) : Int) ≤ (l3.length : Int) := od_; omega)] <;> rfl) | (simp only [hji7]; rfl) | rfl | (simp only [List.length_drop, List.length_take]; rfl)) ?_
   with_reducible refine (spec_l3Tag.calls k _ _ Af _ _ l1 _ _ l2 _ _ (l3.take ((Ac) : Int).toNat) Am _ ?_ ?_ ?_ ?_ ?_ ?_ ?_ ?_ Bw.out).mono ?_
   exact cr_ Aa; exact cl_ Aa; exact ca_ (Kd.C_below Bc.out HB.out); exact Bd.out; exact ca_ (Kd.C_below Bu.out HB.out); exact Bv.out; exact ca_ (Kd.C_below An.out HB.out); exact Aq.out; rintro e Cs ⟨Ak, rfl, Ae, hb⟩; refine ⟨_, rfl, ?_⟩; have n0_ := re_ Aa hb (Kd.R_base Ae); have Ab := A_ (Kd.R_lower (Kd.R_new' Ae (Kd.R_lt (R_a Aa.out))) (below_size below_a)); replace HB := bs_ hb; replace Aa := n0_; clear n0_; (try clear hb Ae); refine k1_ hK trivial (fun hHeld => ?_); clear hK K; refine two_ (i := 7) (j := 11) (Ni := some 26) (Nj := some 30) (rl_ [11, 2]) (rl_ [7, 1, 4, 1]) rfl rfl rfl rfl (two_of HT_.out (by kernel_rfl)) (by decide) (by decide) (fun K hK => ?_) (fun K hK => ?_)
   ·
    have hcv20 := own_string (P := Try.prog) Try.underlying25 Try.underlying5 Try.underlying9 (Kd.own_of_R Ab.out); refine value_ (w1 := ?_) (v := ?_) (by rfl) rfl ?_ ?_; rotate_left 2
    ·
     go_simp
     constructor
     ·
      rfl
     rfl
    clear hcv20; refine k1_ hK trivial (fun hHeld => ?_); clear hK K; refine o1_ 11 (rl_ [12, 1]) HT_ fun K hK => ?_
    (have hcv21 := Kd.C_string (P := Try.prog) (A := Bi) (c := (c3 - (Ac).toNat)) Try.underlying25 Try.underlying5 Try.underlying9 (Kd.C_below Al.out below_a); have hcw21 := hcv21; rw [List.length_drop] at hcw21)
    refine value_ (w1 := ?_) (v := ?_) (by rfl) rfl ?_ ?_; rotate_left 2
    ·
     go_simp
     constructor
     ·
      rfl
     rfl
    (try clear hcv21) <;> (try clear hcw21); refine k1_ hK trivial (fun hHeld => ?_); clear hK K; exact nm_ (hCont (Ak) _ ⟨(rp_ Aa), (rp_ Ab), below_a⟩)
   (have hcv20 := Kd.C_string (P := Try.prog) (A := Bi) (c := (c3 - (Ac).toNat)) Try.underlying25 Try.underlying5 Try.underlying9 (Kd.C_below Al.out below_a); have hcw20 := hcv20; rw [List.length_drop] at hcw20)
   refine value_ (w1 := ?_) (v := ?_) (by rfl) rfl ?_ ?_; rotate_left 2
   ·
    go_simp
    constructor
    ·
     rfl
    rfl
   (try clear hcv20) <;> (try clear hcw20); refine k1_ hK trivial (fun hHeld => ?_); clear hK K; refine o1_ 7 (rl_ [12, 1]) HT_ fun K hK => ?_; have hcv21 := own_string (P := Try.prog) Try.underlying25 Try.underlying5 Try.underlying9 (Kd.own_of_R Ab.out); refine value_ (w1 := ?_) (v := ?_) (by rfl) rfl ?_ ?_; rotate_left 2
   ·
    go_simp
    constructor
    ·
     rfl
    rfl
   clear hcv21; refine k1_ hK trivial (fun hHeld => ?_); clear hK K; exact nm_ (hCont (Ak) _ ⟨(rp_ Aa), (rp_ Ab), below_a⟩)
  (have hcv19 := Kd.C_string (P := Try.prog) (A := Bi) (c := (c3 - (Ac).toNat)) Try.underlying25 Try.underlying5 Try.underlying9 (Kd.C_below Al.out below_a); have hcw19 := hcv19; rw [List.length_drop] at hcw19)
  refine value_ (w1 := ?_) (v := ?_) (by rfl) rfl ?_ ?_; rotate_left 2
  ·
   go_simp
   constructor
   ·
    rfl
   rfl
  (try clear hcv19) <;> (try clear hcw19); refine k1_ hK trivial (fun hHeld => ?_); clear hK K; refine o1_ 6 (rl_ [7, 1, 4, 1]) HT_ fun K hK => ?_; refine goes_ Try.func75 (by kernel_rfl) rfl #[.slice Ai Af.length Aj, .slice A1 l1.length c1, .slice A2 l2.length c2, .slice A3 (l3.take ((Ac) : Int).toNat).length c3] (by rfl) rfl rfl (by (try simp only [List.map_toArray, List.map_cons, List.map_nil]); first | done | (rw [show (l3.take ((Ac) : Int).toNat).length = (Ac).toNat from (by rw [List.length_take]; have h_ : ((Ac) : Int) ≤ (l3.length : Int) := od_; omega)] <;> rfl) | (simp only [hji7]; rfl) | rfl | (simp only [List.length_drop, List.length_take]; rfl)) ?_
  with_reducible refine (spec_l3Tag.calls k _ _ Af _ _ l1 _ _ l2 _ _ (l3.take ((Ac) : Int).toNat) Am _ ?_ ?_ ?_ ?_ ?_ ?_ ?_ ?_ Bw.out).mono ?_
  exact cr_ Aa; exact cl_ Aa; exact ca_ (Kd.C_below Bc.out HB.out); exact Bd.out; exact ca_ (Kd.C_below Bu.out HB.out); exact Bv.out; exact ca_ (Kd.C_below An.out HB.out); exact Aq.out; rintro e Ct ⟨Ak, rfl, Ae, hb⟩; refine ⟨_, rfl, ?_⟩; have n0_ := re_ Aa hb (Kd.R_base Ae); have Ab := A_ (Kd.R_lower (Kd.R_new' Ae (Kd.R_lt (R_a Aa.out))) (below_size below_a)); replace HB := bs_ hb; replace Aa := n0_; clear n0_; (try clear hb Ae); refine k1_ hK trivial (fun hHeld => ?_); clear hK K; refine o1_ 7 (rl_ [12, 1]) HT_ fun K hK => ?_; have hcv21 := own_string (P := Try.prog) Try.underlying25 Try.underlying5 Try.underlying9 (Kd.own_of_R Ab.out); refine value_ (w1 := ?_) (v := ?_) (by rfl) rfl ?_ ?_; rotate_left 2
  ·
   go_simp
   constructor
   ·
    rfl
   rfl
  clear hcv21; refine k1_ hK trivial (fun hHeld => ?_); clear hK K; exact nm_ (hCont (Ak) _ ⟨(rp_ Aa), (rp_ Ab), below_a⟩)
 rintro Ak Bb ⟨h0_, h1_, h2_⟩; have n0_ : Aside0 (Kd.R (Kd.int .u8) 5 Bb w.heap.size (fun k_ => some k_ ≠ (Ak : Value).ownBlock) (.slice Ai Af.length Aj) Af) := ⟨h0_⟩; have n1_ : Aside0 (Kd.R (Kd.int .u8) 5 Bb w.heap.size (fun k_ => some k_ ≠ (.slice Ai Af.length Aj : Value).ownBlock) Ak Am) := ⟨h1_⟩; have n2_ : Aside0 (Below w.heap.size w Bb) := ⟨h2_⟩; clear Aa HB h0_ h1_ h2_; have Aa := n0_; have Ab := n1_; have HB := n2_; clear n0_ n1_ n2_; have hHeld := trivial; refine norm_ (a' := ?_) ?_ ?_; rotate_left
 ·
  simp only [putAll, Act.put, List.setIfInBounds_toArray, List.set_cons_zero, List.set_cons_succ]; rfl
 refine p1_ 12 (rl_ [13]) HT_ ?_
 refine done_ (done_of HT_.out (by kernel_rfl)) ?_
 go_upto_if 31 with (fail)
 have H := Ax.out; clear Ax
 by_cases Ay : (strOfNums Am).toList = (strOfNums (l3.drop ((Ac) : Int).toNat)).toList
 ·
  rw [if_pos Ay] at H; obtain ⟨Ag, Az⟩ := be_ Ay; clear Ay; (first | rw [Ag] | (simp only [i64_w, i32_w]; rw [Ag]) | skip); obtain ⟨Av, Ck, H⟩ := bj_ H; (try dsimp only at H); obtain ⟨Ao, Cl, H⟩ := bj_ H; (try dsimp only at H); have B3 := eq_true (od_ : 0 ≤ (Ac)); have B4 := eq_true (od_ : (Ac) ≤ (l3.length : Int)); obtain ⟨Bj, Cm, H⟩ := bj_ H; (try dsimp only at H); obtain ⟨rfl, rfl⟩ := s2_ H
  try go_wp2
  replace Aa := hd_ Aa; replace Ab := hd_ Ab; replace HB := A_ (below_drew1 HB.out); obtain ⟨Cn, As, _, hsz30, _⟩ := info_parts info5; obtain ⟨hcut30, hA30, hC30⟩ := print_take_of (P := Try.prog) (Value.int .u8) 0 25 5 .i64 Try.underlying25 As hsz30 A3 c3 l3 (Ac) od_ od_ Bf.out; have Au := A_ (Kd.C_of_reads (h1 := fun _ => rfl) (hA30 _ (Kd.reads_of_C Be.out))); have A4 := A_ hC30; clear hA30 hC30 As hsz30; refine start_ (n := 10) (S := fun w' => True) (ds := []) (rl_ [0, 10]) (by kernel_rfl) rfl rfl trivial (fun hHeld => ?_); refine with_tabW spec_l3Open.tab7 spec_l3Open.bits7 (fun HT_ HW_ => ?_); generalize Bb.drew = Cu at Aa Ab HB Au hHeld ⊢; refine p1_ 0 (rl_ [1, 9]) HT_ ?_
  refine p1_ 1 (rl_ [2, 8]) HT_ ?_
  refine p1_ 4 (rl_ [2, 2, 1, 5]) HT_ ?_
  refine p1_ 5 (rl_ [2, 2, 2, 4]) HT_ ?_
  refine p1_ 6 (rl_ [2, 2, 3, 3]) HT_ ?_
  refine o1_ 2 (rl_ [3, 1, 3, 3]) HT_ fun K hK => ?_; refine gs_ Try.func78 #[.slice A1 l1.length c1] ?_
  with_reducible refine (spec_l3First.calls _ _ l1 Av _ ?_ ?_ Ck.out).mono ?_
  exact ca_ (Kd.C_below Bc.out HB.out); exact Bd.out; rintro e Cv ⟨Co, rfl, Ae, hb⟩; refine ⟨_, rfl, ?_⟩; have n0_ := re_ Aa hb (Kd.R_base Ae); have n1_ := re_ Ab hb (Kd.R_base Ae); have Ad := A_ (Kd.R_lower (Kd.R_new' (Kd.R_new' Ae (Kd.R_lt (R_a Aa.out))) (Kd.R_lt (R_a Ab.out))) (below_size below_a)); replace HB := bs_ hb; replace Aa := n0_; replace Ab := n1_; clear n0_ n1_; (try clear hb Ae); obtain ⟨Bk, Bl, A5⟩ := Kd.R_slice Ad.out; (first | subst A5 | (injection A5 with f1_ f2_ f3_; have f4_ := f1_.symm; have f5_ := f3_.symm; clear f1_ f2_ f3_; subst f4_; subst f5_)); refine k1_ hK trivial (fun hHeld => ?_); clear hK K; refine o1_ 3 (rl_ [7, 3]) HT_ fun K hK => ?_; refine gs_ Try.func77 #[.slice Bk Av.length Bl] ?_
  with_reducible refine (spec_l3Count.calls k _ _ Av Ao _ ?_ ?_ Cl.out).mono ?_
  exact cr_ Ad; exact cl_ Ad; rintro e Cw ⟨Cp, rfl, Ae, hb⟩; refine ⟨_, rfl, ?_⟩; have n0_ := re_ Aa hb (Kd.R_base Ae); have n1_ := re_ Ab hb (Kd.R_base Ae); have n2_ := re_ Ad hb (Kd.R_base Ae); have Ah := A_ (Kd.R_lower (Kd.R_new' (Kd.R_new' (Kd.R_new' Ae (Kd.R_lt (R_a Aa.out))) (Kd.R_lt (R_a Ab.out))) (Kd.R_lt (R_a Ad.out))) (below_size below_a)); replace HB := bs_ hb; replace Aa := n0_; replace Ab := n1_; replace Ad := n2_; clear n0_ n1_ n2_; (try clear hb Ae); obtain ⟨A7, A8, A9⟩ := Kd.R_slice Ah.out; (first | subst A9 | (injection A9 with f1_ f2_ f3_; have f4_ := f1_.symm; have f5_ := f3_.symm; clear f1_ f2_ f3_; subst f4_; subst f5_)); refine k1_ hK trivial (fun hHeld => ?_); clear hK K; refine o1_ 7 (rl_ [8, 2]) HT_ fun K hK => ?_; refine goes_ Try.func76 (by kernel_rfl) rfl #[.slice Ai Af.length Aj, .slice A7 Ao.length A8, .slice A3 (l3.take ((Ac) : Int).toNat).length c3] (by rfl) rfl rfl (by (try simp only [List.map_toArray, List.map_cons, List.map_nil]); first | done | (rw [show (l3.take ((Ac) : Int).toNat).length = (Ac).toNat from (by rw [List.length_take]; have h_ : ((Ac) : Int) ≤ (l3.length : Int) := od_; omega)] <;> rfl) | (simp only [hji7]; rfl) | rfl | (simp only [List.length_drop, List.length_take]; rfl)) ?_
  with_reducible refine (spec_l3Stream.calls k _ _ Af (fun k_ => some k_ = (.slice A7 Ao.length A8 : Value).ownBlock) _ _ Ao _ _ (l3.take ((Ac) : Int).toNat) Bj _ ?_ ?_ ?_ ?_ ?_ Cm.out).mono ?_
  exact cr_ Aa; exact cl_ Aa; exact Kd.R_V (Kd.R_tight rfl (Ah.out)); exact ca_ (Kd.C_below Au.out HB.out); exact A4.out; rintro e Cx ⟨Cq, rfl, Ae, hb⟩; refine ⟨_, rfl, ?_⟩; have n0_ := re_ Aa hb (Kd.R_base Ae); have n1_ := re_ Ab hb (Kd.R_base Ae); have n2_ := re_ Ad hb (Kd.R_base Ae); have n3_ := re_ Ah hb (Kd.R_base Ae); have Ba := A_ (Kd.R_lower (Kd.R_new' (Kd.R_new' (Kd.R_new' (Kd.R_new' (Kd.R_mono (ok' := fun k_ => True) Ae (fun _ hk_ => trivial)) (Kd.R_lt (R_a Aa.out))) (Kd.R_lt (R_a Ab.out))) (Kd.R_lt (R_a Ad.out))) (Kd.R_lt (R_a Ah.out))) (below_size below_a)); replace HB := bs_ hb; replace Aa := n0_; replace Ab := n1_; replace Ad := n2_; replace Ah := n3_; clear n0_ n1_ n2_ n3_; (try clear hb Ae); refine k1_ hK trivial (fun hHeld => ?_); clear hK K; refine p1_ 8 (rl_ [9, 1]) HT_ ?_
  refine p1_ 9 (rl_ [10]) HT_ ?_
  refine done_ (done_of HT_.out (by kernel_rfl)) ?_
  try go_wp2
  go_ret2
  exact ⟨_, by first | rfl | (simp [errW_none, errW_some] <;> rfl) | (simp only [← hji7]; first | rfl | (simp [errW_none, errW_some] <;> rfl)) | (simp [*, errW_none, errW_some] <;> rfl), rp_ Ba, below_a⟩
 rw [if_neg Ay] at H; obtain ⟨Ag, Az⟩ := nb_ Ay; (first | rw [Ag] | (simp only [i64_w, i32_w]; rw [Ag]) | skip); obtain ⟨rfl, rfl⟩ := s2_ H
 go_wp2
 go_ret2
 exact ⟨_, by first | rfl | (simp [errW_none, errW_some] <;> rfl) | (simp only [← hji7]; first | rfl | (simp [errW_none, errW_some] <;> rfl)) | (simp [*, errW_none, errW_some] <;> rfl), by first | exact Kd.R_nil _ _ _ _ _ | exact Kd.N_nil _ _ _ _ _ | exact Kd.V_nil _ _ _ _ _ | exact Kd.Q_nil _ _ _ _ _ | exact Kd.S_nil _ _ _ _ _, below_a⟩
end Go.Proofs.Ytiioiohdifkbgaa.MFnLetters
