-- Laid by a program of this session (the kit's print, turned where it falls short; the texts of functions that it does not take are proved by hand).
import Derived.Test.YtiioiohdifkbgaaMFnLettersx6
namespace Go.Proofs.Ytiioiohdifkbgaa.MFnLetters
open Go.RowKit Go.Proofs.YtiioiohdifkbgaaW.PrintWords Go.Proofs.YtiioiohdifkbgaaW.PrintLast Go.Proofs.YtiioiohdifkbgaaW.PrintMore
set_option maxHeartbeats 80000000
set_option maxRecDepth 100000
attribute [local go_sem] max2_int min2_int max_two min_two max_three min_three max_four min_four   -- for this text's walks alone
set_option linter.unusedVariables false
set_option linter.unusedSimpArgs false
attribute [local go_sem] isSome_setCell
def impl_word.l0 : Nat → Int → List Int → Int → Option (List Int)
 | 0, _, _, _ => none
 | k + 1, x0, x5, x6 => if x6 ≥ 0 then (if 0 ≤ x6 then (if x6 < (x5.length : Int) then (impl_word.l0 k (wrap64 (Int.tdiv x0 256)) (x5.set (x6 : Int).toNat ((Int.tmod x0 256) % 256)) (wrap64 (x6 - 1))) else (none)) else (none)) else (some x5)
def impl_word.f (k : Nat) (a0 : Int) (a1 : Int) : Option (List Int) := if 0 ≤ a1 then (if (a1 : Int).toNat ≤ 281474976710656 then (impl_word.l0 k a0 (List.replicate (a1 : Int).toNat 0) (wrap64 (a1 - 1))) else (none)) else (none)
theorem impl_word.calls (k : Nat) (a0 : Int) (a1 : Int) (r : List Int) (w : World) (h : impl_word.f k a0 a1 = some r) :
  Calls Try.prog 70 #[.int .i64 a0, .int .i64 a1] w fun e w' => ∃ v0_ : Value, e = .returned (v0_) ∧ Kd.R (Kd.int .u8) 5 w' w.heap.size (fun _ => True) v0_ r ∧ Below w.heap.size w w' := by
 have HB := A_ (Below.refl w.heap.size w)
 unfold impl_word.f at h; have H := h; clear h
 obtain ⟨c3, H⟩ := iq_ H; have Ap := eq_true c3; have Aq : decide (0 ≤ a1) = true := decide_eq_true c3; clear c3
 obtain ⟨c4, H⟩ := iq_ H; have Ar := eq_true c4; have As : decide ((a1 : Int).toNat ≤ 281474976710656) = true := decide_eq_true c4; clear c4; obtain ⟨Au, Ae⟩ := ey_ (List.replicate (a1 : Int).toNat 0 : List Int); (try (with_reducible replace H := os_ H)); (try dsimp only at H); (try rw [← Ae] at H)
 have Ag := A_ Ae; clear Ae; have H' := A_ H; clear H
 go_enter Try.func70, Try.ntmps70
 go_wp2_with (first | ((with_reducible refine d1_ 8 ?_); refine Kd.R_make (Kd.int .u8) _ 5 rfl (N := 8) rfl 25 _ _ rfl a1 rfl rfl Try.underlying25 (.int .u8 0) 1 info5 rfl (by decide) (by omega) 0 (ok := fun _ => True) (okp := fun _ => True) rfl (fun _ hk => hk) trivial od_ (Nat.le_trans (Nat.mul_le_mul_right _ (od_ : a1.toNat ≤ 281474976710656)) (by omega)) (Below.refl _ _) (Nat.le_refl _) ?_; intro Av w5 Aj hb hg_ hnew_; clear hg_ hnew_; (first | rw [← Ag.out] at Aj | (simp only [Int.reduceToNat] at Aj; rw [← Ag.out] at Aj)); have Ak := A_ (Kd.R_lower Aj (below_size below_a)); replace HB := bs_ hb; clear hb Aj))
 go_loopg [0, 6] k (fun kq v0 v6 w' => ∃ (Ab : Int) (Ac : List Int) (Aa : Int), v0 = .int .i64 Ab ∧ v6 = .int .i64 Aa ∧ Aside0 (impl_word.l0 kq Ab Ac Aa = some r) ∧ Aside0 (kq ≤ k) ∧ Aside0 (Kd.R (Kd.int .u8) 5 w' w.heap.size (fun _ => True) Av Ac) ∧ Aside0 (Below w.heap.size w w'))
 case atStart => exact ⟨(a0), (Au), (wrap64 (a1 - 1)), eq_b, eq_b, H', ⟨Nat.le_refl _⟩, ⟨R_a Ak.out⟩, ⟨below_a⟩⟩
 case round =>
  clear H'
  try clear p2
  try clear c3 Ap Aq
  try clear c4 Ar As
  try clear p6
  obtain ⟨Ab, Ac, Aa, rfl, rfl, HA, HK1, Ad, HB⟩ := hrel
  cases gk with
  | zero => exact absurd HA.out (by simp [impl_word.l0])
  | succ k1 =>
   have H := HA.out; clear HA; simp only [impl_word.l0] at H
   by_cases c7 : Aa ≥ 0
   ·
    rw [if_pos c7] at H; have Aw : decide (0 ≤ Aa) = true := decide_eq_true c7; clear c7
    obtain ⟨c8, H⟩ := iq_ H; have A5 := decide_eq_true c8; clear c8
    obtain ⟨c9, H⟩ := iq_ H; have A6 := decide_eq_true c9; clear c9; obtain ⟨Al, Af⟩ := ey_ (Ac.set (Aa : Int).toNat ((Int.tmod Ab 256) % 256)); (try (with_reducible replace H := os_ H)); (try dsimp only at H); (try rw [← Af] at H)
    have Am := A_ Af; clear Af; have H' := A_ H; clear H; have Ax : 0 ≤ (Aa : Int) := od_; have Ay : (Aa : Int) < ((Ac.length : Int) : Int) := od_; obtain ⟨Ah, Az, An, Ao, gl10, A7, HG10⟩ := Kd.R_form Ad.out (by omega); (first | cases An | (injection An with ea_ en_ ec_; (first | subst ea_ | (injection ea_ with ea_; subst ea_)); subst ec_; clear en_)); have A0 := A_ Ao; have A8 := A_ HG10; clear Ao gl10 HG10; obtain ⟨A1, A3⟩ := Kd.R_celln 0 Ad.out (Aa : Int) Ax Ay; replace Ax := eq_true Ax; replace Ay := eq_true Ay; have Ai := Kd.R_putg Ad.out (Aa : Int) ((Int.tmod Ab 256) % 256)
    go_wp2_with (first | ((with_reducible refine s1_ 5 20 ?_); refine store_event (t := 5) (p := 20) (v := ?vo_w12) (w1 := (wr.setCell ⟨Ah, (Aa : Int).toNat, none⟩ (.int .u8 ((Int.tmod Ab 256) % 256)))) ?hg ?ho ?hn ?hr ?_; (case ho => rfl); (case hg => rfl); (case hn => rfl); (case hr => go_simp <;> rfl); intro A4 hw; have hg : wr.grownBy A4 (some Ah) := (by rw [hw]; exact Ai.2); have hp_ : Kd.R (Kd.int .u8) 5 A4 w.heap.size (fun _ => True) (.slice (some ⟨Ah, 0, none⟩) Ac.length Az) Al := (by rw [hw, Am.out]; exact Ai.1); clear Ai; replace Ad := A_ (hp_); replace HB := A_ ((by rw [hw]; exact below_set (HB.out) A0.out : Below w.heap.size w A4)); clear hg hw hp_))
    go_roundg k1
    case measure => have := HK1.out; omega
    case rel => exact ⟨(wrap64 (Int.tdiv Ab 256)), (Al), (wrap64 (Aa - 1)), eq_b, eq_b, H', ⟨by have := HK1.out; omega⟩, ⟨R_a Ad.out⟩, ⟨below_a⟩⟩
   rw [if_neg c7] at H; have Aw : decide (0 ≤ Aa) = false := decide_eq_false c7; clear c7; obtain rfl := Option.some.inj H
   go_wp2
   go_ret
   exact ⟨_, eq_a, R_a Ad.out, below_a⟩
def impl_element_plus.f (a0_0 : Int) (a0_1 : Int) (a1_0 : Int) (a1_1 : Int) : Option (Int × Int) := some (Go.bits .xor .u64 a0_0 a1_0, Go.bits .xor .u64 a0_1 a1_1)
theorem impl_element_plus.calls (Af : Int) (Ag : Int) (Ah : Int) (Ai : Int) (r1 : Int) (r2 : Int) (w : World) (h : impl_element_plus.f Af Ag Ah Ai = some (r1, r2)) :
  Calls Try.prog 115 #[.agg #[.int .u64 Af, .int .u64 Ag], .agg #[.int .u64 Ah, .int .u64 Ai]] w fun e w' => e = .returned (.agg #[.int .u64 r1, .int .u64 r2]) ∧ Below w.heap.size w w' := by
 have hu139 := Try.underlying139
 have HB := A_ (Below.refl w.heap.size w)
 unfold impl_element_plus.f at h; have H := h; clear h
 simp only [Option.some.injEq, Prod.mk.injEq] at H
 obtain ⟨rfl, rfl⟩ := H
 go_enter Try.func115, Try.ntmps115
 go_wp2_with (first | ((with_reducible refine d1_ 2 ?_); refine by_ 2 (#[.int .u64 Af, .int .u64 Ag]) 139 ?_; intro Aa hg w3 hbox hb; have Ae := A_ (hbox); have Aq := gw_ (w := w) hg; replace HB := bs_ hb; clear hb hbox hg) | ((with_reducible refine d1_ 3 ?_); refine by_ 3 (#[.int .u64 Ah, .int .u64 Ai]) 139 ?_; intro Aj hg w4 hbox hb; have Ak := A_ (hbox); have Ar := gw_ (w := w) hg; obtain ⟨Ab, Al⟩ := bu_ Aa hg; replace Ae := bw_ Aa hb; replace HB := bs_ hb; clear hb hbox hg) | ((with_reducible refine d1_ 4 ?_); refine by_ 4 (#[.int .u64 0, .int .u64 0]) 139 ?_; intro Ao hg w5 hbox hb; have Ap := A_ (hbox); have As := gw_ (w := w) hg; obtain ⟨Ac, Am⟩ := bu_ Aa hg; obtain ⟨Ad, An⟩ := bu_ Aj hg; replace Ae := bw_ Aa hb; replace Ak := bw_ Aj hb; replace HB := bs_ hb; clear hb hbox hg; have := nn_ Ab; have := nn_ Ac; have := bc2_ Ae.out; have := nn_ Ad; have := bc2_ Ak.out; have := bc2_ Ap.out))
 refine bodyPost_ret (results_cell_row rfl _ _ Ao 139 #[.int .u64 (Go.bits .xor .u64 Af Ah), .int .u64 (Go.bits .xor .u64 Ag Ai)] (0, 0) _ rfl blk_a Try.underlying139 rfl (by kernel_rfl)) rfl ?_
 exact ⟨eq_a, below_a⟩
def impl_element_shifted.f (Aa : Int) (Ab : Int) : Option (Int × Int) := if (Int.tmod Ab 2) = 1 then (some (Go.bits .xor .u64 (Aa / 2) 16212958658533785600, Go.bits .or .u64 (Ab / 2) (IntKind.u64.wrap (Aa * 9223372036854775808)))) else (some (Aa / 2, Go.bits .or .u64 (Ab / 2) (IntKind.u64.wrap (Aa * 9223372036854775808))))
theorem impl_element_shifted.calls (Ae : Int) (Ai : Int) (r1 : Int) (r2 : Int) (w : World) (h : impl_element_shifted.f Ae Ai = some (r1, r2)) :
  Calls Try.prog 124 #[.agg #[.int .u64 Ae, .int .u64 Ai]] w fun e w' => e = .returned (.agg #[.int .u64 r1, .int .u64 r2]) ∧ Below w.heap.size w w' := by
 have hu139 := Try.underlying139
 have HB := A_ (Below.refl w.heap.size w)
 unfold impl_element_shifted.f at h; have H := h; clear h
 have Aq := A_ H
 clear H
 go_enter Try.func124, Try.ntmps124
 go_upto_if 18 with (first | ((with_reducible refine d1_ 1 ?_); refine by_ 1 (#[.int .u64 Ae, .int .u64 Ai]) 139 ?_; intro Af hg w3 hbox hb; have Ag := A_ (hbox); have Ar := gw_ (w := w) hg; replace HB := bs_ hb; clear hb hbox hg) | ((with_reducible refine d1_ 2 ?_); refine by_ 2 (#[.int .u64 0, .int .u64 0]) 139 ?_; intro Ah hg w4 hbox hb; have Ak := A_ (hbox); have As := gw_ (w := w) hg; obtain ⟨Aj, Ac⟩ := bu_ Af hg; replace Ag := bw_ Af hb; replace HB := bs_ hb; clear hb hbox hg; have := nn_ Aj; have := bc2_ Ag.out) | ((with_reducible refine d1_ 3 ?_); refine by_ 3 (#[.int .u64 0, .int .u64 0]) 139 ?_; intro Au hg w7 hbox hb; have Al := A_ (hbox); have Av := gw_ (w := w) hg; obtain ⟨Am, Aa⟩ := bu_ Af hg; obtain ⟨An, Ab⟩ := bu_ Ah hg; replace Ag := bw_ Af hb; replace Ak := bw_ Ah hb; replace HB := bs_ hb; clear hb hbox hg; have := nn_ Aa; have := nn_ Ab; have := bc2_ Al.out; have := bc2_ Ag.out))
 (try simp only [P4_])
 have H := Aq.out
 clear Aq
 by_cases Ao : (Int.tmod Ai 2) = 1
 ·
  rw [if_pos Ao] at H; obtain ⟨Ad, Ap⟩ := be_ Ao; clear Ao; (first | rw [Ad] | (simp only [i64_w, i32_w]; rw [Ad]) | skip); obtain ⟨rfl, rfl⟩ := s2_ H; have := nn_ Aa; have := nn_ Ab; have := bc2_ Al.out; have := nn_ Ac; have := bc2_ Ak.out
  go_wp2
  refine bodyPost_ret (v := .agg #[.int .u64 (Go.bits .xor .u64 (Ae / 2) 16212958658533785600), .int .u64 (Go.bits .or .u64 (Ai / 2) (IntKind.u64.wrap (Ae * 9223372036854775808)))]) ?_ rfl ?_; exact rc_ Ah Try.underlying139; exact ⟨eq_a, below_a⟩
 rw [if_neg Ao] at H; obtain ⟨Ad, Ap⟩ := nb_ Ao; (first | rw [Ad] | (simp only [i64_w, i32_w]; rw [Ad]) | skip); obtain ⟨rfl, rfl⟩ := s2_ H; have := nn_ Aa; have := nn_ Ab; have := bc2_ Al.out; have := nn_ Ac; have := bc2_ Ak.out
 go_wp2
 refine bodyPost_ret (v := .agg #[.int .u64 (Ae / 2), .int .u64 (Go.bits .or .u64 (Ai / 2) (IntKind.u64.wrap (Ae * 9223372036854775808)))]) ?_ rfl ?_; exact rc_ Ah Try.underlying139; exact ⟨eq_a, below_a⟩
mutual
def impl_element_times.l0 : Nat → List Int → Int → Int → Int → Int → Int → Int → Option (Int × Int)
 | 0, _, _, _, _, _, _, _ => none
 | k + 1, Af, Ag, Ae, Ac, Ad, Aa, Ab => if Ae < Ag then (if 0 ≤ Ae then (if Ae < (Af.length : Int) then (impl_element_times.l1 k (rd Af Ae) 63 Af Ag Ae Ac Ad Aa Ab) else (none)) else (none)) else (some (Aa, Ab))
def impl_element_times.l1 : Nat → Int → Int → List Int → Int → Int → Int → Int → Int → Int → Option (Int × Int)
 | 0, _, _, _, _, _, _, _, _, _ => none
 | k + 1, x7, x8, Ah, Ai, Aj, Aa, Ab, Ac, Ad => if x8 ≥ 0 then (if 0 ≤ x8 then (if (Int.tmod (shr .u64 x7 x8) 2) = 1 then ((impl_element_plus.f Ac Ad Aa Ab).bind fun Ae => ((impl_element_shifted.f Aa Ab).bind fun Af => (impl_element_times.l1 k x7 (wrap64 (x8 - 1)) Ah Ai Aj Af.1 Af.2 Ae.1 Ae.2))) else ((impl_element_shifted.f Aa Ab).bind fun Ag => (impl_element_times.l1 k x7 (wrap64 (x8 - 1)) Ah Ai Aj Ag.1 Ag.2 Ac Ad))) else (none)) else (impl_element_times.l0 k Ah Ai (wrap64 (Aj + 1)) Aa Ab Ac Ad)
end
def impl_element_times.f (k : Nat) (a0_0 : Int) (a0_1 : Int) (a1_0 : Int) (a1_1 : Int) : Option (Int × Int) := (some (([a1_0, a1_1] : List Int) : List Int)).bind fun y374 => (impl_element_times.l0 k y374 (y374.length : Int) 0 a0_0 a0_1 0 0)
theorem impl_element_times.calls (k : Nat) (A9 : Int) (Ba : Int) (Ax : Int) (Ay : Int) (r1 : Int) (r2 : Int) (w : World) (h : impl_element_times.f k A9 Ba Ax Ay = some (r1, r2)) :
  Calls Try.prog 116 #[.agg #[.int .u64 A9, .int .u64 Ba], .agg #[.int .u64 Ax, .int .u64 Ay]] w fun e w' => e = .returned (.agg #[.int .u64 r1, .int .u64 r2]) ∧ Below w.heap.size w w' := by
 have hu139 := Try.underlying139
 have HB := A_ (Below.refl w.heap.size w)
 unfold impl_element_times.f at h; have H := h; clear h
 obtain ⟨Am, A3⟩ : ∃ y_ : List Int, y_ = (([Ax, Ay] : List Int)) := ⟨_, rfl⟩
 replace H : (impl_element_times.l0 k Am (Am.length : Int) 0 A9 Ba 0 0) = some (r1, r2) := by first | (rw [A3]; with_reducible exact H) | (have H2_ := os_ H; rw [A3]; with_reducible exact H2_) | (have H2_ := os_ H; with_reducible exact H2_) | with_reducible exact H | (rw [A3]; exact H) | exact H
 have Bf := A_ A3
 clear A3
 have H' := A_ H
 clear H
 go_enter Try.func116, Try.ntmps116
 go_wp2_with (first | ((with_reducible refine d1_ 2 ?_); refine by_ 2 (#[.int .u64 A9, .int .u64 Ba]) 139 ?_; intro Ai hg w3 hbox hb; have Ae := A_ (hbox); have Cf := gw_ (w := w) hg; replace HB := bs_ hb; clear hb hbox hg) | ((with_reducible refine d1_ 3 ?_); refine by_ 3 (#[.int .u64 Ax, .int .u64 Ay]) 139 ?_; intro An hg w4 hbox hb; have Ap := A_ (hbox); have Cg := gw_ (w := w) hg; obtain ⟨Az, A4⟩ := bu_ Ai hg; replace Ae := bw_ Ai hb; replace HB := bs_ hb; clear hb hbox hg) | ((with_reducible refine d1_ 4 ?_); refine by_ 4 (#[.int .u64 0, .int .u64 0]) 139 ?_; intro Aq hg w5 hbox hb; have Aw := A_ (hbox); have Ch := gw_ (w := w) hg; obtain ⟨A0, A5⟩ := bu_ Ai hg; obtain ⟨A6, A7⟩ := bu_ An hg; replace Ae := bw_ Ai hb; replace Ap := bw_ An hb; replace HB := bs_ hb; clear hb hbox hg) | ((with_reducible refine d1_ 5 ?_); refine by_ 5 (#[.int .u64 0, .int .u64 0]) 139 ?_; intro A1 hg w6 hbox hb; have Ao := A_ (hbox); have Ci := gw_ (w := w) hg; obtain ⟨A8, Ar⟩ := bu_ Ai hg; obtain ⟨Bm, As⟩ := bu_ An hg; obtain ⟨Bn, Au⟩ := bu_ Aq hg; replace Ae := bw_ Ai hb; replace Ap := bw_ An hb; replace Aw := bw_ Aq hb; replace HB := bs_ hb; clear hb hbox hg; have := nn_ Ar; have := nn_ As; have := nn_ Au; obtain ⟨hcz10_0, hcz10_1, hfz10_0, hfz10_1⟩ := bc2_ Ao.out; have := nn_ A4; have := nn_ A6; obtain ⟨hcz13_0, hcz13_1, hfz13_0, hfz13_1⟩ := bc2_ Ap.out) | ((with_reducible refine d1_ 14 ?_); refine Kd.R_lit (Kd.int .u64) _ 124 ?hg (N := 14) ?hd (xs := ([Ax, Ay] : List Int)) (inner := [.int .u64 Ax, .int .u64 Ay]) (ok := fun _ => True) (okp := fun _ => True) ?hr ?hp (fun _ hk => hk) trivial (Below.refl _ _) (Nat.le_refl _) (by simp) ?_; (case hd => rfl); (case hg => rfl); (case hr => go_simp <;> rfl); (case hp => exact (Reps.one (show Kd.M (Kd.int .u64) _ _ _ Ax [.int .u64 Ax] from rfl) (Reps.one (show Kd.M (Kd.int .u64) _ _ _ Ay [.int .u64 Ay] from rfl) (Reps.none _ _)))); intro Cl Cs Bb hb hg_ hnew_; clear hg_ hnew_; (first | rw [← Bf.out] at Bb | (simp only [Int.reduceToNat] at Bb; rw [← Bf.out] at Bb)); have Bg := A_ (Kd.R_lower Bb (below_size below_a)); replace Ae := bw_ Ai hb; replace Ap := bw_ An hb; replace Aw := bw_ Aq hb; replace Ao := A_ (blk_below (g := A1) (o := .cells #[.int .u64 0, .int .u64 0] 139 (0, 0)) blk_a hb); replace HB := bs_ hb; clear hb Bb; obtain ⟨B4, Bp, Ca⟩ := Kd.R_slice Bg.out; subst Ca))
 go_loopg [16] k (fun kq Cm w' => ∃ (Af : Int) (Ak : Int) (Al : Int) (Ag : Int) (Ah : Int), Cm = .int .i64 Af ∧ Aside0 (impl_element_times.l0 kq Am (Am.length : Int) Af Ak Al Ag Ah = some (r1, r2)) ∧ Aside0 (kq ≤ k) ∧ Aside0 (Kd.R (Kd.int .u64) 124 w' w.heap.size (fun _ => True) (.slice B4 Am.length Bp) Am) ∧ Aside0 (w'.heap[Ai]? = some (.cells #[.int .u64 Ak, .int .u64 Al] 139 (0, 0))) ∧ Aside0 (w'.heap[An]? = some (.cells #[.int .u64 Ax, .int .u64 Ay] 139 (0, 0))) ∧ Aside0 (w'.heap[Aq]? = some (.cells #[.int .u64 0, .int .u64 0] 139 (0, 0))) ∧ Aside0 (w'.heap[A1]? = some (.cells #[.int .u64 Ag, .int .u64 Ah] 139 (0, 0))) ∧ Aside0 (Below w.heap.size w w'))
 case atStart => exact ⟨(0), (A9), (Ba), (0), (0), eq_b, H', ⟨Nat.le_refl _⟩, ⟨R_a Bg.out⟩, ⟨blk_a⟩, ⟨blk_a⟩, ⟨blk_a⟩, ⟨blk_a⟩, ⟨below_a⟩⟩
 case round =>
  clear H'
  try clear c1
  try clear p2
  try clear c7
  try clear c8
  try clear c9
  try clear Cn
  try clear Co
  try clear hcz10_0 hcz10_1
  try clear hcz13_0 hcz13_1
  try clear hfz10_0 hfz10_1
  try clear hfz13_0 hfz13_1
  obtain ⟨Af, Ak, Al, Ag, Ah, rfl, HA, HK1, Aj, Ae, Ap, Aw, Ao, HB⟩ := hrel
  cases gk with
  | zero => exact absurd HA.out (by simp [impl_element_times.l0])
  | succ k1 =>
   have H := HA.out; clear HA; simp only [impl_element_times.l0] at H
   by_cases Bi : Af < (Am.length : Int)
   ·
    rw [if_pos Bi] at H; have Bh := decide_eq_true Bi; clear Bi
    obtain ⟨Cb, H⟩ := iq_ H; have Bq := decide_eq_true Cb; clear Cb
    obtain ⟨Cc, H⟩ := iq_ H; have Br := decide_eq_true Cc; clear Cc; have H' := A_ H; clear H; have Bc : 0 ≤ (Af : Int) := od_; have Bd : Af < (Am.length : Int) := od_; obtain ⟨Bs, Cd, Be⟩ := Kd.at_int (Kd.R_reads' Aj.out).2.2 Af Bc Bd
    cases Cd
    replace Bc := eq_true Bc; replace Bd := eq_true Bd
    go_wp2
    go_loopg [8] k1 (fun kq v8 w' => ∃ (Av : Int) (Aa : Int) (Ab : Int) (Ac : Int) (Ad : Int), v8 = .int .i64 Av ∧ Aside0 (impl_element_times.l1 kq (rd Am Af) Av Am (Am.length : Int) Af Aa Ab Ac Ad = some (r1, r2)) ∧ Aside0 (kq ≤ k1) ∧ Aside0 (Kd.R (Kd.int .u64) 124 w' w.heap.size (fun _ => True) (.slice (some Bs) Am.length Bp) Am) ∧ Aside0 (w'.heap[Ai]? = some (.cells #[.int .u64 Aa, .int .u64 Ab] 139 (0, 0))) ∧ Aside0 (w'.heap[An]? = some (.cells #[.int .u64 Ax, .int .u64 Ay] 139 (0, 0))) ∧ Aside0 (w'.heap[Aq]? = some (.cells #[.int .u64 0, .int .u64 0] 139 (0, 0))) ∧ Aside0 (w'.heap[A1]? = some (.cells #[.int .u64 Ac, .int .u64 Ad] 139 (0, 0))) ∧ Aside0 (Below w.heap.size w w'))
    case atStart => exact ⟨(63), (Ak), (Al), (Ag), (Ah), eq_b, H', ⟨Nat.le_refl _⟩, ⟨R_a Aj.out⟩, ⟨blk_a⟩, ⟨blk_a⟩, ⟨blk_a⟩, ⟨blk_a⟩, ⟨below_a⟩⟩
    case round =>
     clear H'
     try clear c1
     try clear p2 p2
     try clear p3
     try clear q3
     try clear Ct
     try clear c7
     try clear c8
     try clear c9
     try clear Cn
     try clear Co
     try clear Bi Bh
     try clear Cb Bq
     try clear Cc Br
     try clear hcz10_0 hcz10_1
     try clear hcz13_0 hcz13_1
     try clear hfz10_0 hfz10_1
     try clear hfz13_0 hfz13_1
     try clear Be
     try clear Bc
     try clear Bd
     obtain ⟨Av, Aa, Ab, Ac, Ad, rfl, HA, HK2, Aj, Ae, Ap, Aw, Ao, HB⟩ := hrel
     cases gk with
     | zero => exact absurd HA.out (by simp [impl_element_times.l1])
     | succ k2 =>
      have H := HA.out; clear HA; simp only [impl_element_times.l1] at H
      by_cases Bo : Av ≥ 0
      ·
       rw [if_pos Bo] at H; have Bt : decide (0 ≤ Av) = true := decide_eq_true Bo; clear Bo
       obtain ⟨Ce, H⟩ := iq_ H; have Cj := eq_true Ce; have Ck : decide (0 ≤ Av) = true := decide_eq_true Ce; clear Ce; obtain ⟨Bj, hji22⟩ : ∃ j_ : Int, (shr .u64 (rd Am Af) Av) = j_ := ⟨_, rfl⟩; first | rw [hji22] at H | simp only [hji22] at H
       have hji22_ : ((rd Am Af) / 2 ^ min Av.toNat 64) = Bj := hji22; have hji22z : Av ≤ 64 → ((rd Am Af) / 2 ^ Av.toNat) = Bj := shr_small hji22
       by_cases Bu : (Int.tmod (Bj) 2) = 1
       ·
        rw [if_pos Bu] at H; obtain ⟨Bv, Bw⟩ := be_ Bu; clear Bu; obtain ⟨⟨Bk, Bl⟩, Cp, H⟩ := bj_ H; (try dsimp only at H); obtain ⟨⟨Bx, Bz⟩, Cq, H⟩ := bj_ H; (try dsimp only at H); have H' := A_ H; clear H; have := nn_ Ar; have := nn_ As; have := nn_ Au; have := bc2_ Ao.out; have := nn_ Az; have := nn_ A0; have := bc2_ Ae.out
        go_wp2_with (first | ((with_reducible refine f1_ 115 ?_); refine gl_ (some 31) Try.func115 #[.agg #[.int .u64 Ac, .int .u64 Ad], .agg #[.int .u64 Aa, .int .u64 Ab]] ?_; (with_reducible refine (impl_element_plus.calls Ac Ad Aa Ab Bk Bl _ Cp.out).mono ?_); rintro e Cu ⟨rfl, hb⟩; refine ⟨_, rfl, ?_⟩; replace Aj := rv_ Aj hb; replace Ae := bw_ Ai hb; replace Ap := bw_ An hb; replace Aw := bw_ Aq hb; replace Ao := bw_ A1 hb; replace HB := bs_ hb; (try clear hb); have := bc2_ Ao.out; have := bc2_ Ae.out) | ((with_reducible refine f1_ 124 ?_); refine gl_ (some 33) Try.func124 #[.agg #[.int .u64 Aa, .int .u64 Ab]] ?_; (with_reducible refine (impl_element_shifted.calls Aa Ab Bx Bz _ Cq.out).mono ?_); rintro e Cv ⟨rfl, hb⟩; refine ⟨_, rfl, ?_⟩; replace Aj := rv_ Aj hb; replace Ae := bw_ Ai hb; replace Ap := bw_ An hb; replace Aw := bw_ Aq hb; replace Ao := A_ (blk_below (g := A1) (o := .cells #[.int .u64 Bk, .int .u64 Bl] 139 (0, 0)) blk_a hb); replace HB := bs_ hb; (try clear hb); have := bc2_ Ae.out))
        go_roundg k2
        case measure => have := HK1.out; have := HK2.out; omega
        case rel => exact ⟨(wrap64 (Av - 1)), (Bx), (Bz), (Bk), (Bl), eq_b, H', ⟨by have := HK1.out; have := HK2.out; omega⟩, ⟨rp_ Aj⟩, ⟨blk_a⟩, ⟨blk_a⟩, ⟨blk_a⟩, ⟨blk_a⟩, ⟨below_a⟩⟩
       rw [if_neg Bu] at H; obtain ⟨Bv, Bw⟩ := nb_ Bu; obtain ⟨⟨B0, B3⟩, Cr, H⟩ := bj_ H; (try dsimp only at H); have H' := A_ H; clear H; have := nn_ Az; have := nn_ A0; have := nn_ A8; have := bc2_ Ae.out
       go_wp2_with (first | ((with_reducible refine f1_ 124 ?_); refine gl_ (some 33) Try.func124 #[.agg #[.int .u64 Aa, .int .u64 Ab]] ?_; (with_reducible refine (impl_element_shifted.calls Aa Ab B0 B3 _ Cr.out).mono ?_); rintro e Cw ⟨rfl, hb⟩; refine ⟨_, rfl, ?_⟩; replace Aj := rv_ Aj hb; replace Ae := bw_ Ai hb; replace Ap := bw_ An hb; replace Aw := bw_ Aq hb; replace Ao := bw_ A1 hb; replace HB := bs_ hb; (try clear hb); have := bc2_ Ae.out))
       go_roundg k2
       case measure => have := HK1.out; have := HK2.out; omega
       case rel => exact ⟨(wrap64 (Av - 1)), (B0), (B3), (Ac), (Ad), eq_b, H', ⟨by have := HK1.out; have := HK2.out; omega⟩, ⟨rp_ Aj⟩, ⟨blk_a⟩, ⟨blk_a⟩, ⟨blk_a⟩, ⟨blk_a⟩, ⟨below_a⟩⟩
      rw [if_neg Bo] at H; have Bt : decide (0 ≤ Av) = false := decide_eq_false Bo; clear Bo; have H' := A_ H; clear H
      go_wp2
      go_roundg k2
      case measure => have := HK1.out; have := HK2.out; omega
      case rel => exact ⟨(wrap64 (Af + 1)), (Aa), (Ab), (Ac), (Ad), eq_b, H', ⟨by have := HK1.out; have := HK2.out; omega⟩, ⟨R_a Aj.out⟩, ⟨blk_a⟩, ⟨blk_a⟩, ⟨blk_a⟩, ⟨blk_a⟩, ⟨below_a⟩⟩
   rw [if_neg Bi] at H; have Bh := decide_eq_false Bi; clear Bi; obtain ⟨rfl, rfl⟩ := s2_ H; have := nn_ Ar; have := nn_ As; have := nn_ Au; have := bc2_ Ao.out; have := nn_ A5; have := nn_ A7; have := bc2_ Aw.out
   go_wp2
   refine bodyPost_ret (v := .agg #[.int .u64 Ag, .int .u64 Ah]) ?_ rfl ?_; exact rc_ Aq Try.underlying139; exact ⟨eq_a, below_a⟩
def impl_whole.f (l0 : List Int) : Option (List Int) := (bytes_Clone.f l0).bind fun Aa => (if 0 ≤ ((16 - ((l0.length : Int) % 16)) % 16) then (if Aa.length + ((16 - ((l0.length : Int) % 16)) % 16 : Int).toNat < 140737488355328 then (some (Aa ++ List.replicate ((16 - ((l0.length : Int) % 16)) % 16 : Int).toNat 0)) else (none)) else (none))
theorem impl_whole.calls (A0 : Option Addr) (c0 : Nat) (l0 : List Int) (r : List Int) (w : World) (Ah : Kd.C (Kd.int .u8) w A0 l0.length l0) (Ai : l0.length ≤ c0) (h : impl_whole.f l0 = some r) :
  Calls Try.prog 109 #[.slice A0 l0.length c0] w fun e w' => ∃ v0_ : Value, e = .returned (v0_) ∧ Kd.R (Kd.int .u8) 5 w' w.heap.size (fun _ => True) v0_ r ∧ Below w.heap.size w w' := by
 have Al := A_ Ah
 have Am := A_ Ai
 clear Ah Ai
 have HB := A_ (Below.refl w.heap.size w)
 unfold impl_whole.f at h; have H := h; clear h
 obtain ⟨Aa, Aj, H⟩ := bi_ H
 (try dsimp only at H)
 have A2 := A_ Aj
 clear Aj
 obtain ⟨Ad, hji3⟩ : ∃ j_ : Int, ((16 - ((l0.length : Int) % 16)) % 16) = j_ := ⟨_, rfl⟩
 replace H : (if 0 ≤ (Ad) then (if Aa.length + (Ad : Int).toNat < 140737488355328 then (some (Aa ++ List.replicate (Ad : Int).toNat 0)) else (none)) else (none)) = some r := by first | (rw [hji3] at H; exact H) | (simp only [hji3] at H ⊢; exact H)
 (try rw [hji3] at A2)
 obtain ⟨c4, H⟩ := iq_ H; have An := eq_true c4; have Ao : decide (0 ≤ (Ad)) = true := decide_eq_true c4; clear c4
 obtain ⟨c5, H⟩ := iq_ H; have LMc5 := A_ c5; clear c5; obtain ⟨Ap, Ab⟩ := ey_ (Aa ++ List.replicate (Ad : Int).toNat 0 : List Int); (try (with_reducible replace H := os_ H)); (try dsimp only at H); (try rw [← Ab] at H)
 have Ae := A_ Ab; clear Ab; obtain rfl := Option.some.inj H
 go_enter Try.func109, Try.ntmps109
 go_wp2_with (first | ((with_reducible refine f1_ 105 ?_); refine gl_ (some 4) Try.func105 #[.slice A0 l0.length c0] ?_; (with_reducible refine (bytes_Clone.calls _ _ l0 Aa _ ?_ ?_ A2.out).mono ?_); exact ca_ Al.out; exact Am.out; rintro e w6 ⟨Ag, rfl, Ak, hb⟩; refine ⟨_, rfl, ?_⟩; have Ac := A_ (Kd.R_lower Ak (below_size below_a)); replace HB := bs_ hb; (try clear hb Ak)) | (at_builtin; refine Kd.R_append_zeros (Kd.int .u8) (w0 := w) w.heap.size rfl (.tmp 4) (.tmp 9) 25 3 5 (.int .u8 0) 1 rfl Try.underlying25 Try.underlying3 info5 rfl (by decide) (by omega) Ag Aa 0 (Ad : Int) (fun _ => True) rfl (by first | exact congrArg (Value.int .i64) hji3 | rfl) rfl ?aF ?aO od_ ?aB ?aS ?aL ?_; (case aB => exact below_a); (case aF => exact (fun _ _ => trivial)); (case aO => exact (R_a Ac.out)); (case aS => exact (below_size below_a)); (case aL => have := LMc5.out; omega); intro Aq w7 ho hb hg hat; rw [← Ae.out] at ho; replace HB := A_ (hb); have Af := A_ (ho); clear Ac; clear ho hb hg hat))
 go_ret
 exact ⟨_, by first | rfl | (simp [errW_none, errW_some] <;> rfl) | (simp only [← hji3]; first | rfl | (simp [errW_none, errW_some] <;> rfl)) | (simp [*, errW_none, errW_some] <;> rfl), R_a Af.out, below_a⟩
end Go.Proofs.Ytiioiohdifkbgaa.MFnLetters
