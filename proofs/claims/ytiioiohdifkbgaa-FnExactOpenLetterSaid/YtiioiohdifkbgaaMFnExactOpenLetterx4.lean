-- Laid by a program of this session (the kit's print, turned where it falls short; the texts of functions that it does not take are proved by hand).
import Derived.Test.YtiioiohdifkbgaaMFnExactOpenLetterx0
import Derived.Test.YtiioiohdifkbgaaMFnExactOpenLetterx3
namespace Go.Proofs.Ytiioiohdifkbgaa.MFnExactOpenLetter
open Go.RowKit Go.Proofs.YtiioiohdifkbgaaW.PrintWords Go.Proofs.YtiioiohdifkbgaaW.PrintLast Go.Proofs.YtiioiohdifkbgaaW.PrintMore
set_option maxHeartbeats 8000000
set_option maxRecDepth 100000
attribute [local go_sem] max2_int min2_int max_two min_two max_three min_three max_four min_four   -- for this text's walks alone
set_option linter.unusedVariables false
set_option linter.unusedSimpArgs false
attribute [local go_sem] isSome_setCell
def spec_l1Copy.f (l0 : List Int) : Option (List Int) := (some (([] : List Int) : List Int)).bind fun y127 => (if y127.length + l0.length < 140737488355328 then (some (y127 ++ l0)) else (none))
theorem spec_l1Copy.calls (A0 : Option Addr) (c0 : Nat) (l0 : List Int) (r : List Int) (w : World) (hr0 : Kd.C (Kd.int .u8) w A0 l0.length l0) (hc0 : l0.length ≤ c0) (h : spec_l1Copy.f l0 = some r) :
  Calls Try.prog 63 #[.slice A0 l0.length c0] w fun e w' => ∃ v0_ : Value, e = .returned (v0_) ∧ Kd.R (Kd.int .u8) 5 w' w.heap.size (fun _ => True) v0_ r ∧ Below w.heap.size w w' := by
 have HR0 := A_ hr0
 have HC0 := A_ hc0
 clear hr0 hc0
 have HB := A_ (Below.refl w.heap.size w)
 have H : ((some (([] : List Int) : List Int)).bind fun y127 => (if y127.length + l0.length < 140737488355328 then (some (y127 ++ l0)) else (none))) = some r := h
 clear h
 obtain ⟨y127, hy127⟩ : ∃ y_ : List Int, y_ = (([] : List Int)) := ⟨_, rfl⟩
 replace H : (if y127.length + l0.length < 140737488355328 then (some (y127 ++ l0)) else (none)) = some r := by first | (rw [hy127]; with_reducible exact H) | (have H2_ := os_ H; rw [hy127]; with_reducible exact H2_) | (have H2_ := os_ H; with_reducible exact H2_) | with_reducible exact H | (rw [hy127]; exact H) | exact H
 have Ny127 := A_ hy127
 clear hy127
 by_cases c2 : y127.length + l0.length < 140737488355328
 rotate_left
 · rw [if_neg c2] at H; exact absurd H (by simp)
 rw [if_pos c2] at H; have LMc2 := A_ c2; clear c2; obtain ⟨y130, hy130⟩ : ∃ y_ : List Int, y_ = (y127 ++ l0) := ⟨_, rfl⟩; replace H : (some y130) = some r := by first | (rw [hy130]; with_reducible exact H) | (have H2_ := os_ H; rw [hy130]; with_reducible exact H2_) | (have H2_ := os_ H; with_reducible exact H2_) | with_reducible exact H | (rw [hy130]; exact H) | exact H
 have Ny130 := A_ hy130; clear hy130; obtain rfl := Option.some.inj H
 go_enter Try.func63, Try.ntmps63
 go_wp2_with (first | ((with_reducible refine gate_dst (N := 3) rfl ?_); refine Kd.R_lit (Kd.int .u8) _ 5 ?hg (N := 3) ?hd (xs := ([] : List Int)) (inner := []) (ok := fun _ => True) (okp := fun _ => True) ?hr ?hp (fun _ hk => hk) trivial (Below.refl _ _) (Nat.le_refl _) (by simp) ?_; (case hd => rfl); (case hg => rfl); (case hr => go_simp <;> rfl); (case hp => exact (Reps.none _ _)); intro v128 w3 ho4 hb hg_ hnew_; clear hg_ hnew_; (first | rw [← Ny127.out] at ho4 | (simp only [Int.reduceToNat] at ho4; rw [← Ny127.out] at ho4)); have HO129 := A_ (Kd.R_lower ho4 (below_size below_a)); replace HB := bs_ hb; clear hb ho4) | ((with_reducible refine gate_builtin (b := .append) (xs := #[.tmp 3, .tmp 4]) rfl ?_); at_builtin; refine Kd.R_append_rows (Kd.int .u8) (w0 := w) w.heap.size rfl (.tmp 3) (.tmp 4) 25 5 (.int .u8 0) 1 rfl Try.underlying25 info5 rfl (by decide) (by omega) v128 y127 l0 _ _ _ (fun _ => True) (fun _ => False) rfl rfl ?aO ?aR (fun _ _ h => h) (fun _ h => h.elim) ?aF ?aB ?aS ?aL ?_; (case aR => exact ca_ (Kd.C_below HR0.out HB.out)); (case aB => exact below_a); (case aF => exact (fun _ _ => trivial)); (case aO => exact (R_a HO129.out)); (case aS => exact (below_size below_a)); (case aL => have := LMc2.out; omega); intro v131 w5 ho hb hg hat; rw [← Ny130.out] at ho; replace HB := A_ (hb); have HO132 := A_ (ho); clear HO129; clear ho hb hg hat))
 go_ret
 exact ⟨_, eq_a, R_a HO132.out, below_a⟩
def spec_l3First.f (l0 : List Int) : Option (List Int) := (spec_l1Copy.f l0).bind fun t133 => ((some (([0, 0, 0, 1] : List Int) : List Int)).bind fun y136 => (if t133.length + y136.length < 140737488355328 then (some (t133 ++ y136)) else (none)))
theorem spec_l3First.calls (A0 : Option Addr) (c0 : Nat) (l0 : List Int) (r : List Int) (w : World) (hr0 : Kd.C (Kd.int .u8) w A0 l0.length l0) (hc0 : l0.length ≤ c0) (h : spec_l3First.f l0 = some r) :
  Calls Try.prog 78 #[.slice A0 l0.length c0] w fun e w' => ∃ v0_ : Value, e = .returned (v0_) ∧ Kd.R (Kd.int .u8) 5 w' w.heap.size (fun _ => True) v0_ r ∧ Below w.heap.size w w' := by
 have HR0 := A_ hr0
 have HC0 := A_ hc0
 clear hr0 hc0
 have HB := A_ (Below.refl w.heap.size w)
 have H : ((spec_l1Copy.f l0).bind fun t133 => ((some (([0, 0, 0, 1] : List Int) : List Int)).bind fun y136 => (if t133.length + y136.length < 140737488355328 then (some (t133 ++ y136)) else (none)))) = some r := h
 clear h
 obtain ⟨t133, A20, H⟩ := bi_ H
 (try dsimp only at H)
 have A2 := A_ A20
 clear A20
 obtain ⟨y136, hy136⟩ : ∃ y_ : List Int, y_ = (([0, 0, 0, 1] : List Int)) := ⟨_, rfl⟩
 replace H : (if t133.length + y136.length < 140737488355328 then (some (t133 ++ y136)) else (none)) = some r := by first | (rw [hy136]; with_reducible exact H) | (have H2_ := os_ H; rw [hy136]; with_reducible exact H2_) | (have H2_ := os_ H; with_reducible exact H2_) | with_reducible exact H | (rw [hy136]; exact H) | exact H
 have Ny136 := A_ hy136
 clear hy136
 by_cases c3 : t133.length + y136.length < 140737488355328
 rotate_left
 · rw [if_neg c3] at H; exact absurd H (by simp)
 rw [if_pos c3] at H; have LMc3 := A_ c3; clear c3; obtain ⟨y139, hy139⟩ : ∃ y_ : List Int, y_ = (t133 ++ y136) := ⟨_, rfl⟩; replace H : (some y139) = some r := by first | (rw [hy139]; with_reducible exact H) | (have H2_ := os_ H; rw [hy139]; with_reducible exact H2_) | (have H2_ := os_ H; with_reducible exact H2_) | with_reducible exact H | (rw [hy139]; exact H) | exact H
 have Ny139 := A_ hy139; clear hy139; obtain rfl := Option.some.inj H
 go_enter Try.func78, Try.ntmps78
 go_wp2_with (first | ((with_reducible refine gate_callee (f := 63) rfl ?_); refine goesL_ (some 4) rfl rfl Try.func63 (by kernel_rfl) rfl #[.slice A0 l0.length c0] rfl args_a ?_; (with_reducible refine (spec_l1Copy.calls _ _ l0 t133 _ ?side1 ?side2 A2.out).mono ?_); (case side1 => exact ca_ HR0.out); (case side2 => exact HC0.out); rintro e w4 ⟨v134, rfl, ho0, hb⟩; refine ⟨_, rfl, ?_⟩; have HO135 := A_ (Kd.R_lower ho0 (below_size below_a)); replace HB := bs_ hb; (try clear hb ho0)) | ((with_reducible refine gate_dst (N := 5) rfl ?_); refine Kd.R_lit (Kd.int .u8) _ 5 ?hg (N := 5) ?hd (xs := ([0, 0, 0, 1] : List Int)) (inner := [.int .u8 0, .int .u8 0, .int .u8 0, .int .u8 1]) (ok := fun _ => True) (okp := fun _ => True) ?hr ?hp (fun _ hk => hk) trivial (Below.refl _ _) (Nat.le_refl _) (by simp) ?_; (case hd => rfl); (case hg => rfl); (case hr => go_simp <;> rfl); (case hp => exact (Reps.one (show Kd.M (Kd.int .u8) _ _ _ 0 [.int .u8 0] from rfl) (Reps.one (show Kd.M (Kd.int .u8) _ _ _ 0 [.int .u8 0] from rfl) (Reps.one (show Kd.M (Kd.int .u8) _ _ _ 0 [.int .u8 0] from rfl) (Reps.one (show Kd.M (Kd.int .u8) _ _ _ 1 [.int .u8 1] from rfl) (Reps.none _ _)))))); intro v137 w5 ho6 hb hg_ hnew_; clear hg_ hnew_; (first | rw [← Ny136.out] at ho6 | (simp only [Int.reduceToNat] at ho6; rw [← Ny136.out] at ho6)); have n0_ := re_ HO135 hb (Kd.R_base ho6); have HO138 := A_ (Kd.R_lower (Kd.R_new' ho6 (Kd.R_lt (R_a HO135.out))) (below_size below_a)); replace HB := bs_ hb; replace HO135 := n0_; clear n0_; clear hb ho6; obtain ⟨Ao8, co8, eo8⟩ := Kd.R_slice HO138.out; subst eo8) | ((with_reducible refine gate_builtin (b := .append) (xs := #[.tmp 4, .tmp 5]) rfl ?_); at_builtin; refine Kd.R_append_rows (Kd.int .u8) (w0 := w) w.heap.size rfl (.tmp 4) (.tmp 5) 25 5 (.int .u8 0) 1 rfl Try.underlying25 info5 rfl (by decide) (by omega) v134 t133 y136 _ _ _ (fun k_ => some k_ ≠ (.slice Ao8 y136.length co8 : Value).ownBlock) (fun _ => False) rfl rfl ?aO ?aR (fun _ _ h => h) (fun _ h => h.elim) ?aF ?aB ?aS ?aL ?_; (case aR => exact ca_ ((Kd.R_reads' HO138.out).2.2)); (case aB => exact below_a); (case aF => exact (fun k_ hk => Kd.fresh' (Kd.R_lt (R_a HO138.out)) k_ hk)); (case aO => exact (by (with_reducible repeat (first | apply Kd.R_alloc | apply Kd.R_drewN | apply Kd.R_drew)); exact Kd.R_mono HO135.out (fun _ hk => hk.2))); (case aS => exact (below_size below_a)); (case aL => have := LMc3.out; omega); intro v140 w7 ho hb hg hat; rw [← Ny139.out] at ho; replace HO138 := A_ (Kd.R_after (ok := (fun _ => True)) (R_a HO138.out) hg hat); replace HB := A_ (hb); have HO141 := A_ (ho); clear HO135; clear ho hb hg hat))
 go_ret
 exact ⟨_, eq_a, by (with_reducible repeat (first | apply Kd.R_alloc | apply Kd.R_drewN | apply Kd.R_drew)); exact Kd.R_mono HO141.out (fun _ hk => trivial), below_a⟩
def spec_l1Pack.l0 : Nat → Int → List Int → Int → Option (List Int)
 | 0, _, _, _ => none
 | k + 1, x0, x5, x6 => if x6 ≥ 0 then (if 0 ≤ x6 then (if x6 < (x5.length : Int) then (spec_l1Pack.l0 k (wrap64 (Int.tdiv x0 256)) (x5.set (x6 : Int).toNat ((Int.tmod x0 256) % 256)) (wrap64 (x6 - 1))) else (none)) else (none)) else (some x5)
def spec_l1Pack.f (k : Nat) (a0 : Int) (a1 : Int) : Option (List Int) := if 0 ≤ a1 then (if (a1 : Int).toNat ≤ 281474976710656 then (spec_l1Pack.l0 k a0 (List.replicate (a1 : Int).toNat 0) (wrap64 (a1 - 1))) else (none)) else (none)
theorem spec_l1Pack.calls (k : Nat) (a0 : Int) (a1 : Int) (r : List Int) (w : World) (h : spec_l1Pack.f k a0 a1 = some r) :
  Calls Try.prog 79 #[.int .i64 a0, .int .i64 a1] w fun e w' => ∃ v0_ : Value, e = .returned (v0_) ∧ Kd.R (Kd.int .u8) 5 w' w.heap.size (fun _ => True) v0_ r ∧ Below w.heap.size w w' := by
 have HB := A_ (Below.refl w.heap.size w)
 have H : (if 0 ≤ a1 then (if (a1 : Int).toNat ≤ 281474976710656 then (spec_l1Pack.l0 k a0 (List.replicate (a1 : Int).toNat 0) (wrap64 (a1 - 1))) else (none)) else (none)) = some r := h
 clear h
 by_cases c3 : 0 ≤ a1
 rotate_left
 · rw [if_neg c3] at H; exact absurd H (by simp)
 rw [if_pos c3] at H; have c3b0 := eq_true c3; have c3b1 : decide (0 ≤ a1) = true := decide_eq_true c3; clear c3
 by_cases c4 : (a1 : Int).toNat ≤ 281474976710656
 rotate_left
 · rw [if_neg c4] at H; exact absurd H (by simp)
 rw [if_pos c4] at H; have c4b0 := eq_true c4; have c4b1 : decide ((a1 : Int).toNat ≤ 281474976710656) = true := decide_eq_true c4; clear c4; obtain ⟨y142, hy142⟩ : ∃ y_ : List Int, y_ = (List.replicate (a1 : Int).toNat 0) := ⟨_, rfl⟩; replace H : (spec_l1Pack.l0 k a0 y142 (wrap64 (a1 - 1))) = some r := by first | (rw [hy142]; with_reducible exact H) | (have H2_ := os_ H; rw [hy142]; with_reducible exact H2_) | (have H2_ := os_ H; with_reducible exact H2_) | with_reducible exact H | (rw [hy142]; exact H) | exact H
 have Ny142 := A_ hy142; clear hy142; have H' := A_ H; clear H
 go_enter Try.func79, Try.ntmps79
 go_wp2_with (first | ((with_reducible refine gate_dst (N := 8) rfl ?_); refine Kd.R_make (Kd.int .u8) _ 5 rfl (N := 8) rfl 25 _ _ rfl a1 rfl rfl Try.underlying25 (.int .u8 0) 1 info5 rfl (by decide) (by omega) 0 (ok := fun _ => True) (okp := fun _ => True) rfl (fun _ hk => hk) trivial od_ (Nat.le_trans (Nat.mul_le_mul_right _ (od_ : a1.toNat ≤ 281474976710656)) (by omega)) (Below.refl _ _) (Nat.le_refl _) ?_; intro v143 w5 ho6 hb hg_ hnew_; clear hg_ hnew_; (first | rw [← Ny142.out] at ho6 | (simp only [Int.reduceToNat] at ho6; rw [← Ny142.out] at ho6)); have HO144 := A_ (Kd.R_lower ho6 (below_size below_a)); replace HB := bs_ hb; clear hb ho6))
 go_loopg [0, 6] k (fun kq v0 v6 w' => ∃ (x0_1 : Int) (x5_1 : List Int) (x6_1 : Int), v0 = .int .i64 x0_1 ∧ v6 = .int .i64 x6_1 ∧ Aside0 (spec_l1Pack.l0 kq x0_1 x5_1 x6_1 = some r) ∧ Aside0 (kq ≤ k) ∧ Aside0 (Kd.R (Kd.int .u8) 5 w' w.heap.size (fun _ => True) v143 x5_1) ∧ Aside0 (Below w.heap.size w w'))
 case atStart => exact ⟨(a0), (y142), (wrap64 (a1 - 1)), eq_b, eq_b, H', ⟨Nat.le_refl _⟩, ⟨R_a HO144.out⟩, ⟨below_a⟩⟩
 case round =>
  clear H'
  try clear p2
  try clear c3 c3b0 c3b1
  try clear c4 c4b0 c4b1
  try clear p6
  obtain ⟨x0_1, x5_1, x6_1, rfl, rfl, HA, HK1, HO_5, HB⟩ := hrel
  cases gk with
  | zero => exact absurd HA.out (by simp [spec_l1Pack.l0])
  | succ k1 =>
   have H := HA.out; clear HA; simp only [spec_l1Pack.l0] at H
   by_cases c7 : x6_1 ≥ 0
   ·
    rw [if_pos c7] at H; have c7b0 : decide (0 ≤ x6_1) = true := decide_eq_true c7; clear c7
    by_cases c8 : 0 ≤ x6_1
    rotate_left
    · rw [if_neg c8] at H; exact absurd H (by simp)
    rw [if_pos c8] at H; have c8b0 : decide (0 ≤ x6_1) = true := decide_eq_true c8; clear c8
    by_cases c9 : x6_1 < (x5_1.length : Int)
    rotate_left
    · rw [if_neg c9] at H; exact absurd H (by simp)
    rw [if_pos c9] at H; have c9b0 : decide (x6_1 < (x5_1.length : Int)) = true := decide_eq_true c9; clear c9; obtain ⟨y145, hy145⟩ : ∃ y_ : List Int, y_ = (x5_1.set (x6_1 : Int).toNat ((Int.tmod x0_1 256) % 256)) := ⟨_, rfl⟩; replace H : (spec_l1Pack.l0 k1 (wrap64 (Int.tdiv x0_1 256)) y145 (wrap64 (x6_1 - 1))) = some r := by first | (rw [hy145]; with_reducible exact H) | (have H2_ := os_ H; rw [hy145]; with_reducible exact H2_) | (have H2_ := os_ H; with_reducible exact H2_) | with_reducible exact H | (rw [hy145]; exact H) | exact H
    have Ny145 := A_ hy145; clear hy145; have H' := A_ H; clear H; have p10 : 0 ≤ (x6_1 : Int) := od_; have q10 : (x6_1 : Int) < ((x5_1.length : Int) : Int) := od_; obtain ⟨go10, co10, eo10, gb10, gl10, cl10, HG10⟩ := Kd.R_form HO_5.out (by omega); (first | cases eo10 | (injection eo10 with ea_ en_ ec_; (first | subst ea_ | (injection ea_ with ea_; subst ea_)); subst ec_; clear en_)); have GB10 := A_ gb10; have GG10 := A_ HG10; clear gb10 gl10 HG10; obtain ⟨hx10_0, hf10_0⟩ := Kd.R_celln 0 HO_5.out (x6_1 : Int) p10 q10; replace p10 := eq_true p10; replace q10 := eq_true q10; have HP11 := Kd.R_putg HO_5.out (x6_1 : Int) ((Int.tmod x0_1 256) % 256)
    go_wp2_with (first | ((with_reducible refine gate_store (t := 5) (p := 20) rfl ?_); refine store_event (t := 5) (p := 20) (v := ?vo_w12) (w1 := (wr.setCell ⟨go10, (x6_1 : Int).toNat, none⟩ (.int .u8 ((Int.tmod x0_1 256) % 256)))) ?hg ?ho ?hn ?hr ?_; (case ho => rfl); (case hg => rfl); (case hn => rfl); (case hr => go_simp <;> rfl); intro w12 hw; have hg : wr.grownBy w12 (some go10) := (by rw [hw]; exact HP11.2); have hp_ : Kd.R (Kd.int .u8) 5 w12 w.heap.size (fun _ => True) (.slice (some ⟨go10, 0, none⟩) x5_1.length co10) y145 := (by rw [hw, Ny145.out]; exact HP11.1); clear HP11; replace HO_5 := A_ (hp_); replace HB := A_ ((by rw [hw]; exact below_set (HB.out) GB10.out : Below w.heap.size w w12)); clear hg hw hp_))
    go_roundg k1
    case measure => have := HK1.out; omega
    case rel => exact ⟨(wrap64 (Int.tdiv x0_1 256)), (y145), (wrap64 (x6_1 - 1)), eq_b, eq_b, H', ⟨by have := HK1.out; omega⟩, ⟨R_a HO_5.out⟩, ⟨below_a⟩⟩
   ·
    rw [if_neg c7] at H; have c7b0 : decide (0 ≤ x6_1) = false := decide_eq_false c7; clear c7; obtain rfl := Option.some.inj H
    go_wp2
    go_ret
    exact ⟨_, eq_a, R_a HO_5.out, below_a⟩
theorem hi112 : (Try.prog.info? 112).map (·.size) = some 16 := by kernel_rfl
def syf (x : List Int) : Nat → Int := fun j => sbx (rd x (((j : Int) + 4 * ((j : Int) % 4)) % 16))
def syv (x : List Int) : List Int := (List.range 16).map (syf x)
def nxf (ks y : List Int) (r : Int) : Nat → Int := fun j => let c := (j : Int) / 4 * 4; let i := (j : Int) % 4
  if r < 10 then xr (xr (xr (rd y j) (rd ks (16 * r + j))) (xr (xr (xr (rd y c) (rd y (c + 1))) (rd y (c + 2))) (rd y (c + 3)))) (dbl (xr (rd y j) (rd y (c + (i + 1) % 4)))) else xr (rd y j) (rd ks (16 * r + j))
theorem C_blk {W : World} {g t n : Nat} {l : List Int} (h : W.heap[g]? = some (.cells (ub l) t (0, 0))) (hn : l.length = n) (hm : n ≤ 9223372036854775807) : Kd.C (Kd.int .u8) W (some ⟨g, 0, none⟩) n l := by
  refine Kd.C_of_reads (d := (0 : Int)) ⟨hn, hm, fun _ => ⟨_, rfl, fun j hj => ?_⟩⟩
  have e : (Addr.add ⟨g, 0, none⟩ j) = ⟨g, j, none⟩ := by
    by_cases hj0 : j = 0
    · subst hj0; rfl
    · simp [Addr.add, hj0]
  rw [e, blk_cell h, ub_get _ _ (by omega), List.getD_eq_getElem?_getD, List.getElem?_eq_getElem (by omega)]
  rfl
theorem R_blk0 {w : World} {g base : Nat} {ok : Nat → Prop} (h : w.heap[g]? = some (.cells (ub []) 5 (0, 0))) (hb : base ≤ g) (hok : ok g) : Kd.R (Kd.int .u8) 5 w base ok (.slice (some ⟨g, 0, none⟩) 0 0) [] := by
  refine Kd.R_of_own ?_ (fun k hk => ?_)
  · exact ⟨rfl, .inr ⟨g, 0, ub [], rfl, hb, h, Nat.le_refl _, Nat.zero_le _, rfl, rfl⟩⟩
  · injection hk with hk
    subst hk
    exact hok
theorem set_cell {W : World} {g t i : Nat} {l : List Int} {v : Int} (h : W.heap[g]? = some (.cells (ub (l.set i v)) t (0, 0))) (hi : i < l.length) : W.cell? ⟨g, i, none⟩ = some (.int .u8 v) := by
  rw [blk_cell h, ub_get _ _ (by rw [List.length_set]; exact hi), List.getElem_set_self]
theorem mix_cast {W : World} {g t i i' : Nat} {f : Nat → Int} {X L : List Int} {v : Int} (h : W.heap[g]? = some (.cells (ub (L.set i v)) t (0, 0))) (hi : i < X.length) (he : i' = i + 1) (hv : f i = v) (hL : L = mixTo f X i ∨ ∃ u, L = (mixTo f X i).set i u) : W.heap[g]? = some (.cells (ub (mixTo f X i')) t (0, 0)) := by
  subst he
  rw [← mix_succ f X i hi, hv]
  rcases hL with rfl | ⟨u, rfl⟩
  · exact h
  · rwa [List.set_set] at h
theorem nxf_at (ks y : List Int) (r c : Int) (h0 : 0 ≤ c) (h4 : c % 4 = 0) (i : Int) (hi0 : 0 ≤ i) (hi : i < 4) : nxf ks y r (c + i).toNat = if r < 10 then xr (xr (xr (rd y (c + i)) (rd ks (16 * r + c + i))) (xr (xr (xr (rd y c) (rd y (c + 1))) (rd y (c + 2))) (rd y (c + 3)))) (dbl (xr (rd y (c + i)) (rd y (c + (i + 1) % 4)))) else xr (rd y (c + i)) (rd ks (16 * r + c + i)) := by
  have e0 : (((c + i).toNat : Nat) : Int) = c + i := by omega
  have e1 : (c + i) / 4 * 4 = c := by omega
  have e2 : (c + i) % 4 = i := by omega
  simp only [nxf, e0, e1, e2, ← Int.add_assoc]
def nxv (ks y : List Int) (r : Int) : List Int := (List.range 16).map (nxf ks y r)
def sencr (ks l : List Int) : Nat → List Int
  | 0 => addv ks l 0
  | n + 1 => nxv ks (syv (sencr ks l n)) ((n + 1 : Nat) : Int)
def sencv (ks l : List Int) : List Int := sencr ks l 10
theorem syv_len (x : List Int) : (syv x).length = 16 := by simp [syv]
theorem sencr_len (ks l : List Int) (n : Nat) : (sencr ks l n).length = 16 := by cases n <;> simp [sencr, addv, nxv]
theorem nxv_byte (ks y : List Int) (r : Int) : ∀ x ∈ nxv ks y r, 0 ≤ x ∧ x ≤ 255 := by
  intro x hx
  obtain ⟨j, _, rfl⟩ := List.mem_map.1 hx
  unfold nxf
  dsimp only
  split <;> exact xr_byte _ _
theorem sencr_byte (ks l : List Int) (n : Nat) : ∀ x ∈ sencr ks l n, 0 ≤ x ∧ x ≤ 255 := by
  cases n
  · exact addv_byte _ _ _
  · exact nxv_byte _ _ _
theorem senc99 (A : Option Addr) (c : Nat) (A2 : Option Addr) (c2 : Nat) (ks l : List Int) (w : World) (hr : Kd.C (Kd.int .u8) w A ks.length ks) (hr2 : Kd.C (Kd.int .u8) w A2 l.length l) (hk : ks.length = 176) (hl : l.length = 16) : Calls Try.prog 99 #[.slice A ks.length c, .slice A2 l.length c2] w fun e w' => ∃ v, e = .returned v ∧ Kd.R (Kd.int .u8) 5 w' w.heap.size (fun _ => True) v (sencv ks l) ∧ Below w.heap.size w w' := by
  have hu25 := Try.underlying25
  have hu112 := Try.underlying112
  have hz5 := Try.sizeOf5
  have HR := A_ hr
  have HR2 := A_ hr2
  have HK := A_ hk
  have HL := A_ hl
  have HB := A_ (Below.refl w.heap.size w)
  clear hr hr2 hl hk
  go_enter Try.func99, Try.ntmps99
  go_wp2_with (first | ((with_reducible refine gate_dst (N := 13) rfl ?_); refine val_event rfl (.agg (ub (List.replicate 16 0))) ?hr ?_; (case hr => go_simp <;> rfl)) | ((with_reducible refine gate_dst (N := 5) rfl ?_); refine bx_ 5 (ub (List.replicate 16 0)) 112 rfl rfl ?hr ?_; (case hr => have hz := Try.zeroValue112; go_simp <;> rfl); intro gb5 hg wb5 hbox hb; have GW5 := gw_ (w := w) hg; replace HB := hb2_ hb; have BK5 := A_ (hbox); clear hb hbox hg) | ((with_reducible refine gate_store (t := 112) (p := 5) rfl ?_); refine arr_store (cs' := ub (List.replicate 16 0)) rfl rfl rfl rfl rfl BK5.out (hi112.trans (by rw [ub_size, List.length_replicate])) (by rw [ub_size]) (ub_one _) ?_; intro ws112_5 hbs hgs; replace HB := hb6_ HB hgs GW5; replace BK5 := A_ hbs; clear hbs hgs) | ((with_reducible refine gate_dst (N := 14) rfl ?_); refine val_event rfl (.agg (ub (List.replicate 16 0))) ?hr ?_; (case hr => go_simp <;> rfl)) | ((with_reducible refine gate_dst (N := 6) rfl ?_); refine bx_ 6 (ub (List.replicate 16 0)) 112 rfl rfl ?hr ?_; (case hr => have hz := Try.zeroValue112; go_simp <;> rfl); intro gb6 hg wb6 hbox hb; have GW6 := gw_ (w := w) hg; have NE5_6 := hb3_ BK5 hg; replace BK5 := hb1_ BK5 hb; replace HB := hb2_ hb; have BK6 := A_ (hbox); clear hb hbox hg) | ((with_reducible refine gate_store (t := 112) (p := 6) rfl ?_); refine arr_store (cs' := ub (List.replicate 16 0)) rfl rfl rfl rfl rfl BK6.out (hi112.trans (by rw [ub_size, List.length_replicate])) (by rw [ub_size]) (ub_one _) ?_; intro ws112_6 hbs hgs; replace BK5 := hb4_ BK5 hgs NE5_6; replace HB := hb6_ HB hgs GW6; replace BK6 := A_ hbs; clear hbs hgs))
  go_loopg [7] 16 (fun kq v7 w' => ∃ (x : Int), v7 = .int .i64 x ∧ Aside0 (0 ≤ x ∧ x ≤ 16) ∧ Aside0 (kq = 16 - x.toNat) ∧ Aside0 (w'.heap[gb5]? = some (.cells (ub (mixTo (addf ks l 0) (List.replicate 16 0) x.toNat)) 112 (0, 0))) ∧ Aside0 (w'.heap[gb6]? = some (.cells (ub (List.replicate 16 0)) 112 (0, 0))) ∧ Aside0 (Below w.heap.size w w'))
  case atStart => exact ⟨0, eq_b, ⟨by omega⟩, ⟨rfl⟩, ⟨by rw [show (0 : Int).toNat = 0 from rfl, mix_zero]; exact BK5.out⟩, BK6, HB⟩
  case round =>
    clear BK5 BK6 HB
    obtain ⟨x, rfl, HI, HK1, BK5, BK6, HB⟩ := hrel
    by_cases c4 : x < 16
    · have c4b0 : decide (x < 16) = true := decide_eq_true c4
      have HC4 := A_ c4
      obtain ⟨k1, rfl⟩ : ∃ k1, gk = k1 + 1 := ⟨gk - 1, by have := HK1.out; have := HI.out; omega⟩
      obtain ⟨ad, ea, hka⟩ := Kd.at_int (Kd.C_below HR.out HB.out) x HI.out.1 (by have := HK.out; omega)
      obtain ⟨ad2, ea2, hka2⟩ := Kd.at_int (Kd.C_below HR2.out HB.out) x HI.out.1 (by have := HL.out; omega)
      obtain ⟨v0, hlw⟩ : ∃ v0, wr.cell? ⟨gb5, x.toNat, none⟩ = some (.int .u8 v0) := ⟨_, blk_ub BK5.out x HI.out.1 (by rw [mix_len, List.length_replicate]; exact c4)⟩
      have hfr : wr.frozen? ⟨gb5, x.toNat, none⟩ = false := blk_frozen BK5.out _
      subst ea ea2
      have p1 : (0 ≤ x) = True := eq_true HI.out.1
      have q1 : (x < 16) = True := eq_true c4
      have q2 : (x < (ks.length : Int)) = True := eq_true (by have := HK.out; omega)
      have q3 : (x < (l.length : Int)) = True := eq_true (by have := HL.out; omega)
      clear c4
      go_wp2
      refine still_tail_at 11 (by kernel_rfl) (by kernel_rfl) ?_
      intro wq ewq
      have hh : wq.heap = wr.heap := by rw [ewq]; rfl
      replace hka := (cell_of hh _).trans hka
      replace hka2 := (cell_of hh _).trans hka2
      replace hlw := (cell_of hh _).trans hlw
      replace hfr := (frozen_of hh _).trans hfr
      replace HB : Aside0 (Below w.heap.size w wq) := ⟨by rw [ewq]; exact HB.out.drew⟩
      replace BK5 := A_ (heap_of hh BK5.out)
      replace BK6 := A_ (heap_of hh BK6.out)
      clear ewq hh
      simp only [List.take_succ_cons, List.take_zero, List.drop_succ_cons, List.drop_zero]
      repeat still_step
      try refine wpStill_nil ?_
      go_wp2
      go_roundg k1
      case measure => have := HK1.out; omega
      case rel =>
        refine ⟨x + 1, ?_, ⟨?_⟩, ⟨?_⟩, ⟨?_⟩, ⟨?_⟩, ⟨?_⟩⟩
        · have := HI.out; rw [show wrap64 (x + 1) = x + 1 by unfold wrap64; omega]
        · have := HI.out; have := HC4.out; omega
        · have := HK1.out; have := HI.out; omega
        · exact mix_putw BK5.out (by rw [List.length_replicate]; have := HI.out; have := HC4.out; omega) (by have := HI.out; omega) (by rw [addf, show ((x.toNat : Nat) : Int) = x by have := HI.out; omega, show 16 * (0 : Int) + x = x by omega])
        · exact blk_far BK6.out (Ne.symm NE5_6.out) _
        · exact below_set HB.out GW5.out
    · have c4b0 : decide (x < 16) = false := decide_eq_false c4
      have hx : x = 16 := by have := HI.out; omega
      subst hx
      replace BK5 := A_ (show wr.heap[gb5]? = some (.cells (ub (sencr ks l 0)) 112 (0, 0)) from (by have := BK5.out; rwa [mix_all (addf ks l 0) _ (16 : Int).toNat (by rw [List.length_replicate]; rfl)] at this))
      clear c4
      go_wp2
      go_loopg [8] 10 (fun kq v8 w' => ∃ (r : Int) (yl : List Int), v8 = .int .i64 r ∧ Aside0 (1 ≤ r ∧ r ≤ 11) ∧ Aside0 (kq = 11 - r.toNat) ∧ Aside0 (yl.length = 16) ∧ Aside0 (w'.heap[gb5]? = some (.cells (ub (sencr ks l (r.toNat - 1))) 112 (0, 0))) ∧ Aside0 (w'.heap[gb6]? = some (.cells (ub yl) 112 (0, 0))) ∧ Aside0 (Below w.heap.size w w'))
      case atStart => exact ⟨1, _, eq_b, ⟨by omega⟩, ⟨rfl⟩, ⟨rfl⟩, BK5, BK6, HB⟩
      case round =>
        clear BK5 BK6 HB
        obtain ⟨r, yl, rfl, HR1, HK2, HYL, BK5, BK6, HB⟩ := hrel
        by_cases c5 : r ≤ 10
        · have c5b0 : decide (r ≤ 10) = true := decide_eq_true c5
          have HC5 := A_ c5
          have HXL := A_ (sencr_len ks l (r.toNat - 1))
          have HXY := A_ (sencr_byte ks l (r.toNat - 1))
          have HNX := A_ (show nxv ks (syv (sencr ks l (r.toNat - 1))) r = sencr ks l r.toNat by
            obtain ⟨n, hn⟩ : ∃ n, r.toNat = n + 1 := ⟨r.toNat - 1, by have := HR1.out; omega⟩
            rw [hn, Nat.add_sub_cancel, sencr, ← hn, Int.toNat_of_nonneg (by have := HR1.out; omega)])
          generalize sencr ks l (r.toNat - 1) = X at BK5 HXL HXY HNX
          obtain ⟨k2, rfl⟩ : ∃ k2, gk = k2 + 1 := ⟨gk - 1, by have := HK2.out; have := HR1.out; have := HC5.out; omega⟩
          clear c5
          go_wp2
          go_loopg [9] 16 (fun kq v9 w' => ∃ (i : Int), v9 = .int .i64 i ∧ Aside0 (0 ≤ i ∧ i ≤ 16) ∧ Aside0 (kq = 16 - i.toNat) ∧ Aside0 (w'.heap[gb6]? = some (.cells (ub (mixTo (syf X) yl i.toNat)) 112 (0, 0))) ∧ Aside0 (w'.heap[gb5]? = some (.cells (ub X) 112 (0, 0))) ∧ Aside0 (Below w.heap.size w w'))
          case atStart => exact ⟨0, eq_b, ⟨by omega⟩, ⟨rfl⟩, ⟨by rw [show (0 : Int).toNat = 0 from rfl, mix_zero]; exact BK6.out⟩, BK5, HB⟩
          case round =>
            clear BK5 BK6 HB
            obtain ⟨i, rfl, HI, HK3, BK6, BK5, HB⟩ := hrel
            by_cases c6 : i < 16
            · have c6b0 : decide (i < 16) = true := decide_eq_true c6
              have HC6 := A_ c6
              obtain ⟨k3, rfl⟩ : ∃ k3, gk = k3 + 1 := ⟨gk - 1, by have := HK3.out; have := HI.out; omega⟩
              have hlx : wr.cell? ⟨gb5, ((i + 4 * (i % 4)) % 16).toNat, none⟩ = some (.int .u8 (rd X ((i + 4 * (i % 4)) % 16))) := blk_ub BK5.out _ (by omega) (by rw [HXL.out]; omega)
              have hbx := A_ (rd_byte HXY.out ((i + 4 * (i % 4)) % 16) (by omega) (by rw [HXL.out]; omega))
              have HST := A_ (show syf X i.toNat = sbx (rd X ((i + 4 * (i % 4)) % 16)) by rw [syf, show ((i.toNat : Nat) : Int) = i by have := HI.out; omega])
              have HLT := A_ (show i.toNat < yl.length by rw [HYL.out]; have := HI.out; omega)
              have p1 : (0 ≤ i) = True := eq_true HI.out.1
              have q1 : (i < 16) = True := eq_true c6
              have p2 : (0 ≤ (i + 4 * (i % 4)) % 16) = True := eq_true (by omega)
              have q2 : ((i + 4 * (i % 4)) % 16 < 16) = True := eq_true (by omega)
              have hw := A_ (show wrap64 (i + 1) = i + 1 by have := HI.out; unfold wrap64; omega)
              have e1 : i.tmod 4 = i % 4 := Int.tmod_eq_emod_of_nonneg HI.out.1
              have e4 : (i + 4 * (i % 4)).tmod 16 = (i + 4 * (i % 4)) % 16 := Int.tmod_eq_emod_of_nonneg (by have := HI.out; omega)
              have e2 : wrap64 (4 * (i % 4)) = 4 * (i % 4) := by unfold wrap64; omega
              have e3 : wrap64 (i + 4 * (i % 4)) = i + 4 * (i % 4) := by have := HI.out; unfold wrap64; omega
              clear c6
              go_wp2_with (first | (go_at_call 97; (with_reducible refine (sub97_same _ hbx.out.1 hbx.out.2 _).mono ?_); rintro e ws ⟨rfl, rfl⟩) | ((with_reducible refine gate_store (t := 5) (p := 48) rfl ?_); refine el_store rfl rfl rfl rfl rfl BK6.out (by rw [mix_len]; exact HLT.out) ?_; intro we6 hbs hgs; replace BK5 := hb4_ BK5 hgs NE5_6; replace HB := hb6_ HB hgs GW6; replace BK6 := A_ hbs; clear hbs hgs))
              go_roundg k3
              case measure => have := HK3.out; omega
              case rel =>
                refine ⟨i + 1, ?_, ⟨?_⟩, ⟨?_⟩, ⟨?_⟩, BK5, HB⟩
                · rw [hw.out]
                · have := HI.out; have := HC6.out; omega
                · have := HK3.out; have := HI.out; omega
                · rw [show (i + 1).toNat = i.toNat + 1 by have := HI.out; omega, ← mix_succ _ _ _ HLT.out, HST.out]
                  exact BK6.out
            · have c6b0 : decide (i < 16) = false := decide_eq_false c6
              have hx : i = 16 := by have := HI.out; omega
              subst hx
              replace BK6 := A_ (show wr.heap[gb6]? = some (.cells (ub (syv X)) 112 (0, 0)) from (by have := BK6.out; rwa [mix_all (syf X) _ (16 : Int).toNat HYL.out] at this))
              have HYY := A_ (syv_len X)
              clear c6
              generalize syv X = Y at BK6 HNX HYY
              go_wp2
              go_loopg [10] 4 (fun kq v10 w' => ∃ (c0 : Int), v10 = .int .i64 c0 ∧ Aside0 (0 ≤ c0 ∧ c0 ≤ 16 ∧ c0 % 4 = 0) ∧ Aside0 (kq = 4 - (c0 / 4).toNat) ∧ Aside0 (w'.heap[gb5]? = some (.cells (ub (mixTo (nxf ks Y r) X c0.toNat)) 112 (0, 0))) ∧ Aside0 (w'.heap[gb6]? = some (.cells (ub Y) 112 (0, 0))) ∧ Aside0 (Below w.heap.size w w'))
              case atStart => exact ⟨0, eq_b, ⟨by omega⟩, ⟨rfl⟩, ⟨by rw [show (0 : Int).toNat = 0 from rfl, mix_zero]; exact BK5.out⟩, BK6, HB⟩
              case round =>
                clear BK5 BK6 HB
                obtain ⟨c0, rfl, HC, HK4, BK5, BK6, HB⟩ := hrel
                by_cases c7 : c0 < 16
                · have c7b0 : decide (c0 < 16) = true := decide_eq_true c7
                  have HC7 := A_ c7
                  obtain ⟨k4, rfl⟩ : ∃ k4, gk = k4 + 1 := ⟨gk - 1, by have := HK4.out; have := HC.out; have := HC7.out; omega⟩
                  clear c7
                  have y0 : wr.cell? ⟨gb6, (c0 + 0).toNat, none⟩ = some (.int .u8 (rd Y (c0 + 0))) := blk_ub BK6.out _ (by have := HC.out; omega) (by rw [HYY.out]; have := HC.out; have := HC7.out; omega)
                  have y1 : wr.cell? ⟨gb6, (c0 + 1).toNat, none⟩ = some (.int .u8 (rd Y (c0 + 1))) := blk_ub BK6.out _ (by have := HC.out; omega) (by rw [HYY.out]; have := HC.out; have := HC7.out; omega)
                  have y2 : wr.cell? ⟨gb6, (c0 + 2).toNat, none⟩ = some (.int .u8 (rd Y (c0 + 2))) := blk_ub BK6.out _ (by have := HC.out; omega) (by rw [HYY.out]; have := HC.out; have := HC7.out; omega)
                  have y3 : wr.cell? ⟨gb6, (c0 + 3).toNat, none⟩ = some (.int .u8 (rd Y (c0 + 3))) := blk_ub BK6.out _ (by have := HC.out; omega) (by rw [HYY.out]; have := HC.out; have := HC7.out; omega)
                  simp only [Int.add_zero] at y0
                  have w1 : wrap64 (c0 + 1) = c0 + 1 := by have := HC.out; unfold wrap64; omega
                  have j1 : IntKind.i64.wrap (c0 + 1) = c0 + 1 := by rw [IntKind.wrap_i64]; unfold wrap64 at w1; exact w1
                  have pp1 : (0 ≤ c0 + 1) = True := eq_true (by have := HC.out; omega)
                  have qq1 : (c0 + 1 < 16) = True := eq_true (by have := HC.out; have := HC7.out; omega)
                  have w2 : wrap64 (c0 + 2) = c0 + 2 := by have := HC.out; unfold wrap64; omega
                  have j2 : IntKind.i64.wrap (c0 + 2) = c0 + 2 := by rw [IntKind.wrap_i64]; unfold wrap64 at w2; exact w2
                  have pp2 : (0 ≤ c0 + 2) = True := eq_true (by have := HC.out; omega)
                  have qq2 : (c0 + 2 < 16) = True := eq_true (by have := HC.out; have := HC7.out; omega)
                  have w3 : wrap64 (c0 + 3) = c0 + 3 := by have := HC.out; unfold wrap64; omega
                  have j3 : IntKind.i64.wrap (c0 + 3) = c0 + 3 := by rw [IntKind.wrap_i64]; unfold wrap64 at w3; exact w3
                  have pp3 : (0 ≤ c0 + 3) = True := eq_true (by have := HC.out; omega)
                  have qq3 : (c0 + 3 < 16) = True := eq_true (by have := HC.out; have := HC7.out; omega)
                  have pp0 : (0 ≤ c0) = True := eq_true HC.out.1
                  have qq0 : (c0 < 16) = True := eq_true HC7.out
                  go_wp2
                  go_quiet (fail)
                  replace HB : Aside0 (Below w.heap.size w (wr.drewN nq)) := ⟨pw_below_drewN HB.out _⟩
                  replace BK5 : Aside0 ((wr.drewN nq).heap[gb5]? = _) := BK5
                  replace BK6 : Aside0 ((wr.drewN nq).heap[gb6]? = _) := BK6
                  generalize wr.drewN nq = wq at HB BK5 BK6 ⊢
                  clear w1 w2 w3 j1 j2 j3 y0 y1 y2 y3 pp0 pp1 pp2 pp3 qq0 qq1 qq2 qq3
                  go_wp2
                  go_loopg [12] 4 (fun kq v12 w' => ∃ (i : Int), v12 = .int .i64 i ∧ Aside0 (0 ≤ i ∧ i ≤ 4) ∧ Aside0 (kq = 4 - i.toNat) ∧ Aside0 (w'.heap[gb5]? = some (.cells (ub (mixTo (nxf ks Y r) X (c0 + i).toNat)) 112 (0, 0))) ∧ Aside0 (w'.heap[gb6]? = some (.cells (ub Y) 112 (0, 0))) ∧ Aside0 (Below w.heap.size w w'))
                  case atStart => exact ⟨0, eq_b, ⟨by omega⟩, ⟨rfl⟩, ⟨by rw [Int.add_zero]; exact BK5.out⟩, BK6, HB⟩
                  case round =>
                    clear BK5 BK6 HB
                    obtain ⟨i, rfl, HJ, HK5, BK5, BK6, HB⟩ := hrel
                    by_cases c8 : i < 4
                    · have HC8 := A_ c8
                      obtain ⟨k5, rfl⟩ : ∃ k5, gk = k5 + 1 := ⟨gk - 1, by have := HK5.out; have := HJ.out; have := HC8.out; omega⟩
                      obtain ⟨ad, ea, hka⟩ := Kd.at_int (Kd.C_below HR.out HB.out) (16 * r + c0 + i) (by have := HR1.out; have := HC.out; have := HJ.out; omega) (by have := HK.out; have := HR1.out; have := HC.out; have := HC7.out; have := HC5.out; omega)
                      subst ea
                      obtain ⟨v0, hlw⟩ : ∃ v0, wr.cell? ⟨gb5, (c0 + i).toNat, none⟩ = some (.int .u8 v0) := ⟨_, blk_ub BK5.out (c0 + i) (by have := HC.out; have := HJ.out; omega) (by rw [mix_len, HXL.out]; have := HC.out; have := HC7.out; omega)⟩
                      have hfr : wr.frozen? ⟨gb5, (c0 + i).toNat, none⟩ = false := blk_frozen BK5.out _
                      have y0 : wr.cell? ⟨gb6, (c0 + 0).toNat, none⟩ = some (.int .u8 (rd Y (c0 + 0))) := blk_ub BK6.out _ (by have := HC.out; omega) (by rw [HYY.out]; have := HC.out; have := HC7.out; omega)
                      have y1 : wr.cell? ⟨gb6, (c0 + 1).toNat, none⟩ = some (.int .u8 (rd Y (c0 + 1))) := blk_ub BK6.out _ (by have := HC.out; omega) (by rw [HYY.out]; have := HC.out; have := HC7.out; omega)
                      have y2 : wr.cell? ⟨gb6, (c0 + 2).toNat, none⟩ = some (.int .u8 (rd Y (c0 + 2))) := blk_ub BK6.out _ (by have := HC.out; omega) (by rw [HYY.out]; have := HC.out; have := HC7.out; omega)
                      have y3 : wr.cell? ⟨gb6, (c0 + 3).toNat, none⟩ = some (.int .u8 (rd Y (c0 + 3))) := blk_ub BK6.out _ (by have := HC.out; omega) (by rw [HYY.out]; have := HC.out; have := HC7.out; omega)
                      have HJJ := A_ (show (c0 + i).toNat < X.length by rw [HXL.out]; have := HC.out; have := HC7.out; have := HJ.out; omega)
                      have HF := A_ (nxf_at ks Y r c0 HC.out.1 HC.out.2.2 i HJ.out.1 c8)
                      have g0 : IntKind.i64.wrap c0 = c0 := by rw [IntKind.wrap_i64]; have := HC.out; omega
                      have g1 : IntKind.i64.wrap (c0 + 1) = c0 + 1 := by rw [IntKind.wrap_i64]; have := HC.out; omega
                      have g2 : IntKind.i64.wrap (c0 + 2) = c0 + 2 := by rw [IntKind.wrap_i64]; have := HC.out; omega
                      have g3 : IntKind.i64.wrap (c0 + 3) = c0 + 3 := by rw [IntKind.wrap_i64]; have := HC.out; omega
                      have g4 : IntKind.i64.wrap (16 * r) = 16 * r := by rw [IntKind.wrap_i64]; have := HR1.out; omega
                      have g5 : IntKind.i64.wrap (16 * r + c0) = 16 * r + c0 := by rw [IntKind.wrap_i64]; have := HR1.out; have := HC.out; omega
                      have g6 : IntKind.i64.wrap (16 * r + c0 + i) = 16 * r + c0 + i := by rw [IntKind.wrap_i64]; have := HR1.out; have := HC.out; have := HJ.out; omega
                      have p0 : (0 ≤ c0) = True := eq_true HC.out.1
                      have p1 : (0 ≤ c0 + 1) = True := eq_true (by have := HC.out; omega)
                      have p2 : (0 ≤ c0 + 2) = True := eq_true (by have := HC.out; omega)
                      have p3 : (0 ≤ c0 + 3) = True := eq_true (by have := HC.out; omega)
                      have q0 : (c0 < 16) = True := eq_true HC7.out
                      have q1 : (c0 + 1 < 16) = True := eq_true (by have := HC.out; have := HC7.out; omega)
                      have q2 : (c0 + 2 < 16) = True := eq_true (by have := HC.out; have := HC7.out; omega)
                      have q3 : (c0 + 3 < 16) = True := eq_true (by have := HC.out; have := HC7.out; omega)
                      have p4 : (0 ≤ 16 * r + c0 + i) = True := eq_true (by have := HR1.out; have := HC.out; have := HJ.out; omega)
                      have q4 : (16 * r + c0 + i < (ks.length : Int)) = True := eq_true (by have := HK.out; have := HR1.out; have := HC.out; have := HC7.out; have := HC5.out; omega)
                      have kk1 : IntKind.i64.wrap 1 = 1 := by rw [IntKind.wrap_i64]; rfl
                      have kk2 : IntKind.i64.wrap 2 = 2 := by rw [IntKind.wrap_i64]; rfl
                      have kk3 : IntKind.i64.wrap 3 = 3 := by rw [IntKind.wrap_i64]; rfl
                      have kk4 : IntKind.i64.wrap 4 = 4 := by rw [IntKind.wrap_i64]; rfl
                      have his : i = 0 ∨ i = 1 ∨ i = 2 ∨ i = 3 := by have := HJ.out; omega
                      clear c8
                      rcases his with rfl | rfl | rfl | rfl
                      all_goals (
                        simp only [Int.add_zero, Int.zero_add, Int.reduceAdd, Int.reduceMod] at hka hlw hfr y0 g6 p4 q4 HF HJJ BK5
                        go_wp2
                        refine still_tail_at 19 (by kernel_rfl) (by kernel_rfl) ?_
                        intro wq ewq
                        have hh : wq.heap = wr.heap := by rw [ewq]; rfl
                        replace hka := (cell_of hh _).trans hka
                        replace hlw := (cell_of hh _).trans hlw
                        replace hfr := (frozen_of hh _).trans hfr
                        replace y0 := (cell_of hh _).trans y0
                        replace y1 := (cell_of hh _).trans y1
                        replace y2 := (cell_of hh _).trans y2
                        replace y3 := (cell_of hh _).trans y3
                        replace HB : Aside0 (Below w.heap.size w wq) := ⟨by rw [ewq]; exact HB.out.drew⟩
                        replace BK5 := A_ (heap_of hh BK5.out)
                        replace BK6 := A_ (heap_of hh BK6.out)
                        clear ewq hh
                        simp only [List.take_succ_cons, List.take_zero, List.drop_succ_cons, List.drop_zero]
                        repeat still_step
                        try refine wpStill_nil ?_
                        clear g0 g1 g2 g3 g4 g5 g6 hka hlw hfr y0 y1 y2 y3
                        by_cases c9 : r < 10
                        · have c9b0 : decide (r < 10) = true := decide_eq_true c9
                          replace HF := A_ (HF.out.trans (if_pos c9))
                          have HR10 := A_ c9
                          clear c9
                          go_wp2_with (first | ((with_reducible refine gate_store (t := 5) (p := 93) rfl ?_); refine el_store rfl rfl rfl rfl rfl BK5.out (by rw [mix_len]; exact HJJ.out) ?_; intro we5 hbs hgs; replace BK6 := hb5_ BK6 hgs NE5_6; replace HB := hb6_ HB hgs GW5; replace BK5 := A_ hbs; clear hbs hgs))
                          have hlw := set_cell BK5.out (by rw [mix_len]; exact HJJ.out)
                          have y0 := blk_ub BK6.out c0 HC.out.1 (by rw [HYY.out]; exact HC7.out)
                          have y1 := blk_ub BK6.out (c0 + 1) (by have := HC.out; omega) (by rw [HYY.out]; have := HC.out; have := HC7.out; omega)
                          have y2 := blk_ub BK6.out (c0 + 2) (by have := HC.out; omega) (by rw [HYY.out]; have := HC.out; have := HC7.out; omega)
                          have y3 := blk_ub BK6.out (c0 + 3) (by have := HC.out; omega) (by rw [HYY.out]; have := HC.out; have := HC7.out; omega)
                          refine still_tail_at 26 (by kernel_rfl) (by kernel_rfl) ?_
                          intro wq2 ewq
                          have hh : wq2.heap = we5.heap := by rw [ewq]; rfl
                          replace hlw := (cell_of hh _).trans hlw
                          replace y0 := (cell_of hh _).trans y0
                          replace y1 := (cell_of hh _).trans y1
                          replace y2 := (cell_of hh _).trans y2
                          replace y3 := (cell_of hh _).trans y3
                          replace HB : Aside0 (Below w.heap.size w wq2) := ⟨by rw [ewq]; exact HB.out.drew⟩
                          replace BK5 := A_ (heap_of hh BK5.out)
                          replace BK6 := A_ (heap_of hh BK6.out)
                          clear ewq hh
                          have g0 : IntKind.i64.wrap c0 = c0 := by rw [IntKind.wrap_i64]; have := HC.out; omega
                          have g1 : IntKind.i64.wrap (c0 + 1) = c0 + 1 := by rw [IntKind.wrap_i64]; have := HC.out; omega
                          have g2 : IntKind.i64.wrap (c0 + 2) = c0 + 2 := by rw [IntKind.wrap_i64]; have := HC.out; omega
                          have g3 : IntKind.i64.wrap (c0 + 3) = c0 + 3 := by rw [IntKind.wrap_i64]; have := HC.out; omega
                          simp only [List.take_succ_cons, List.take_zero, List.drop_succ_cons, List.drop_zero]
                          repeat (first | still_step | still_call (dbl110_same _ _))
                          try refine wpStill_nil ?_
                          clear g0 g1 g2 g3 hlw y0 y1 y2 y3
                          go_wp2_with (first | ((with_reducible refine gate_store (t := 5) (p := 121) rfl ?_); refine el_store rfl rfl rfl rfl rfl BK5.out (by rw [List.length_set, mix_len]; exact HJJ.out) ?_; intro we5 hbs hgs; replace BK6 := hb5_ BK6 hgs NE5_6; replace HB := hb6_ HB hgs GW5; replace BK5 := A_ hbs; clear hbs hgs))
                          go_roundg k5
                          case measure => have := HK5.out; omega
                          case rel =>
                            refine ⟨_, rfl, ⟨by decide⟩, ⟨?_⟩, ⟨?_⟩, BK6, HB⟩
                            · have := HK5.out; omega
                            · refine mix_cast BK5.out HJJ.out (by have := HC.out; omega) HF.out (.inr ⟨_, rfl⟩)
                        · have c9b0 : decide (r < 10) = false := decide_eq_false c9
                          replace HF := A_ (HF.out.trans (if_neg c9))
                          clear c9
                          go_wp2_with (first | ((with_reducible refine gate_store (t := 5) (p := 93) rfl ?_); refine el_store rfl rfl rfl rfl rfl BK5.out (by rw [mix_len]; exact HJJ.out) ?_; intro we5 hbs hgs; replace BK6 := hb5_ BK6 hgs NE5_6; replace HB := hb6_ HB hgs GW5; replace BK5 := A_ hbs; clear hbs hgs))
                          go_roundg k5
                          case measure => have := HK5.out; omega
                          case rel =>
                            refine ⟨_, rfl, ⟨by decide⟩, ⟨?_⟩, ⟨?_⟩, BK6, HB⟩
                            · have := HK5.out; omega
                            · refine mix_cast BK5.out HJJ.out (by have := HC.out; omega) HF.out (.inl rfl)
                        )
                    · have c8b0 : decide (i < 4) = false := decide_eq_false c8
                      have hi4 : i = 4 := by have := HJ.out; omega
                      subst hi4
                      have hw := A_ (show wrap64 (c0 + 4) = c0 + 4 by have := HC.out; unfold wrap64; omega)
                      clear c8
                      go_wp2
                      go_roundg k4
                      case measure => have := HK4.out; have := HC.out; omega
                      case rel =>
                        refine ⟨c0 + 4, ?_, ⟨?_⟩, ⟨?_⟩, BK5, BK6, HB⟩
                        · rw [hw.out]
                        · have := HC.out; have := HC7.out; omega
                        · have := HK4.out; have := HC.out; have := HC7.out; omega
                · have c7b0 : decide (c0 < 16) = false := decide_eq_false c7
                  have hc16 : c0 = 16 := by have := HC.out; omega
                  subst hc16
                  replace BK5 := A_ (show wr.heap[gb5]? = some (.cells (ub (sencr ks l r.toNat)) 112 (0, 0)) from (by have := BK5.out; rwa [mix_all (nxf ks Y r) _ (16 : Int).toNat HXL.out, show (List.range (16 : Int).toNat).map (nxf ks Y r) = nxv ks Y r from rfl, HNX.out] at this))
                  have hw := A_ (show wrap64 (r + 1) = r + 1 by have := HR1.out; unfold wrap64; omega)
                  clear c7
                  go_wp2
                  go_roundg k2
                  case measure => have := HK2.out; have := HR1.out; omega
                  case rel =>
                    refine ⟨r + 1, Y, ?_, ⟨?_⟩, ⟨?_⟩, HYY, ⟨?_⟩, BK6, HB⟩
                    · rw [hw.out]
                    · have := HR1.out; have := HC5.out; omega
                    · have := HK2.out; have := HR1.out; have := HC5.out; omega
                    · rw [show (r + 1).toNat - 1 = r.toNat by have := HR1.out; omega]
                      exact BK5.out
        · have c5b0 : decide (r ≤ 10) = false := decide_eq_false c5
          have hr11 : r = 11 := by have := HR1.out; omega
          subst hr11
          replace BK5 := A_ (show wr.heap[gb5]? = some (.cells (ub (sencv ks l)) 112 (0, 0)) from BK5.out)
          clear c5
          have hsl := A_ (show (sencv ks l).length = 16 from sencr_len ks l 10)
          generalize hS : sencv ks l = S at BK5 hsl
          go_wp2_with (first | ((with_reducible refine gate_dst (N := 122) rfl ?_); refine sl_event ?hg (N := 122) ?hd (cs := ub []) (t := 5) (n := 0) ?hr ?_; (case hd => rfl); (case hg => rfl); (case hr => go_simp <;> rfl); intro gb7 hg wb7 hbox hb; have GW7 := gw_ (w := w) hg; have NE5_7 := hb3_ BK5 hg; have NE6_7 := hb3_ BK6 hg; replace BK5 := hb1_ BK5 hb; replace BK6 := hb1_ BK6 hb; replace HB := hb2_ hb; have BK7 := A_ (hbox); clear hb hbox hg) | (at_builtin; refine Kd.R_append_rows (Kd.int .u8) (w0 := w) w.heap.size rfl (.tmp 122) (.tmp 123) 25 5 (.int .u8 0) 1 rfl Try.underlying25 info5 rfl (by decide) (by omega) (.slice (some ⟨gb7, 0, none⟩) 0 0) ([] : List Int) S _ _ _ (fun _ => True) (fun _ => False) rfl rfl ?aO ?aR (fun _ _ h => h) (fun _ h => h.elim) ?aF ?aB ?aS ?aL ?_; (case aR => exact C_blk BK5.out hsl.out (by decide)); (case aB => exact HB.out); (case aF => exact (fun _ _ => trivial)); (case aO => exact (R_blk0 BK7.out GW7.out trivial)); (case aS => exact HB.out.size); (case aL => simp only [List.length_nil]; omega); intro v7 w7 ho hb hg hat; clear HB hg hat; have HO := A_ ho; have HB := A_ hb; clear ho hb))
          go_ret
          exact ⟨v7, rfl, by rw [hS]; exact HO.out, HB.out⟩
def spec_l2Encrypt.f (l0 : List Int) (l1 : List Int) : Option (List Int) := if l0.length = 176 ∧ l1.length = 16 then some (sencv l0 l1) else none
theorem spec_l2Encrypt.calls (A0 : Option Addr) (c0 : Nat) (l0 : List Int) (A1 : Option Addr) (c1 : Nat) (l1 : List Int) (r : List Int) (w : World) (hr0 : Kd.C (Kd.int .u8) w A0 l0.length l0) (hc0 : l0.length ≤ c0) (hr1 : Kd.C (Kd.int .u8) w A1 l1.length l1) (hc1 : l1.length ≤ c1) (h : spec_l2Encrypt.f l0 l1 = some r) :
    Calls Try.prog 99 #[.slice A0 l0.length c0, .slice A1 l1.length c1] w fun e w' => ∃ v0_ : Value, e = .returned (v0_) ∧ Kd.R (Kd.int .u8) 5 w' w.heap.size (fun _ => True) v0_ r ∧ Below w.heap.size w w' := by
  unfold spec_l2Encrypt.f at h
  by_cases hn : l0.length = 176 ∧ l1.length = 16
  · rw [if_pos hn] at h
    obtain rfl := Option.some.inj h
    exact senc99 A0 c0 A1 c1 l0 l1 w hr0 hr1 hn.1 hn.2
  · rw [if_neg hn] at h
    cases h
def spec_l3Whole.l0 : Nat → List Int → Option (List Int)
 | 0, _ => none
 | k + 1, x3 => if ((x3.length : Int) % 16) = 0 then (some x3) else (if x3.length < 140737488355328 then (spec_l3Whole.l0 k (x3 ++ [0])) else (none))
def spec_l3Whole.f (k : Nat) (l0 : List Int) : Option (List Int) := (spec_l1Copy.f l0).bind fun t146 => (spec_l3Whole.l0 k t146)
theorem spec_l3Whole.calls (k : Nat) (A0 : Option Addr) (c0 : Nat) (l0 : List Int) (r : List Int) (w : World) (hr0 : Kd.C (Kd.int .u8) w A0 l0.length l0) (hc0 : l0.length ≤ c0) (h : spec_l3Whole.f k l0 = some r) :
  Calls Try.prog 100 #[.slice A0 l0.length c0] w fun e w' => ∃ v0_ : Value, e = .returned (v0_) ∧ Kd.R (Kd.int .u8) 5 w' w.heap.size (fun _ => True) v0_ r ∧ Below w.heap.size w w' := by
 have HR0 := A_ hr0
 have HC0 := A_ hc0
 clear hr0 hc0
 have HB := A_ (Below.refl w.heap.size w)
 have H : ((spec_l1Copy.f l0).bind fun t146 => (spec_l3Whole.l0 k t146)) = some r := h
 clear h
 obtain ⟨t146, A20, H⟩ := bi_ H
 replace H : (spec_l3Whole.l0 k t146) = some r := H
 have A2 := A_ A20
 clear A20
 have H' := A_ H
 clear H
 go_enter Try.func100, Try.ntmps100
 go_wp2_with (first | ((with_reducible refine gate_callee (f := 63) rfl ?_); refine goesL_ (some 5) rfl rfl Try.func63 (by kernel_rfl) rfl #[.slice A0 l0.length c0] rfl args_a ?_; (with_reducible refine (spec_l1Copy.calls _ _ l0 t146 _ ?side1 ?side2 A2.out).mono ?_); (case side1 => exact ca_ HR0.out); (case side2 => exact HC0.out); rintro e w3 ⟨v147, rfl, ho0, hb⟩; refine ⟨_, rfl, ?_⟩; have HO148 := A_ (Kd.R_lower ho0 (below_size below_a)); replace HB := bs_ hb; (try clear hb ho0)))
 go_loopg [3] k (fun kq v3 w' => ∃ (x3_1 : List Int), Aside0 (spec_l3Whole.l0 kq x3_1 = some r) ∧ Aside0 (kq ≤ k) ∧ Aside0 (Kd.R (Kd.int .u8) 5 w' w.heap.size (fun _ => True) v3 x3_1) ∧ Aside0 (Below w.heap.size w w'))
 case atStart => exact ⟨(t146), H', ⟨Nat.le_refl _⟩, ⟨R_a HO148.out⟩, ⟨below_a⟩⟩
 case round =>
  clear H'
  try clear c1
  try clear p2
  obtain ⟨x3_1, HA, HK1, HO_3, HB⟩ := hrel
  cases gk with
  | zero => exact absurd HA.out (by simp [spec_l3Whole.l0])
  | succ k1 =>
   have H := HA.out; clear HA; simp only [spec_l3Whole.l0] at H
   by_cases c4 : ((x3_1.length : Int) % 16) = 0
   ·
    rw [if_pos c4] at H; have c4b0 : (((x3_1.length : Int) % 16) == 0) = true := beq_iff_eq.mpr c4; have c4b1 : (((x3_1.length : Int) % 16) != 0) = false := bne_eq_false_iff_eq.mpr c4; clear c4; obtain rfl := Option.some.inj H; obtain ⟨Ao5, co5, eo5⟩ := Kd.R_slice HO_3.out; subst eo5
    go_wp2
    go_ret
    exact ⟨_, eq_a, R_a HO_3.out, below_a⟩
   ·
    rw [if_neg c4] at H; have c4b0 : (((x3_1.length : Int) % 16) == 0) = false := beq_eq_false_iff_ne.mpr c4; have c4b1 : (((x3_1.length : Int) % 16) != 0) = true := bne_iff_ne.mpr c4
    by_cases c6 : x3_1.length < 140737488355328
    rotate_left
    · rw [if_neg c6] at H; exact absurd H (by simp)
    rw [if_pos c6] at H; have LMc6 := A_ c6; clear c6; obtain ⟨y149, hy149⟩ : ∃ y_ : List Int, y_ = (x3_1 ++ [0]) := ⟨_, rfl⟩; replace H : (spec_l3Whole.l0 k1 y149) = some r := by first | (rw [hy149]; with_reducible exact H) | (have H2_ := os_ H; rw [hy149]; with_reducible exact H2_) | (have H2_ := os_ H; with_reducible exact H2_) | with_reducible exact H | (rw [hy149]; exact H) | exact H
    have Ny149 := A_ hy149; clear hy149; have H' := A_ H; clear H; obtain ⟨Ao7, co7, eo7⟩ := Kd.R_slice HO_3.out; subst eo7
    go_wp2_with (first | ((with_reducible refine gate_builtin (b := .append) (xs := #[.tmp 10, .tmp 11]) rfl ?_); at_builtin; refine Kd.R_append (Kd.int .u8) (w0 := w) w.heap.size rfl (.tmp 10) (.tmp 11) 25 5 (.int .u8 0) 1 rfl Try.underlying25 info5 rfl (by decide) (by omega) (.slice Ao7 x3_1.length co7) x3_1 0 [.int .u8 0] (fun _ => True) (fun _ => False) rfl rfl ?aP (fun _ hk => hk.elim) ?aF ?aO ?aB ?aS ?aL ?_; (case aP => exact rfl); (case aB => exact below_a); (case aF => exact (fun _ _ => trivial)); (case aO => exact (R_a HO_3.out)); (case aS => exact (below_size below_a)); (case aL => have := LMc6.out; omega); intro v150 w8 ho hb hg hat; rw [← Ny149.out] at ho; replace HB := A_ (hb); have HO151 := A_ (ho); clear HO_3; clear ho hb hg hat))
    go_roundg k1
    case measure => have := HK1.out; omega
    case rel => exact ⟨(y149), H', ⟨by have := HK1.out; omega⟩, ⟨R_a HO151.out⟩, ⟨below_a⟩⟩
def spec_l1Xor.l0 : Nat → List Int → List Int → List Int → Int → Option (List Int)
 | 0, _, _, _, _ => none
 | k + 1, x0, x1, x5, x6 => if x6 < (x0.length : Int) then (if 0 ≤ x6 then (if x6 < (x1.length : Int) then (if x5.length < 140737488355328 then (spec_l1Xor.l0 k x0 x1 (x5 ++ [Go.bits .xor .u8 (rd x0 x6) (rd x1 x6)]) (wrap64 (x6 + 1))) else (none)) else (none)) else (none)) else (some x5)
def spec_l1Xor.f (k : Nat) (l0 : List Int) (l1 : List Int) : Option (List Int) := spec_l1Xor.l0 k l0 l1 (([] : List Int)) 0
def spec_l1Xor.T5 : Bool × List (List Nat × List Nat) := (true, [([], []), ([], []), ([], []), ([1, 2], [1, 2]), ([3], [3]), ([], []), ([], []), ([5, 6], [5, 6]), ([7], [7]), ([4, 8], [4, 8]), ([9], [9]), ([0, 10], [0, 10]), ([11, 11, 0, 1, 2, 3, 4, 5, 6, 7, 8, 9, 10, 11], [0, 11])])
def spec_l1Xor.B5 : List Nat := [0, 0, 0, 6, 14, 0, 0, 96, 224, 510, 1022, 2047, 4095]
theorem spec_l1Xor.tab5 : rtab .any (opsOf Try.f101 5) = spec_l1Xor.T5 := by kernel_rfl
theorem spec_l1Xor.bits5 : waitsOk spec_l1Xor.T5.2 spec_l1Xor.B5 = true := by kernel_rfl
theorem spec_l1Xor.calls (k : Nat) (A0 : Option Addr) (c0 : Nat) (l0 : List Int) (A1 : Option Addr) (c1 : Nat) (l1 : List Int) (r : List Int) (w : World) (hr0 : Kd.C (Kd.int .u8) w A0 l0.length l0) (hc0 : l0.length ≤ c0) (hr1 : Kd.C (Kd.int .u8) w A1 l1.length l1) (hc1 : l1.length ≤ c1) (h : spec_l1Xor.f k l0 l1 = some r) :
  Calls Try.prog 101 #[.slice A0 l0.length c0, .slice A1 l1.length c1] w fun e w' => ∃ v0_ : Value, e = .returned (v0_) ∧ Kd.R (Kd.int .u8) 5 w' w.heap.size (fun _ => True) v0_ r ∧ Below w.heap.size w w' := by
 have HR0 := A_ hr0
 have HC0 := A_ hc0
 clear hr0 hc0
 have HR1 := A_ hr1
 have HC1 := A_ hc1
 clear hr1 hc1
 have HB := A_ (Below.refl w.heap.size w)
 have H : (spec_l1Xor.l0 k l0 l1 (([] : List Int)) 0) = some r := h
 clear h
 obtain ⟨y152, hy152⟩ : ∃ y_ : List Int, y_ = (([] : List Int)) := ⟨_, rfl⟩
 replace H : (spec_l1Xor.l0 k l0 l1 y152 0) = some r := by first | (rw [hy152]; with_reducible exact H) | (have H2_ := os_ H; rw [hy152]; with_reducible exact H2_) | (have H2_ := os_ H; with_reducible exact H2_) | with_reducible exact H | (rw [hy152]; exact H) | exact H
 have Ny152 := A_ hy152
 clear hy152
 have H' := A_ H
 clear H
 go_enter Try.func101, Try.ntmps101
 go_wp2_with (first | ((with_reducible refine gate_dst (N := 7) rfl ?_); refine Kd.R_lit (Kd.int .u8) _ 5 ?hg (N := 7) ?hd (xs := ([] : List Int)) (inner := []) (ok := fun _ => True) (okp := fun _ => True) ?hr ?hp (fun _ hk => hk) trivial (Below.refl _ _) (Nat.le_refl _) (by simp) ?_; (case hd => rfl); (case hg => rfl); (case hr => go_simp <;> rfl); (case hp => exact (Reps.none _ _)); intro v153 w3 ho4 hb hg_ hnew_; clear hg_ hnew_; (first | rw [← Ny152.out] at ho4 | (simp only [Int.reduceToNat] at ho4; rw [← Ny152.out] at ho4)); have HO154 := A_ (Kd.R_lower ho4 (below_size below_a)); replace HB := bs_ hb; clear hb ho4))
 go_loopg [5, 6] k (fun kq v5 v6 w' => ∃ (x5_1 : List Int) (x6_1 : Int), v6 = .int .i64 x6_1 ∧ Aside0 (spec_l1Xor.l0 kq l0 l1 x5_1 x6_1 = some r) ∧ Aside0 (kq ≤ k) ∧ Aside0 (Kd.R (Kd.int .u8) 5 w' w.heap.size (fun _ => True) v5 x5_1) ∧ Aside0 (Below w.heap.size w w'))
 case atStart => exact ⟨(y152), (0), eq_b, H', ⟨Nat.le_refl _⟩, ⟨R_a HO154.out⟩, ⟨below_a⟩⟩
 case round =>
  clear H'
  try clear c1
  try clear p2
  obtain ⟨x5_1, x6_1, rfl, HA, HK1, HO_5, HB⟩ := hrel
  cases gk with
  | zero => exact absurd HA.out (by simp [spec_l1Xor.l0])
  | succ k1 =>
   have H := HA.out; clear HA; simp only [spec_l1Xor.l0] at H
   by_cases c5 : x6_1 < (l0.length : Int)
   ·
    rw [if_pos c5] at H; have c5b0 : decide (x6_1 < (l0.length : Int)) = true := decide_eq_true c5; clear c5
    by_cases c6 : 0 ≤ x6_1
    rotate_left
    · rw [if_neg c6] at H; exact absurd H (by simp)
    rw [if_pos c6] at H; have c6b0 : decide (0 ≤ x6_1) = true := decide_eq_true c6; clear c6
    by_cases c7 : x6_1 < (l1.length : Int)
    rotate_left
    · rw [if_neg c7] at H; exact absurd H (by simp)
    rw [if_pos c7] at H; have c7b0 : decide (x6_1 < (l1.length : Int)) = true := decide_eq_true c7; clear c7
    by_cases c8 : x5_1.length < 140737488355328
    rotate_left
    · rw [if_neg c8] at H; exact absurd H (by simp)
    rw [if_pos c8] at H; have LMc8 := A_ c8; clear c8; obtain ⟨y157, hy157⟩ : ∃ y_ : List Int, y_ = (x5_1 ++ [Go.bits .xor .u8 (rd l0 x6_1) (rd l1 x6_1)]) := ⟨_, rfl⟩; replace H : (spec_l1Xor.l0 k1 l0 l1 y157 (wrap64 (x6_1 + 1))) = some r := by first | (rw [hy157]; with_reducible exact H) | (have H2_ := os_ H; rw [hy157]; with_reducible exact H2_) | (have H2_ := os_ H; with_reducible exact H2_) | with_reducible exact H | (rw [hy157]; exact H) | exact H
    have Ny157 := A_ hy157; clear hy157; have H' := A_ H; clear H
    try go_wp2
    replace HO_5 := A_ (Kd.R_drew HO_5.out); replace HB := A_ (below_drew1 HB.out); have p155 : 0 ≤ (x6_1 : Int) := od_; have q155 : x6_1 < (l0.length : Int) := od_; obtain ⟨ad155, e155, hx155_0⟩ := Kd.at_int HR0.out x6_1 p155 q155; have hw155_0 := hx155_0
    cases e155
    replace hx155_0 := hc_ HB hx155_0; replace p155 := eq_true p155; replace q155 := eq_true q155; have p156 : 0 ≤ (x6_1 : Int) := od_; have q156 : x6_1 < (l1.length : Int) := od_; obtain ⟨ad156, e156, hx156_0⟩ := Kd.at_int HR1.out x6_1 p156 q156; have hw156_0 := hx156_0
    cases e156
    replace hx156_0 := hc_ HB hx156_0; replace p156 := eq_true p156; replace q156 := eq_true q156; refine start_ (n := 13) (S := fun w' => w'.cell? (ad155.add (x6_1).toNat) = some (.int .u8 (rd l0 x6_1)) ∧ w'.cell? (ad156.add (x6_1).toNat) = some (.int .u8 (rd l1 x6_1))) (ds := []) (rl_ [0, 13]) (by kernel_rfl) rfl rfl ⟨((HB.out.cell (World.block_lt_of_cell? w _ hw155_0)).trans hw155_0), ((HB.out.cell (World.block_lt_of_cell? w _ hw156_0)).trans hw156_0)⟩ (fun hHeld => ?_); refine with_tabW spec_l1Xor.tab5 spec_l1Xor.bits5 (fun HT_ HW_ => ?_); generalize wr.drew = w9 at HO_5 HB hx155_0 hx156_0 hHeld ⊢; refine pw_ 0 14 ?_ (rl_ [1, 12]) HT_ rfl rfl (by kernel_rfl) ?_ ?_ ?_ ?_; rotate_left; (intro w'; go_simp; with_reducible rfl); rotate_left; (simp only [P4_]; rfl)
    refine pw_ 1 15 ?_ (rl_ [2, 11]) HT_ rfl rfl (by kernel_rfl) ?_ ?_ ?_ ?_; rotate_left; (intro w'; go_simp; with_reducible rfl); rotate_left; (simp only [P4_]; rfl)
    refine pw_ 2 16 ?_ (rl_ [3, 10]) HT_ rfl rfl (by kernel_rfl) ?_ ?_ ?_ ?_; rotate_left; (intro w'; go_simp; with_reducible rfl); rotate_left; (simp only [P4_]; rfl)
    refine pw_ 3 17 ?_ (rl_ [4, 9]) HT_ rfl rfl (by kernel_rfl) ?_ ?_ ?_ ?_; rotate_left; (intro w'; go_simp; with_reducible rfl); rotate_left; (simp only [P4_]; rfl)
    refine pw_ 5 19 ?_ (rl_ [4, 1, 1, 7]) HT_ rfl rfl (by kernel_rfl) ?_ ?_ ?_ ?_; rotate_left; (intro w'; go_simp; with_reducible rfl); rotate_left; (simp only [P4_]; rfl)
    refine pw_ 6 20 ?_ (rl_ [4, 1, 2, 6]) HT_ rfl rfl (by kernel_rfl) ?_ ?_ ?_ ?_; rotate_left; (intro w'; go_simp; with_reducible rfl); rotate_left; (simp only [P4_]; rfl)
    refine pw_ 7 21 ?_ (rl_ [4, 1, 3, 5]) HT_ rfl rfl (by kernel_rfl) ?_ ?_ ?_ ?_; rotate_left; (intro w'; go_simp; with_reducible rfl); rotate_left; (simp only [P4_]; rfl)
    refine take_ (i := 4) (N := some 18) (v := ?_) (a' := ?_) (rl_ [8, 5]) rfl rfl (take_ofW HT_.out HW_.out (by kernel_rfl)) (fun _ _ _ h => h) (Or.inl ⟨by rfl, ?_⟩) hHeld ?_ ?_; rotate_left; (rintro w' ⟨s0, s1⟩; go_simp; with_reducible rfl); rotate_left; (simp only [P4_]; rfl)
    refine take_ (i := 8) (N := some 22) (v := ?_) (a' := ?_) (rl_ [9, 4]) rfl rfl (take_ofW HT_.out HW_.out (by kernel_rfl)) (fun _ _ _ h => h) (Or.inl ⟨by rfl, ?_⟩) hHeld ?_ ?_; rotate_left; (rintro w' ⟨s0, s1⟩; go_simp; with_reducible rfl); rotate_left; (simp only [P4_]; rfl)
    refine pw_ 9 23 ?_ (rl_ [10, 3]) HT_ rfl rfl (by kernel_rfl) ?_ ?_ ?_ ?_; rotate_left; (intro w'; go_simp; with_reducible rfl); rotate_left; (simp only [P4_]; rfl)
    refine one_ (i := 10) (N := some 24) (rl_ [11, 2]) rfl rfl (one_of HT_.out (by kernel_rfl)) (by decide) (fun K hK => ?_); refine value_ (w1 := ?_) (v := ?_) (by rfl) rfl ?_ ?_; rotate_left 2
    ·
     go_simp
     constructor
     ·
      rfl
     ·
      rfl
    refine hK.out _ _ ⟨(World.cell?_alloc_lt _ _ _ (World.block_lt_of_cell? _ _ (((HB.out.cell (World.block_lt_of_cell? w _ hw155_0)).trans hw155_0)))).trans (((HB.out.cell (World.block_lt_of_cell? w _ hw155_0)).trans hw155_0)), (World.cell?_alloc_lt _ _ _ (World.block_lt_of_cell? _ _ (((HB.out.cell (World.block_lt_of_cell? w _ hw156_0)).trans hw156_0)))).trans (((HB.out.cell (World.block_lt_of_cell? w _ hw156_0)).trans hw156_0))⟩ (fun hHeld => ?_); clear hK K; refine norm_ (a' := ?_) ?_ ?_; rotate_left
    ·
     show Act.put _ (some 24) _ = _; simp only [P4_]; rfl
    refine one_ (i := 11) (N := some 25) (rl_ [12, 1]) rfl rfl (one_of HT_.out (by kernel_rfl)) (by decide) (fun K hK => ?_); refine Kd.R_append_step (Kd.int .u8) (w0 := w) w.heap.size (by rfl) (.tmp 14) (.tmp 24) 25 5 (.int .u8 0) 1 rfl Try.underlying25 info5 rfl (by decide) (by omega) u5 x5_1 (Go.bits .xor .u8 (rd l0 x6_1) (rd l1 x6_1)) [.int .u8 (Go.bits .xor .u8 (rd l0 x6_1) (rd l1 x6_1))] (fun _ => True) (fun _ => False) rfl rfl ?aP (fun _ hk => hk.elim) ?aF ?aO ?aB ?aS ?aL ?_; (case aP => exact rfl); (case aB => exact below_a); (case aF => exact (fun _ _ => trivial)); (case aO => exact (R_a HO_5.out)); (case aS => exact (below_size below_a)); (case aL => have := LMc8.out; omega); intro v158 w10 ho hb hg hat; rw [← Ny157.out] at ho; replace HB := A_ (hb); have HO159 := A_ (ho); clear HO_5 ho hb hg hat; refine hK.out _ _ ⟨((HB.out.cell (World.block_lt_of_cell? w _ hw155_0)).trans hw155_0), ((HB.out.cell (World.block_lt_of_cell? w _ hw156_0)).trans hw156_0)⟩ (fun hHeld => ?_); clear hK K; refine norm_ (a' := ?_) ?_ ?_; rotate_left
    ·
     show Act.put _ (some 25) _ = _; simp only [P4_]; rfl
    refine pw_ 12 5 ?_ (rl_ [13]) HT_ rfl rfl (by kernel_rfl) ?_ ?_ ?_ ?_; rotate_left; (intro w'; go_simp; with_reducible rfl); rotate_left; (simp only [P4_]; rfl)
    refine done_ (done_of HT_.out (by kernel_rfl)) ?_
    try go_wp2
    go_roundg k1
    case measure => have := HK1.out; omega
    case rel => exact ⟨(y157), (wrap64 (x6_1 + 1)), eq_b, H', ⟨by have := HK1.out; omega⟩, ⟨R_a HO159.out⟩, ⟨below_a⟩⟩
   ·
    rw [if_neg c5] at H; have c5b0 : decide (x6_1 < (l0.length : Int)) = false := decide_eq_false c5; clear c5; obtain rfl := Option.some.inj H
    go_wp2
    go_ret
    exact ⟨_, eq_a, R_a HO_5.out, below_a⟩
def spec_l3Half.l0 : Nat → List Int → Int → Int → Option (Int)
 | 0, _, _, _ => none
 | k + 1, x0, x3, x4 => if x4 < 8 then (if 0 ≤ x4 then (if x4 < (x0.length : Int) then (spec_l3Half.l0 k x0 (IntKind.u64.wrap ((IntKind.u64.wrap (x3 * 256)) + (IntKind.u64.wrap (rd x0 x4)))) (wrap64 (x4 + 1))) else (none)) else (none)) else (some x3)
def spec_l3Half.f (k : Nat) (l0 : List Int) : Option (Int) := spec_l3Half.l0 k l0 0 0
theorem spec_l3Half.calls (k : Nat) (A0 : Option Addr) (c0 : Nat) (l0 : List Int) (r : Int) (w : World) (hr0 : Kd.C (Kd.int .u8) w A0 l0.length l0) (hc0 : l0.length ≤ c0) (h : spec_l3Half.f k l0 = some r) :
  Calls Try.prog 122 #[.slice A0 l0.length c0] w fun e w' => e = .returned (.int .u64 r) ∧ Drawn0 w w' := by
 have HR0 := A_ hr0
 have HC0 := A_ hc0
 clear hr0 hc0
 have H : (spec_l3Half.l0 k l0 0 0) = some r := h
 clear h
 have H' := A_ H
 clear H
 go_enter Try.func122, Try.ntmps122
 go_wp2
 go_loopg [3, 4] k (fun kq v3 v4 w' => ∃ (x3_1 : Int) (x4_1 : Int), v3 = .int .u64 x3_1 ∧ v4 = .int .i64 x4_1 ∧ Aside0 (spec_l3Half.l0 kq l0 x3_1 x4_1 = some r) ∧ Aside0 (kq ≤ k) ∧ Drawn0 w w')
 case atStart => exact ⟨(0), (0), eq_b, eq_b, H', ⟨Nat.le_refl _⟩, by repeat (first | exact Drawn0.refl _ | apply Drawn0.step)⟩
 case round =>
  clear H'
  try clear c1
  obtain ⟨x3_1, x4_1, rfl, rfl, HA, HK1, ⟨m1, rfl⟩⟩ := hrel
  cases gk with
  | zero => exact absurd HA.out (by simp [spec_l3Half.l0])
  | succ k1 =>
   have H := HA.out; clear HA; simp only [spec_l3Half.l0] at H
   by_cases c2 : x4_1 < 8
   ·
    rw [if_pos c2] at H; have c2b0 : decide (x4_1 < 8) = true := decide_eq_true c2; clear c2
    by_cases c3 : 0 ≤ x4_1
    rotate_left
    · rw [if_neg c3] at H; exact absurd H (by simp)
    rw [if_pos c3] at H; have c3b0 : decide (0 ≤ x4_1) = true := decide_eq_true c3; clear c3
    by_cases c4 : x4_1 < (l0.length : Int)
    rotate_left
    · rw [if_neg c4] at H; exact absurd H (by simp)
    rw [if_pos c4] at H; have c4b0 : decide (x4_1 < (l0.length : Int)) = true := decide_eq_true c4; clear c4; have H' := A_ H; clear H; have p160 : 0 ≤ (x4_1 : Int) := od_; have q160 : x4_1 < (l0.length : Int) := od_; obtain ⟨ad160, e160, hx160_0⟩ := Kd.at_int HR0.out x4_1 p160 q160
    cases e160
    replace p160 := eq_true p160; replace q160 := eq_true q160
    go_wp2
    go_roundg k1
    case measure => have := HK1.out; omega
    case rel => exact ⟨(IntKind.u64.wrap ((IntKind.u64.wrap (x3_1 * 256)) + (IntKind.u64.wrap (rd l0 x4_1)))), (wrap64 (x4_1 + 1)), eq_b, eq_b, H', ⟨by have := HK1.out; omega⟩, by repeat (first | exact Drawn0.refl _ | apply Drawn0.step)⟩
   ·
    rw [if_neg c2] at H; have c2b0 : decide (x4_1 < 8) = false := decide_eq_false c2; clear c2; obtain rfl := Option.some.inj H
    go_wp2
    go_ret
    exact ⟨eq_b, by repeat (first | exact Drawn0.refl _ | apply Drawn0.step)⟩
end Go.Proofs.Ytiioiohdifkbgaa.MFnExactOpenLetter
