-- Laid by a program of this session (the kit's print, turned where it falls short; the texts of functions that it does not take are proved by hand).
import Derived.Test.YtpjelfgeohklkaaMFnExactEncodeMessagesx0
namespace Go.Proofs.Ytpjelfgeohklkaa.MFnExactEncodeMessages
open Go.RowKit Go.Proofs.YtpjelfgeohklkaaW.PrintWords Go.Proofs.YtpjelfgeohklkaaW.PrintLast Go.Proofs.YtpjelfgeohklkaaW.PrintMore
attribute [local go_sem] max2_int min2_int max_two min_two max_three min_three max_four min_four   -- for this text's walks alone
set_option linter.unusedVariables false
set_option linter.unusedSimpArgs false

attribute [local go_sem] isSome_setCell
/-! ### spec_l1Pack: function 65 -/
def spec_l1Pack.l0 : Nat → Int → List Int → Int → Option (List Int)
 | 0, _, _, _ => none
 | k + 1, x0, x5, x6 => if x6 ≥ 0 then (if 0 ≤ x6 then (if x6 < (x5.length : Int) then (spec_l1Pack.l0 k (wrap64 (Int.tdiv x0 256)) (x5.set (x6 : Int).toNat ((Int.tmod x0 256) % 256)) (wrap64 (x6 - 1))) else (none)) else (none)) else (some x5)
def spec_l1Pack.f (k : Nat) (a0 : Int) (a1 : Int) : Option (List Int) := if 0 ≤ a1 then (if (a1 : Int).toNat ≤ 281474976710656 then (spec_l1Pack.l0 k a0 (List.replicate (a1 : Int).toNat 0) (wrap64 (a1 - 1))) else (none)) else (none)
theorem spec_l1Pack.mono_l : ∀ k, (∀ y0 y1 y2, LeO (spec_l1Pack.l0 k y0 y1 y2) (spec_l1Pack.l0 (k + 1) y0 y1 y2))
 | 0 => fun _ _ _ r h => by simp [spec_l1Pack.l0] at h
 | k + 1 => by
  have ih0 := spec_l1Pack.mono_l k
  ·
   intro y0 y1 y2
   unfold spec_l1Pack.l0
   repeat' first
   | (with_reducible exact ih0 _ _ _)
   | (with_reducible exact LeO.refl _)
   | (with_reducible exact LeO.none _)
   | (with_reducible refine LeO.ite ?_ ?_)
   | (with_reducible refine LeO.bind ?_ (fun _ => ?_))
   | exact ih0 _ _ _
   | exact LeO.none _
   | refine LeO.ite ?_ ?_
   | refine LeO.bind ?_ (fun _ => ?_)
theorem spec_l1Pack.mono : ∀ a0 a1 k, LeO (spec_l1Pack.f k a0 a1) (spec_l1Pack.f (k + 1) a0 a1) := by
 intro a0 a1 k
 have ih0 := spec_l1Pack.mono_l k
 unfold spec_l1Pack.f
 repeat' first
   | (with_reducible exact ih0 _ _ _)
   | (with_reducible exact LeO.refl _)
   | (with_reducible exact LeO.none _)
   | (with_reducible refine LeO.ite ?_ ?_)
   | (with_reducible refine LeO.bind ?_ (fun _ => ?_))
   | exact ih0 _ _ _
   | exact LeO.none _
   | refine LeO.ite ?_ ?_
   | refine LeO.bind ?_ (fun _ => ?_)
set_option maxHeartbeats 8000000 in
set_option maxRecDepth 100000 in
theorem spec_l1Pack.calls (k : Nat) (a0 : Int) (a1 : Int) (r : List Int) (w : World) (h : spec_l1Pack.f k a0 a1 = some r) :
  Calls Try.prog 65 #[.int .i64 a0, .int .i64 a1] w fun e w' => ∃ v0_ : Value, e = .returned (v0_) ∧ Kd.R (Kd.int .u8) 5 w' w.heap.size (fun _ => True) v0_ r ∧ Below w.heap.size w w' := by
 have HB := Aside0.mk (Below.refl w.heap.size w)
 have H : (if 0 ≤ a1 then (if (a1 : Int).toNat ≤ 281474976710656 then (spec_l1Pack.l0 k a0 (List.replicate (a1 : Int).toNat 0) (wrap64 (a1 - 1))) else (none)) else (none)) = some r := h
 clear h
 by_cases c3 : 0 ≤ a1
 ·
  rw [if_pos c3] at H; have c3b0 := eq_true c3; have c3b1 : decide (0 ≤ a1) = true := decide_eq_true c3; clear c3
  by_cases c4 : (a1 : Int).toNat ≤ 281474976710656
  ·
   rw [if_pos c4] at H; have c4b0 := eq_true c4; have c4b1 : decide ((a1 : Int).toNat ≤ 281474976710656) = true := decide_eq_true c4; clear c4; obtain ⟨y189, hy189⟩ : ∃ y_ : List Int, y_ = (List.replicate (a1 : Int).toNat 0) := ⟨_, rfl⟩; replace H : (spec_l1Pack.l0 k a0 y189 (wrap64 (a1 - 1))) = some r := by first | (rw [hy189]; with_reducible exact H) | (have H2_ := (Option.bind_some _ _).symm.trans H; rw [hy189]; with_reducible exact H2_) | (have H2_ := (Option.bind_some _ _).symm.trans H; with_reducible exact H2_) | with_reducible exact H | (rw [hy189]; exact H) | exact H
   have Ny189 := Aside0.mk hy189; clear hy189; have H' := Aside0.mk H; clear H
   go_enter Try.func65, Try.ntmps65
   go_wp2_with (first | ((with_reducible refine gate_dst (N := 8) rfl ?_); refine Kd.R_make (Kd.int .u8) _ 5 rfl (N := 8) rfl 30 _ _ rfl a1 rfl rfl Try.underlying30 (.int .u8 0) 1 info5 rfl (by decide) (by omega) 0 (ok := fun _ => True) (okp := fun _ => True) rfl (fun _ hk => hk) trivial (of_decide_eq_true (by first | (with_reducible assumption) | assumption)) (Nat.le_trans (Nat.mul_le_mul_right _ (of_decide_eq_true (by first | (with_reducible assumption) | assumption) : a1.toNat ≤ 281474976710656)) (by omega)) (Below.refl _ _) (Nat.le_refl _) ?_; intro v190 w5 ho6 hb hg_ hnew_; clear hg_ hnew_; (first | rw [← Ny189.out] at ho6 | (simp only [Int.reduceToNat] at ho6; rw [← Ny189.out] at ho6)); have HO191 := Aside0.mk (Kd.R_lower ho6 (below_size below_a)); replace HB := Aside0.mk (below_step below_a hb); clear hb ho6))
   go_loopg [0, 6] k (fun kq v0 v6 w' => ∃ (x0_1 : Int) (x5_1 : List Int) (x6_1 : Int), v0 = .int .i64 x0_1 ∧ v6 = .int .i64 x6_1 ∧ Aside0 (spec_l1Pack.l0 kq x0_1 x5_1 x6_1 = some r) ∧ Aside0 (kq ≤ k) ∧ Aside0 (Kd.R (Kd.int .u8) 5 w' w.heap.size (fun _ => True) v190 x5_1) ∧ Aside0 (Below w.heap.size w w'))
   case atStart => exact ⟨(a0), (y189), (wrap64 (a1 - 1)), eq_b, eq_b, H', ⟨Nat.le_refl _⟩, ⟨R_a HO191.out⟩, ⟨below_a⟩⟩
   case round =>
    clear H'
    try clear p2
    try clear c3 c3b0 c3b1
    try clear c4 c4b0 c4b1
    try clear c6
    try clear p6
    obtain ⟨x0_1, x5_1, x6_1, rfl, rfl, HA, HK1, HO_5, HB⟩ := hrel
    cases gk with
    | zero => exact absurd HA.out (by simp [spec_l1Pack.l0])
    | succ k1 =>
     have H := HA.out; clear HA; simp only [spec_l1Pack.l0] at H
     by_cases c7 : x6_1 ≥ 0
     ·
      rw [if_pos c7] at H; have c7b0 : decide (0 ≤ x6_1) = true := decide_eq_true c7; clear c7
      by_cases c8 : 0 ≤ x6_1
      ·
       rw [if_pos c8] at H; have c8b0 : decide (0 ≤ x6_1) = true := decide_eq_true c8; clear c8
       by_cases c9 : x6_1 < (x5_1.length : Int)
       ·
        rw [if_pos c9] at H; have c9b0 : decide (x6_1 < (x5_1.length : Int)) = true := decide_eq_true c9; clear c9; obtain ⟨y192, hy192⟩ : ∃ y_ : List Int, y_ = (x5_1.set (x6_1 : Int).toNat ((Int.tmod x0_1 256) % 256)) := ⟨_, rfl⟩; replace H : (spec_l1Pack.l0 k1 (wrap64 (Int.tdiv x0_1 256)) y192 (wrap64 (x6_1 - 1))) = some r := by first | (rw [hy192]; with_reducible exact H) | (have H2_ := (Option.bind_some _ _).symm.trans H; rw [hy192]; with_reducible exact H2_) | (have H2_ := (Option.bind_some _ _).symm.trans H; with_reducible exact H2_) | with_reducible exact H | (rw [hy192]; exact H) | exact H
        have Ny192 := Aside0.mk hy192; clear hy192; have H' := Aside0.mk H; clear H; have p10 : 0 ≤ (x6_1 : Int) := of_decide_eq_true (by first | (with_reducible assumption) | assumption); have q10 : (x6_1 : Int) < ((x5_1.length : Int) : Int) := of_decide_eq_true (by first | (with_reducible assumption) | assumption); obtain ⟨go10, co10, eo10, gb10, gl10, cl10, HG10⟩ := Kd.R_form HO_5.out (by omega); (first | cases eo10 | (injection eo10 with ea_ en_ ec_; (first | subst ea_ | (injection ea_ with ea_; subst ea_)); subst ec_; clear en_)); have GB10 := Aside0.mk gb10; have GG10 := Aside0.mk HG10; clear gb10 gl10 HG10; obtain ⟨hx10_0, hf10_0⟩ := Kd.R_celln 0 HO_5.out (x6_1 : Int) p10 q10; replace p10 := eq_true p10; replace q10 := eq_true q10; have HP11 := Kd.R_putg HO_5.out (x6_1 : Int) ((Int.tmod x0_1 256) % 256)
        go_wp2_with (first | ((with_reducible refine gate_store (t := 5) (p := 20) rfl ?_); refine store_event (t := 5) (p := 20) (v := ?vo_w12) (w1 := (wr.setCell ⟨go10, (x6_1 : Int).toNat, none⟩ (.int .u8 ((Int.tmod x0_1 256) % 256)))) ?hg ?ho ?hn ?hr ?_; (case ho => rfl); (case hg => rfl); (case hn => rfl); (case hr => first | (go_simp; done) | (go_simp; rfl)); intro w12 hw; have hg : wr.grownBy w12 (some go10) := (by rw [hw]; exact HP11.2); have hp_ : Kd.R (Kd.int .u8) 5 w12 w.heap.size (fun _ => True) (.slice (some ⟨go10, 0, none⟩) x5_1.length co10) y192 := (by rw [hw, Ny192.out]; exact HP11.1); clear HP11; replace HO_5 := Aside0.mk (hp_); replace HB := Aside0.mk ((by rw [hw]; exact below_set (HB.out) GB10.out : Below w.heap.size w w12)); clear hg hw hp_))
        go_roundg k1
        case measure => have := HK1.out; omega
        case rel => exact ⟨(wrap64 (Int.tdiv x0_1 256)), (y192), (wrap64 (x6_1 - 1)), eq_b, eq_b, H', ⟨by have := HK1.out; omega⟩, ⟨R_a HO_5.out⟩, ⟨below_a⟩⟩
       ·
        rw [if_neg c9] at H; exact absurd H (by simp)
      ·
       rw [if_neg c8] at H; exact absurd H (by simp)
     ·
      rw [if_neg c7] at H; have c7b0 : decide (0 ≤ x6_1) = false := decide_eq_false c7; clear c7; obtain rfl := Option.some.inj H
      go_wp2
      go_ret
      exact ⟨_, eq_a, R_a HO_5.out, below_a⟩
  ·
   rw [if_neg c4] at H; exact absurd H (by simp)
 ·
  rw [if_neg c3] at H; exact absurd H (by simp)

/-! ### spec_l7Encode: function 52 -/
def spec_l7Encode.j0 : Nat → List Int → Int → Bool → Int → Int → Int → Int → Int → Int → Int → Int → Int → List Int → Option (List Int)
 | 0, _, _, _, _, _, _, _, _, _, _, _, _, _ => none
 | k + 1, x3, x13, x14, x1000, x1001, x1002, x1003, x1004, x1005, x1006, x1007, x1008, x1009 => if x14 = true then ((spec_l1Pack.f k x1001 4).bind fun t196 => (if x3.length + t196.length < 140737488355328 then ((some (x3 ++ t196 : List Int)).bind fun y199 => ((some (([(x1002) % 256] : List Int) : List Int)).bind fun y202 => (if y199.length + y202.length < 140737488355328 then (some (y199 ++ y202)) else (none)))) else (none))) else (if x13 = 2 then ((spec_l1Pack.f k x1001 4).bind fun t208 => (if x3.length + t208.length < 140737488355328 then (some (x3 ++ t208)) else (none))) else (if x13 = 4 then ((some (([(x1003) % 256] : List Int) : List Int)).bind fun y214 => (if x3.length + y214.length < 140737488355328 then ((some (x3 ++ y214 : List Int)).bind fun y217 => ((spec_l1Pack.f k x1004 4).bind fun t220 => (if y217.length + t220.length < 140737488355328 then ((some (y217 ++ t220 : List Int)).bind fun y223 => ((some (([(x1005) % 256] : List Int) : List Int)).bind fun y226 => (if y223.length + y226.length < 140737488355328 then ((some (y223 ++ y226 : List Int)).bind fun y229 => ((spec_l1Pack.f k x1006 4).bind fun t232 => (if y229.length + t232.length < 140737488355328 then (some (y229 ++ t232)) else (none)))) else (none)))) else (none)))) else (none))) else ((some (([(x1007) % 256, (x1008) % 256] : List Int) : List Int)).bind fun y238 => (if x3.length + y238.length < 140737488355328 then ((some (x3 ++ y238 : List Int)).bind fun y241 => (if y241.length + x1009.length < 140737488355328 then (some (y241 ++ x1009)) else (none))) else (none)))))
def spec_l7Encode.f (k : Nat) (a0_0 : Int) (a0_1 : Int) (a0_2 : Int) (a0_3 : Int) (a0_4 : Int) (a0_5 : Int) (a0_6 : Int) (a0_7 : Int) (a0_8 : Int) (l0_9 : List Int) : Option (List Int) := (some (([(a0_0) % 256] : List Int) : List Int)).bind fun y193 => (if a0_0 = 1 then (spec_l7Encode.j0 k y193 a0_0 (a0_0 == 1) a0_0 a0_1 a0_2 a0_3 a0_4 a0_5 a0_6 a0_7 a0_8 l0_9) else (spec_l7Encode.j0 k y193 a0_0 (a0_0 == 3) a0_0 a0_1 a0_2 a0_3 a0_4 a0_5 a0_6 a0_7 a0_8 l0_9))
theorem spec_l7Encode.mono_l : ∀ k, (∀ y0 y1 y2 y3 y4 y5 y6 y7 y8 y9 y10 y11 y12, LeO (spec_l7Encode.j0 k y0 y1 y2 y3 y4 y5 y6 y7 y8 y9 y10 y11 y12) (spec_l7Encode.j0 (k + 1) y0 y1 y2 y3 y4 y5 y6 y7 y8 y9 y10 y11 y12))
 | 0 => fun _ _ _ _ _ _ _ _ _ _ _ _ _ r h => by simp [spec_l7Encode.j0] at h
 | k + 1 => by
  have ih0 := spec_l7Encode.mono_l k
  ·
   intro y0 y1 y2 y3 y4 y5 y6 y7 y8 y9 y10 y11 y12
   unfold spec_l7Encode.j0
   repeat' first
   | (with_reducible exact ih0 _ _ _ _ _ _ _ _ _ _ _ _ _)
   | (with_reducible exact spec_l1Pack.mono _ _ _)
   | (with_reducible exact LeO.refl _)
   | (with_reducible exact LeO.none _)
   | (with_reducible refine LeO.ite ?_ ?_)
   | (with_reducible refine LeO.bind ?_ (fun _ => ?_))
   | exact ih0 _ _ _ _ _ _ _ _ _ _ _ _ _
   | exact spec_l1Pack.mono _ _ _
   | exact LeO.none _
   | refine LeO.ite ?_ ?_
   | refine LeO.bind ?_ (fun _ => ?_)
theorem spec_l7Encode.mono : ∀ a0 a1 a2 a3 a4 a5 a6 a7 a8 a9 k, LeO (spec_l7Encode.f k a0 a1 a2 a3 a4 a5 a6 a7 a8 a9) (spec_l7Encode.f (k + 1) a0 a1 a2 a3 a4 a5 a6 a7 a8 a9) := by
 intro a0 a1 a2 a3 a4 a5 a6 a7 a8 a9 k
 have ih0 := spec_l7Encode.mono_l k
 unfold spec_l7Encode.f
 repeat' first
   | (with_reducible exact ih0 _ _ _ _ _ _ _ _ _ _ _ _ _)
   | (with_reducible exact spec_l1Pack.mono _ _ _)
   | (with_reducible exact LeO.refl _)
   | (with_reducible exact LeO.none _)
   | (with_reducible refine LeO.ite ?_ ?_)
   | (with_reducible refine LeO.bind ?_ (fun _ => ?_))
   | exact ih0 _ _ _ _ _ _ _ _ _ _ _ _ _
   | exact spec_l1Pack.mono _ _ _
   | exact LeO.none _
   | refine LeO.ite ?_ ?_
   | refine LeO.bind ?_ (fun _ => ?_)
def spec_l7Encode.T5 : Bool × List (List Nat × List Nat) := (true, [([], []), ([], []), ([1], [1]), ([2], [2]), ([3], [3]), ([4], [4]), ([0, 5, 5], [0, 5]), ([], []), ([7], [7]), ([8], [8]), ([9], [9]), ([10], [10]), ([11], [11]), ([6, 12, 6], [6, 12]), ([13, 13, 0, 1, 2, 3, 4, 5, 6, 7, 8, 9, 10, 11, 12, 13], [13])])
def spec_l7Encode.B5 : List Nat := [0, 0, 2, 6, 14, 30, 63, 0, 128, 384, 896, 1920, 3968, 8191, 16383]
theorem spec_l7Encode.tab5 : rtab .any (opsOf Try.f52 5) = spec_l7Encode.T5 := by kernel_rfl
theorem spec_l7Encode.bits5 : waitsOk spec_l7Encode.T5.2 spec_l7Encode.B5 = true := by kernel_rfl
def spec_l7Encode.T9 : Bool × List (List Nat × List Nat) := (true, [([], []), ([], []), ([1], [1]), ([2], [2]), ([3], [3]), ([4], [4]), ([5], [5]), ([6], [6]), ([0, 7], [0, 7]), ([], []), ([9], [9]), ([10], [10]), ([11], [11]), ([12], [12]), ([13, 8], [13]), ([8, 14, 14], [8, 14]), ([15, 15, 0, 1, 2, 3, 4, 5, 6, 7, 8, 9, 10, 11, 12, 13, 14, 15], [0, 15])])
def spec_l7Encode.B9 : List Nat := [0, 0, 2, 6, 14, 30, 62, 126, 255, 0, 512, 1536, 3584, 7680, 16383, 32767, 65535]
theorem spec_l7Encode.tab9 : rtab .any (opsOf Try.f52 9) = spec_l7Encode.T9 := by kernel_rfl
theorem spec_l7Encode.bits9 : waitsOk spec_l7Encode.T9.2 spec_l7Encode.B9 = true := by kernel_rfl
def spec_l7Encode.T10 : Bool × List (List Nat × List Nat) := (true, [([], []), ([], []), ([1], [1]), ([2], [2]), ([3], [3]), ([4], [4]), ([5], [5]), ([6], [6]), ([0, 7], [0, 7]), ([], []), ([9], [9]), ([10], [10]), ([11], [11]), ([12], [12]), ([13, 8], [13]), ([8, 14, 14], [8, 14]), ([15, 15, 0, 1, 2, 3, 4, 5, 6, 7, 8, 9, 10, 11, 12, 13, 14, 15], [15])])
def spec_l7Encode.B10 : List Nat := [0, 0, 2, 6, 14, 30, 62, 126, 255, 0, 512, 1536, 3584, 7680, 16383, 32767, 65535]
theorem spec_l7Encode.tab10 : rtab .any (opsOf Try.f52 10) = spec_l7Encode.T10 := by kernel_rfl
theorem spec_l7Encode.bits10 : waitsOk spec_l7Encode.T10.2 spec_l7Encode.B10 = true := by kernel_rfl
def spec_l7Encode.T11 : Bool × List (List Nat × List Nat) := (true, [([], []), ([], []), ([1], [1]), ([2], [2]), ([3], [3]), ([4], [4]), ([], []), ([6], [6]), ([7], [7]), ([8], [8]), ([9], [9]), ([10], [10]), ([5, 11], [5, 11]), ([0, 12], [0, 12]), ([], []), ([14], [14]), ([15], [15]), ([16], [16]), ([17], [17]), ([13, 18, 13], [13, 18]), ([19, 19, 0, 1, 2, 3, 4, 5, 6, 7, 8, 9, 10, 11, 12, 13, 14, 15, 16, 17, 18, 19], [19])])
def spec_l7Encode.B11 : List Nat := [0, 0, 2, 6, 14, 30, 0, 64, 192, 448, 960, 1984, 4094, 8191, 0, 16384, 49152, 114688, 245760, 524287, 1048575]
theorem spec_l7Encode.tab11 : rtab .any (opsOf Try.f52 11) = spec_l7Encode.T11 := by kernel_rfl
theorem spec_l7Encode.bits11 : waitsOk spec_l7Encode.T11.2 spec_l7Encode.B11 = true := by kernel_rfl
set_option maxHeartbeats 8000000 in
set_option maxRecDepth 100000 in
theorem spec_l7Encode.calls (k : Nat) (p : Addr) (a0_0 : Int) (a0_1 : Int) (a0_2 : Int) (a0_3 : Int) (a0_4 : Int) (a0_5 : Int) (a0_6 : Int) (a0_7 : Int) (a0_8 : Int) (A0_9 : Option Addr) (c0_9 : Nat) (l0_9 : List Int) (r : List Int) (w : World) (hr0_9 : Kd.C (Kd.int .u8) w A0_9 l0_9.length l0_9) (hc0_9 : l0_9.length ≤ c0_9) (hxp_0 : w.cell? p = some (.int .i64 a0_0)) (hxp_1 : w.cell? ⟨p.block, p.off + 1, none⟩ = some (.int .i64 a0_1)) (hxp_2 : w.cell? ⟨p.block, p.off + 2, none⟩ = some (.int .i64 a0_2)) (hxp_3 : w.cell? ⟨p.block, p.off + 3, none⟩ = some (.int .i64 a0_3)) (hxp_4 : w.cell? ⟨p.block, p.off + 4, none⟩ = some (.int .i64 a0_4)) (hxp_5 : w.cell? ⟨p.block, p.off + 5, none⟩ = some (.int .i64 a0_5)) (hxp_6 : w.cell? ⟨p.block, p.off + 6, none⟩ = some (.int .i64 a0_6)) (hxp_7 : w.cell? ⟨p.block, p.off + 7, none⟩ = some (.int .i64 a0_7)) (hxp_8 : w.cell? ⟨p.block, p.off + 8, none⟩ = some (.int .i64 a0_8)) (hxp_9 : w.cell? ⟨p.block, p.off + 9, none⟩ = some (.slice A0_9 l0_9.length c0_9)) (h : spec_l7Encode.f k a0_0 a0_1 a0_2 a0_3 a0_4 a0_5 a0_6 a0_7 a0_8 l0_9 = some r) :
  Calls Try.prog 52 #[.pointer (some p)] w fun e w' => ∃ v0_ : Value, e = .returned (v0_) ∧ Kd.R (Kd.int .u8) 5 w' w.heap.size (fun _ => True) v0_ r ∧ Below w.heap.size w w' := by
 have HXP_0 := Aside0.mk hxp_0
 have HXP_1 := Aside0.mk hxp_1
 have HXP_2 := Aside0.mk hxp_2
 have HXP_3 := Aside0.mk hxp_3
 have HXP_4 := Aside0.mk hxp_4
 have HXP_5 := Aside0.mk hxp_5
 have HXP_6 := Aside0.mk hxp_6
 have HXP_7 := Aside0.mk hxp_7
 have HXP_8 := Aside0.mk hxp_8
 have HXP_9 := Aside0.mk hxp_9
 have HLP := Aside0.mk (show p.block < w.heap.size from World.block_lt_of_cell? w _ hxp_0)
 clear hxp_0 hxp_1 hxp_2 hxp_3 hxp_4 hxp_5 hxp_6 hxp_7 hxp_8 hxp_9
 have HR0_9 := Aside0.mk hr0_9
 have HC0_9 := Aside0.mk hc0_9
 clear hr0_9 hc0_9
 have HB := Aside0.mk (Below.refl w.heap.size w)
 have H : ((some (([(a0_0) % 256] : List Int) : List Int)).bind fun y193 => (if a0_0 = 1 then (spec_l7Encode.j0 k y193 a0_0 (a0_0 == 1) a0_0 a0_1 a0_2 a0_3 a0_4 a0_5 a0_6 a0_7 a0_8 l0_9) else (spec_l7Encode.j0 k y193 a0_0 (a0_0 == 3) a0_0 a0_1 a0_2 a0_3 a0_4 a0_5 a0_6 a0_7 a0_8 l0_9))) = some r := h
 clear h
 obtain ⟨y193, hy193⟩ : ∃ y_ : List Int, y_ = (([(a0_0) % 256] : List Int)) := ⟨_, rfl⟩
 replace H : (if a0_0 = 1 then (spec_l7Encode.j0 k y193 a0_0 (a0_0 == 1) a0_0 a0_1 a0_2 a0_3 a0_4 a0_5 a0_6 a0_7 a0_8 l0_9) else (spec_l7Encode.j0 k y193 a0_0 (a0_0 == 3) a0_0 a0_1 a0_2 a0_3 a0_4 a0_5 a0_6 a0_7 a0_8 l0_9)) = some r := by first | (rw [hy193]; with_reducible exact H) | (have H2_ := (Option.bind_some _ _).symm.trans H; rw [hy193]; with_reducible exact H2_) | (have H2_ := (Option.bind_some _ _).symm.trans H; with_reducible exact H2_) | with_reducible exact H | (rw [hy193]; exact H) | exact H
 have Ny193 := Aside0.mk hy193
 clear hy193
 have HC2 := Aside0.mk H
 clear H
 have hcz3_0 : w.cell? p = some (.int .i64 a0_0) := (HB.out.cell (p := p) HLP.out).trans HXP_0.out
 have hcz3_1 : w.cell? ⟨p.block, p.off + 1, none⟩ = some (.int .i64 a0_1) := (HB.out.cell (p := ⟨p.block, p.off + 1, none⟩) HLP.out).trans HXP_1.out
 have hcz3_2 : w.cell? ⟨p.block, p.off + 2, none⟩ = some (.int .i64 a0_2) := (HB.out.cell (p := ⟨p.block, p.off + 2, none⟩) HLP.out).trans HXP_2.out
 have hcz3_3 : w.cell? ⟨p.block, p.off + 3, none⟩ = some (.int .i64 a0_3) := (HB.out.cell (p := ⟨p.block, p.off + 3, none⟩) HLP.out).trans HXP_3.out
 have hcz3_4 : w.cell? ⟨p.block, p.off + 4, none⟩ = some (.int .i64 a0_4) := (HB.out.cell (p := ⟨p.block, p.off + 4, none⟩) HLP.out).trans HXP_4.out
 have hcz3_5 : w.cell? ⟨p.block, p.off + 5, none⟩ = some (.int .i64 a0_5) := (HB.out.cell (p := ⟨p.block, p.off + 5, none⟩) HLP.out).trans HXP_5.out
 have hcz3_6 : w.cell? ⟨p.block, p.off + 6, none⟩ = some (.int .i64 a0_6) := (HB.out.cell (p := ⟨p.block, p.off + 6, none⟩) HLP.out).trans HXP_6.out
 have hcz3_7 : w.cell? ⟨p.block, p.off + 7, none⟩ = some (.int .i64 a0_7) := (HB.out.cell (p := ⟨p.block, p.off + 7, none⟩) HLP.out).trans HXP_7.out
 have hcz3_8 : w.cell? ⟨p.block, p.off + 8, none⟩ = some (.int .i64 a0_8) := (HB.out.cell (p := ⟨p.block, p.off + 8, none⟩) HLP.out).trans HXP_8.out
 have hcz3_9 : w.cell? ⟨p.block, p.off + 9, none⟩ = some (.slice A0_9 l0_9.length c0_9) := (HB.out.cell (p := ⟨p.block, p.off + 9, none⟩) HLP.out).trans HXP_9.out
 go_enter Try.func52, Try.ntmps52
 go_upto_if 14 with (first | ((with_reducible refine gate_dst (N := 9) rfl ?_); refine Kd.R_lit (Kd.int .u8) _ 5 ?hg (N := 9) ?hd (xs := ([(a0_0) % 256] : List Int)) (inner := [.int .u8 ((a0_0) % 256)]) (ok := fun _ => True) (okp := fun _ => True) ?hr ?hp (fun _ hk => hk) trivial (Below.refl _ _) (Nat.le_refl _) (by simp) ?_; (case hd => rfl); (case hg => rfl); (case hr => first | (go_simp; done) | (go_simp; rfl)); (case hp => exact (Reps.one (show Kd.M (Kd.int .u8) _ _ _ ((a0_0) % 256) [.int .u8 ((a0_0) % 256)] from rfl) (Reps.none _ _))); intro v194 w4 ho5 hb hg_ hnew_; clear hg_ hnew_; (first | rw [← Ny193.out] at ho5 | (simp only [Int.reduceToNat] at ho5; rw [← Ny193.out] at ho5)); have HO195 := Aside0.mk (Kd.R_lower ho5 (below_size below_a)); replace HB := Aside0.mk (below_step below_a hb); clear hb ho5; have hcz6_0 : w4.cell? p = some (.int .i64 a0_0) := (HB.out.cell (p := p) HLP.out).trans HXP_0.out; have hcz6_1 : w4.cell? ⟨p.block, p.off + 1, none⟩ = some (.int .i64 a0_1) := (HB.out.cell (p := ⟨p.block, p.off + 1, none⟩) HLP.out).trans HXP_1.out; have hcz6_2 : w4.cell? ⟨p.block, p.off + 2, none⟩ = some (.int .i64 a0_2) := (HB.out.cell (p := ⟨p.block, p.off + 2, none⟩) HLP.out).trans HXP_2.out; have hcz6_3 : w4.cell? ⟨p.block, p.off + 3, none⟩ = some (.int .i64 a0_3) := (HB.out.cell (p := ⟨p.block, p.off + 3, none⟩) HLP.out).trans HXP_3.out; have hcz6_4 : w4.cell? ⟨p.block, p.off + 4, none⟩ = some (.int .i64 a0_4) := (HB.out.cell (p := ⟨p.block, p.off + 4, none⟩) HLP.out).trans HXP_4.out; have hcz6_5 : w4.cell? ⟨p.block, p.off + 5, none⟩ = some (.int .i64 a0_5) := (HB.out.cell (p := ⟨p.block, p.off + 5, none⟩) HLP.out).trans HXP_5.out; have hcz6_6 : w4.cell? ⟨p.block, p.off + 6, none⟩ = some (.int .i64 a0_6) := (HB.out.cell (p := ⟨p.block, p.off + 6, none⟩) HLP.out).trans HXP_6.out; have hcz6_7 : w4.cell? ⟨p.block, p.off + 7, none⟩ = some (.int .i64 a0_7) := (HB.out.cell (p := ⟨p.block, p.off + 7, none⟩) HLP.out).trans HXP_7.out; have hcz6_8 : w4.cell? ⟨p.block, p.off + 8, none⟩ = some (.int .i64 a0_8) := (HB.out.cell (p := ⟨p.block, p.off + 8, none⟩) HLP.out).trans HXP_8.out; have hcz6_9 : w4.cell? ⟨p.block, p.off + 9, none⟩ = some (.slice A0_9 l0_9.length c0_9) := (HB.out.cell (p := ⟨p.block, p.off + 9, none⟩) HLP.out).trans HXP_9.out))
 (try simp only [Act.put, List.setIfInBounds_toArray, List.set_cons_zero, List.set_cons_succ])
 go_cut [14] (fun v14 wc => ∃ (kq : Nat) (x14_1 : Bool), v14 = .bool x14_1 ∧ Aside0 (spec_l7Encode.j0 kq y193 a0_0 x14_1 a0_0 a0_1 a0_2 a0_3 a0_4 a0_5 a0_6 a0_7 a0_8 l0_9 = some r) ∧ Aside0 (kq ≤ k) ∧ Aside0 (Kd.R (Kd.int .u8) 5 wc w.heap.size (fun _ => True) v194 y193) ∧ Aside0 (Below w.heap.size w wc))
 case first =>
  have H := HC2.out; clear HC2
  by_cases c7 : a0_0 = 1
  ·
   rw [if_pos c7] at H; have c7b0 : (a0_0 == 1) = true := beq_iff_eq.mpr c7; have c7b1 : (a0_0 != 1) = false := bne_eq_false_iff_eq.mpr c7; clear c7; (first | rw [c7b0] | (simp only [i64_w, i32_w]; rw [c7b0]) | skip); have H' := Aside0.mk H; clear H
   go_wp2
   go_meet
   case rel => exact ⟨_, ((a0_0 == 1)), eq_b, H', ⟨by first | omega | exact Nat.le_refl _⟩, ⟨R_a HO195.out⟩, ⟨below_a⟩⟩
  ·
   rw [if_neg c7] at H; have c7b0 : (a0_0 == 1) = false := beq_eq_false_iff_ne.mpr c7; have c7b1 : (a0_0 != 1) = true := bne_iff_ne.mpr c7; (first | rw [c7b0] | (simp only [i64_w, i32_w]; rw [c7b0]) | skip); have H' := Aside0.mk H; clear H
   go_wp2
   go_meet
   case rel => exact ⟨_, ((a0_0 == 3)), eq_b, H', ⟨by first | omega | exact Nat.le_refl _⟩, ⟨R_a HO195.out⟩, ⟨below_a⟩⟩
 case rest =>
  clear HC2
  try clear p2
  try clear c5
  try clear c7 c7b0 c7b1
  try clear hcz3_0 hcz3_1 hcz3_2 hcz3_3 hcz3_4 hcz3_5 hcz3_6 hcz3_7 hcz3_8 hcz3_9
  try clear hcz6_0 hcz6_1 hcz6_2 hcz6_3 hcz6_4 hcz6_5 hcz6_6 hcz6_7 hcz6_8 hcz6_9
  obtain ⟨kq, x14_1, rfl, HA, HJ1, HO_3, HB⟩ := hcut
  cases kq with
  | zero => exact absurd HA.out (by simp [spec_l7Encode.j0])
  | succ kj1 =>
   have H := HA.out; clear HA; simp only [spec_l7Encode.j0] at H
   by_cases c8 : x14_1 = true
   ·
    subst c8; have H1 : ((spec_l1Pack.f kj1 a0_1 4).bind fun t196 => (if y193.length + t196.length < 140737488355328 then ((some (y193 ++ t196 : List Int)).bind fun y199 => ((some (([(a0_2) % 256] : List Int) : List Int)).bind fun y202 => (if y199.length + y202.length < 140737488355328 then (some (y199 ++ y202)) else (none)))) else (none))) = some r := by rw [if_pos rfl] at H; exact H
    clear H; have H := H1; clear H1; replace H := Option.bind_eq_some_iff.mp H; obtain ⟨t196, A90, H⟩ := H; replace H : (if y193.length + t196.length < 140737488355328 then ((some (y193 ++ t196 : List Int)).bind fun y199 => ((some (([(a0_2) % 256] : List Int) : List Int)).bind fun y202 => (if y199.length + y202.length < 140737488355328 then (some (y199 ++ y202)) else (none)))) else (none)) = some r := H; have A9 := Aside0.mk A90; clear A90
    by_cases c10 : y193.length + t196.length < 140737488355328
    ·
     rw [if_pos c10] at H; have LMc10 := Aside0.mk c10; clear c10; obtain ⟨y199, hy199⟩ : ∃ y_ : List Int, y_ = (y193 ++ t196) := ⟨_, rfl⟩; replace H : ((some (([(a0_2) % 256] : List Int) : List Int)).bind fun y202 => (if y199.length + y202.length < 140737488355328 then (some (y199 ++ y202)) else (none))) = some r := by first | (rw [hy199]; with_reducible exact H) | (have H2_ := (Option.bind_some _ _).symm.trans H; rw [hy199]; with_reducible exact H2_) | (have H2_ := (Option.bind_some _ _).symm.trans H; with_reducible exact H2_) | with_reducible exact H | (rw [hy199]; exact H) | exact H
     have Ny199 := Aside0.mk hy199; clear hy199; obtain ⟨y202, hy202⟩ : ∃ y_ : List Int, y_ = (([(a0_2) % 256] : List Int)) := ⟨_, rfl⟩; replace H : (if y199.length + y202.length < 140737488355328 then (some (y199 ++ y202)) else (none)) = some r := by first | (rw [hy202]; with_reducible exact H) | (have H2_ := (Option.bind_some _ _).symm.trans H; rw [hy202]; with_reducible exact H2_) | (have H2_ := (Option.bind_some _ _).symm.trans H; with_reducible exact H2_) | with_reducible exact H | (rw [hy202]; exact H) | exact H
     have Ny202 := Aside0.mk hy202; clear hy202
     by_cases c11 : y199.length + y202.length < 140737488355328
     ·
      rw [if_pos c11] at H; have LMc11 := Aside0.mk c11; clear c11; obtain ⟨y205, hy205⟩ : ∃ y_ : List Int, y_ = (y199 ++ y202) := ⟨_, rfl⟩; replace H : (some y205) = some r := by first | (rw [hy205]; with_reducible exact H) | (have H2_ := (Option.bind_some _ _).symm.trans H; rw [hy205]; with_reducible exact H2_) | (have H2_ := (Option.bind_some _ _).symm.trans H; with_reducible exact H2_) | with_reducible exact H | (rw [hy205]; exact H) | exact H
      have Ny205 := Aside0.mk hy205; clear hy205; obtain rfl := Option.some.inj H; obtain ⟨Ao12, co12, eo12⟩ := Kd.R_slice HO_3.out; subst eo12
      try go_wp2
      replace HO_3 := Aside0.mk (Kd.R_drew HO_3.out); replace HB := Aside0.mk (below_drew1 HB.out); refine start_ (n := 15) (S := fun w' => w'.cell? p = some (.int .i64 a0_0) ∧ w'.cell? ⟨p.block, p.off + 1, none⟩ = some (.int .i64 a0_1) ∧ w'.cell? ⟨p.block, p.off + 2, none⟩ = some (.int .i64 a0_2) ∧ w'.cell? ⟨p.block, p.off + 3, none⟩ = some (.int .i64 a0_3) ∧ w'.cell? ⟨p.block, p.off + 4, none⟩ = some (.int .i64 a0_4) ∧ w'.cell? ⟨p.block, p.off + 5, none⟩ = some (.int .i64 a0_5) ∧ w'.cell? ⟨p.block, p.off + 6, none⟩ = some (.int .i64 a0_6) ∧ w'.cell? ⟨p.block, p.off + 7, none⟩ = some (.int .i64 a0_7) ∧ w'.cell? ⟨p.block, p.off + 8, none⟩ = some (.int .i64 a0_8) ∧ w'.cell? ⟨p.block, p.off + 9, none⟩ = some (.slice A0_9 l0_9.length c0_9)) (ds := []) #[Z',Z',Z',Z',Z',Z',Z',Z',Z',Z',Z',Z',Z',Z',Z'] (by kernel_rfl) rfl rfl ⟨((HB.out.cell (p := p) HLP.out).trans HXP_0.out), ((HB.out.cell (p := ⟨p.block, p.off + 1, none⟩) HLP.out).trans HXP_1.out), ((HB.out.cell (p := ⟨p.block, p.off + 2, none⟩) HLP.out).trans HXP_2.out), ((HB.out.cell (p := ⟨p.block, p.off + 3, none⟩) HLP.out).trans HXP_3.out), ((HB.out.cell (p := ⟨p.block, p.off + 4, none⟩) HLP.out).trans HXP_4.out), ((HB.out.cell (p := ⟨p.block, p.off + 5, none⟩) HLP.out).trans HXP_5.out), ((HB.out.cell (p := ⟨p.block, p.off + 6, none⟩) HLP.out).trans HXP_6.out), ((HB.out.cell (p := ⟨p.block, p.off + 7, none⟩) HLP.out).trans HXP_7.out), ((HB.out.cell (p := ⟨p.block, p.off + 8, none⟩) HLP.out).trans HXP_8.out), ((HB.out.cell (p := ⟨p.block, p.off + 9, none⟩) HLP.out).trans HXP_9.out)⟩ (fun hHeld => ?_); refine with_tabW spec_l7Encode.tab5 spec_l7Encode.bits5 (fun HT_ HW_ => ?_); generalize wc.drew = w13 at HO_3 HB hHeld ⊢; refine pure_ (i := 0) (N := some 17) (v := ?_) (a' := ?_) #[Y',Z',Z',Z',Z',Z',Z',Z',Z',Z',Z',Z',Z',Z',Z'] rfl rfl (any_of HT_.out (by kernel_rfl)) (fun _ _ _ h => h) (Or.inl ⟨by rfl, ?_⟩) ?_ ?_; rotate_left
      ·
       intro w'
       go_simp
       with_reducible rfl
      rotate_left
      ·
       simp only [Act.put, List.setIfInBounds_toArray, List.set_cons_zero, List.set_cons_succ, i64_w, i32_w]; rfl
      refine pure_ (i := 1) (N := some 18) (v := ?_) (a' := ?_) #[Y',Y',Z',Z',Z',Z',Z',Z',Z',Z',Z',Z',Z',Z',Z'] rfl rfl (any_of HT_.out (by kernel_rfl)) (fun _ _ _ h => h) (Or.inl ⟨by rfl, ?_⟩) ?_ ?_; rotate_left
      ·
       intro w'
       go_simp
       with_reducible rfl
      rotate_left
      ·
       simp only [Act.put, List.setIfInBounds_toArray, List.set_cons_zero, List.set_cons_succ, i64_w, i32_w]; rfl
      refine pure_ (i := 2) (N := some 19) (v := ?_) (a' := ?_) #[Y',Y',Y',Z',Z',Z',Z',Z',Z',Z',Z',Z',Z',Z',Z'] rfl rfl (any_of HT_.out (by kernel_rfl)) (fun _ _ _ h => h) (Or.inl ⟨by rfl, ?_⟩) ?_ ?_; rotate_left
      ·
       intro w'
       go_simp
       with_reducible rfl
      rotate_left
      ·
       simp only [Act.put, List.setIfInBounds_toArray, List.set_cons_zero, List.set_cons_succ, i64_w, i32_w]; rfl
      refine pure_ (i := 3) (N := some 20) (v := ?_) (a' := ?_) #[Y',Y',Y',Y',Z',Z',Z',Z',Z',Z',Z',Z',Z',Z',Z'] rfl rfl (any_of HT_.out (by kernel_rfl)) (fun _ _ _ h => h) (Or.inl ⟨by rfl, ?_⟩) ?_ ?_; rotate_left
      ·
       intro w'
       go_simp
       with_reducible rfl
      rotate_left
      ·
       simp only [Act.put, List.setIfInBounds_toArray, List.set_cons_zero, List.set_cons_succ, i64_w, i32_w]; rfl
      refine pure_ (i := 7) (N := some 24) (v := ?_) (a' := ?_) #[Y',Y',Y',Y',Z',Z',Z',Y',Z',Z',Z',Z',Z',Z',Z'] rfl rfl (any_of HT_.out (by kernel_rfl)) (fun _ _ _ h => h) (Or.inl ⟨by rfl, ?_⟩) ?_ ?_; rotate_left
      ·
       intro w'
       go_simp
       with_reducible rfl
      rotate_left
      ·
       simp only [Act.put, List.setIfInBounds_toArray, List.set_cons_zero, List.set_cons_succ, i64_w, i32_w]; rfl
      refine pure_ (i := 8) (N := some 25) (v := ?_) (a' := ?_) #[Y',Y',Y',Y',Z',Z',Z',Y',Y',Z',Z',Z',Z',Z',Z'] rfl rfl (any_of HT_.out (by kernel_rfl)) (fun _ _ _ h => h) (Or.inl ⟨by rfl, ?_⟩) ?_ ?_; rotate_left
      ·
       intro w'
       go_simp
       with_reducible rfl
      rotate_left
      ·
       simp only [Act.put, List.setIfInBounds_toArray, List.set_cons_zero, List.set_cons_succ, i64_w, i32_w]; rfl
      refine pure_ (i := 9) (N := some 26) (v := ?_) (a' := ?_) #[Y',Y',Y',Y',Z',Z',Z',Y',Y',Y',Z',Z',Z',Z',Z'] rfl rfl (any_of HT_.out (by kernel_rfl)) (fun _ _ _ h => h) (Or.inl ⟨by rfl, ?_⟩) ?_ ?_; rotate_left
      ·
       intro w'
       go_simp
       with_reducible rfl
      rotate_left
      ·
       simp only [Act.put, List.setIfInBounds_toArray, List.set_cons_zero, List.set_cons_succ, i64_w, i32_w]; rfl
      refine take_ (i := 4) (N := some 21) (v := ?_) (a' := ?_) #[Y',Y',Y',Y',Y',Z',Z',Y',Y',Y',Z',Z',Z',Z',Z'] rfl rfl (take_ofW HT_.out HW_.out (by kernel_rfl)) (fun _ _ _ h => h) (Or.inl ⟨by rfl, ?_⟩) hHeld ?_ ?_; rotate_left
      ·
       rintro w' ⟨s0, s1, s2, s3, s4, s5, s6, s7, s8, s9⟩
       go_simp
       with_reducible rfl
      rotate_left
      ·
       simp only [Act.put, List.setIfInBounds_toArray, List.set_cons_zero, List.set_cons_succ, i64_w, i32_w]; rfl
      refine take_ (i := 10) (N := some 27) (v := ?_) (a' := ?_) #[Y',Y',Y',Y',Y',Z',Z',Y',Y',Y',Y',Z',Z',Z',Z'] rfl rfl (take_ofW HT_.out HW_.out (by kernel_rfl)) (fun _ _ _ h => h) (Or.inl ⟨by rfl, ?_⟩) hHeld ?_ ?_; rotate_left
      ·
       rintro w' ⟨s0, s1, s2, s3, s4, s5, s6, s7, s8, s9⟩
       go_simp
       with_reducible rfl
      rotate_left
      ·
       simp only [Act.put, List.setIfInBounds_toArray, List.set_cons_zero, List.set_cons_succ, i64_w, i32_w]; rfl
      refine pure_ (i := 11) (N := some 28) (v := ?_) (a' := ?_) #[Y',Y',Y',Y',Y',Z',Z',Y',Y',Y',Y',Y',Z',Z',Z'] rfl rfl (any_of HT_.out (by kernel_rfl)) (fun _ _ _ h => h) (Or.inl ⟨by rfl, ?_⟩) ?_ ?_; rotate_left
      ·
       intro w'
       go_simp
       with_reducible rfl
      rotate_left
      ·
       simp only [Act.put, List.setIfInBounds_toArray, List.set_cons_zero, List.set_cons_succ, i64_w, i32_w]; rfl
      refine join_ (σ := Value × Value × Value) 2 #[Y',Y',Y',Y',Y',Y',Y',Y',Y',Y',Y',Y',Y',Z',Z'] (fun s_ => [(22, s_.1), (23, s_.2.1), (29, s_.2.2)]) (fun s_ w' => (w'.cell? p = some (.int .i64 a0_0) ∧ w'.cell? ⟨p.block, p.off + 1, none⟩ = some (.int .i64 a0_1) ∧ w'.cell? ⟨p.block, p.off + 2, none⟩ = some (.int .i64 a0_2) ∧ w'.cell? ⟨p.block, p.off + 3, none⟩ = some (.int .i64 a0_3) ∧ w'.cell? ⟨p.block, p.off + 4, none⟩ = some (.int .i64 a0_4) ∧ w'.cell? ⟨p.block, p.off + 5, none⟩ = some (.int .i64 a0_5) ∧ w'.cell? ⟨p.block, p.off + 6, none⟩ = some (.int .i64 a0_6) ∧ w'.cell? ⟨p.block, p.off + 7, none⟩ = some (.int .i64 a0_7) ∧ w'.cell? ⟨p.block, p.off + 8, none⟩ = some (.int .i64 a0_8) ∧ w'.cell? ⟨p.block, p.off + 9, none⟩ = some (.slice A0_9 l0_9.length c0_9)) ∧ (Kd.R (Kd.int .u8) 5 w' w.heap.size (fun k_ => some k_ ≠ (s_.2.1 : Value).ownBlock ∧ some k_ ≠ (s_.2.2 : Value).ownBlock) s_.1 t196) ∧ (Kd.R (Kd.int .u8) 5 w' w.heap.size (fun k_ => some k_ ≠ (s_.1 : Value).ownBlock ∧ some k_ ≠ (s_.2.2 : Value).ownBlock) s_.2.1 y199) ∧ (Kd.R (Kd.int .u8) 5 w' w.heap.size (fun k_ => some k_ ≠ (s_.1 : Value).ownBlock ∧ some k_ ≠ (s_.2.1 : Value).ownBlock) s_.2.2 y202) ∧ (Below w.heap.size w w')) ?_ ?_; rotate_left
      ·
       intro hCont; refine two_ (i := 5) (j := 12) (Ni := some 22) (Nj := some 29) #[Y',Y',Y',Y',Y',Y',Z',Y',Y',Y',Y',Y',Z',Z',Z'] #[Y',Y',Y',Y',Y',Z',Z',Y',Y',Y',Y',Y',Y',Z',Z'] rfl rfl rfl rfl (two_of HT_.out (by kernel_rfl)) (by decide) (by decide) (fun K hK => ?_) (fun K hK => ?_)
       ·
        refine goes_ Try.func65 (by kernel_rfl) rfl #[.int .i64 a0_1, .int .i64 4] (by rfl) rfl rfl args_a ?_
        with_reducible refine (spec_l1Pack.calls kj1 a0_1 4 t196 _ A9.out).mono ?_
        rintro e w14 ⟨v197, rfl, ho0, hb⟩; refine ⟨_, rfl, ?_⟩; have n0_ := Aside0.mk (Kd.R_elder' (R_a HO_3.out) (Kd.R_base ho0) hb); have HO198 := Aside0.mk (Kd.R_lower (Kd.R_new' ho0 (Kd.R_lt (R_a HO_3.out))) (below_size below_a)); replace HB := Aside0.mk (below_step below_a hb); replace HO_3 := n0_; clear n0_; (try clear hb); (try clear hb2); (try clear hk); (try clear hi); (try clear ho0); obtain ⟨Ao16, co16, eo16⟩ := Kd.R_slice HO198.out; (first | subst eo16 | (injection eo16 with f1_ f2_ f3_; have f4_ := f1_.symm; have f5_ := f3_.symm; clear f1_ f2_ f3_; subst f4_; subst f5_)); refine hK.out _ _ ⟨((HB.out.cell (p := p) HLP.out).trans HXP_0.out), ((HB.out.cell (p := ⟨p.block, p.off + 1, none⟩) HLP.out).trans HXP_1.out), ((HB.out.cell (p := ⟨p.block, p.off + 2, none⟩) HLP.out).trans HXP_2.out), ((HB.out.cell (p := ⟨p.block, p.off + 3, none⟩) HLP.out).trans HXP_3.out), ((HB.out.cell (p := ⟨p.block, p.off + 4, none⟩) HLP.out).trans HXP_4.out), ((HB.out.cell (p := ⟨p.block, p.off + 5, none⟩) HLP.out).trans HXP_5.out), ((HB.out.cell (p := ⟨p.block, p.off + 6, none⟩) HLP.out).trans HXP_6.out), ((HB.out.cell (p := ⟨p.block, p.off + 7, none⟩) HLP.out).trans HXP_7.out), ((HB.out.cell (p := ⟨p.block, p.off + 8, none⟩) HLP.out).trans HXP_8.out), ((HB.out.cell (p := ⟨p.block, p.off + 9, none⟩) HLP.out).trans HXP_9.out)⟩ (fun hHeld => ?_); clear hK K; refine norm_ (a' := ?_) ?_ ?_; rotate_left
        ·
         show Act.put _ (some 22) _ = _; simp only [Act.put, List.setIfInBounds_toArray, List.set_cons_zero, List.set_cons_succ, i64_w, i32_w]; rfl
        refine two_ (i := 6) (j := 12) (Ni := some 23) (Nj := some 29) #[Y',Y',Y',Y',Y',Y',Y',Y',Y',Y',Y',Y',Z',Z',Z'] #[Y',Y',Y',Y',Y',Y',Z',Y',Y',Y',Y',Y',Y',Z',Z'] rfl rfl rfl rfl (two_of HT_.out (by kernel_rfl)) (by decide) (by decide) (fun K hK => ?_) (fun K hK => ?_)
        ·
         refine Kd.R_append_rows_step (Kd.int .u8) (w0 := w) w.heap.size (by rfl) (.tmp 17) (.tmp 22) 30 5 (.int .u8 0) 1 rfl Try.underlying30 info5 rfl (by decide) (by omega) (.slice Ao12 y193.length co12) y193 t196 _ _ _ (fun k_ => some k_ ≠ (.slice Ao16 t196.length co16 : Value).ownBlock) (fun _ => False) rfl rfl ?aO ?aR (fun _ _ h => h) (fun _ h => h.elim) ?aF ?aB ?aS ?aL ?_; (case aR => repeat (first | exact (Kd.R_reads' HO198.out).2.2 | (with_reducible refine Kd.C_alloc ?_ _) | (with_reducible refine Kd.C_drewN ?_ _) | (with_reducible refine Kd.C_drew ?_))); (case aB => exact below_a); (case aF => exact (fun k_ hk => Kd.fresh' (Kd.R_lt (R_a HO198.out)) k_ hk)); (case aO => exact (by (with_reducible repeat (first | apply Kd.R_alloc | apply Kd.R_drewN | apply Kd.R_drew)); exact Kd.R_mono HO_3.out (fun _ hk => hk.2))); (case aS => exact (below_size below_a)); (case aL => have := LMc10.out; omega); intro v200 w15 ho hb hg hat; rw [← Ny199.out] at ho; replace HO198 := Aside0.mk (Kd.R_after (ok := (fun _ => True)) (R_a HO198.out) hg hat); replace HB := Aside0.mk (hb); have HO201 := Aside0.mk (ho); clear HO_3 ho hb hg hat; refine hK.out _ _ ⟨((HB.out.cell (p := p) HLP.out).trans HXP_0.out), ((HB.out.cell (p := ⟨p.block, p.off + 1, none⟩) HLP.out).trans HXP_1.out), ((HB.out.cell (p := ⟨p.block, p.off + 2, none⟩) HLP.out).trans HXP_2.out), ((HB.out.cell (p := ⟨p.block, p.off + 3, none⟩) HLP.out).trans HXP_3.out), ((HB.out.cell (p := ⟨p.block, p.off + 4, none⟩) HLP.out).trans HXP_4.out), ((HB.out.cell (p := ⟨p.block, p.off + 5, none⟩) HLP.out).trans HXP_5.out), ((HB.out.cell (p := ⟨p.block, p.off + 6, none⟩) HLP.out).trans HXP_6.out), ((HB.out.cell (p := ⟨p.block, p.off + 7, none⟩) HLP.out).trans HXP_7.out), ((HB.out.cell (p := ⟨p.block, p.off + 8, none⟩) HLP.out).trans HXP_8.out), ((HB.out.cell (p := ⟨p.block, p.off + 9, none⟩) HLP.out).trans HXP_9.out)⟩ (fun hHeld => ?_); clear hK K; refine norm_ (a' := ?_) ?_ ?_; rotate_left
         ·
          show Act.put _ (some 23) _ = _; simp only [Act.put, List.setIfInBounds_toArray, List.set_cons_zero, List.set_cons_succ, i64_w, i32_w]; rfl
         refine one_ (i := 12) (N := some 29) #[Y',Y',Y',Y',Y',Y',Y',Y',Y',Y',Y',Y',Y',Z',Z'] rfl rfl (one_of HT_.out (by kernel_rfl)) (by decide) (fun K hK => ?_); refine Kd.R_lit_step (Kd.int .u8) _ 5 ?hg (N := 29) ?hd (xs := ([(a0_2) % 256] : List Int)) (inner := [.int .u8 ((a0_2) % 256)]) (ok := fun _ => True) (okp := fun _ => True) ?hr ?hp (fun _ hk => hk) trivial (Below.refl _ _) (Nat.le_refl _) (by simp) ?_; (case hd => rfl); (case hg => rfl); (case hr => first | (go_simp; done) | (go_simp; rfl)); (case hp => exact (Reps.one (show Kd.M (Kd.int .u8) _ _ _ ((a0_2) % 256) [.int .u8 ((a0_2) % 256)] from rfl) (Reps.none _ _))); intro v203 w17 ho18 hb hg_ hnew_; clear hg_ hnew_; (first | rw [← Ny202.out] at ho18 | (simp only [Int.reduceToNat] at ho18; rw [← Ny202.out] at ho18)); have n0_ := Aside0.mk (Kd.R_elder' (R_a HO198.out) (Kd.R_base ho18) hb); have n1_ := Aside0.mk (Kd.R_elder' (R_a HO201.out) (Kd.R_base ho18) hb); have HO204 := Aside0.mk (Kd.R_lower (Kd.R_new' (Kd.R_new' ho18 (Kd.R_lt (R_a HO198.out))) (Kd.R_lt (R_a HO201.out))) (below_size below_a)); replace HB := Aside0.mk (below_step below_a hb); replace HO198 := n0_; replace HO201 := n1_; clear n0_ n1_ hb ho18; refine hK.out _ _ ⟨((HB.out.cell (p := p) HLP.out).trans HXP_0.out), ((HB.out.cell (p := ⟨p.block, p.off + 1, none⟩) HLP.out).trans HXP_1.out), ((HB.out.cell (p := ⟨p.block, p.off + 2, none⟩) HLP.out).trans HXP_2.out), ((HB.out.cell (p := ⟨p.block, p.off + 3, none⟩) HLP.out).trans HXP_3.out), ((HB.out.cell (p := ⟨p.block, p.off + 4, none⟩) HLP.out).trans HXP_4.out), ((HB.out.cell (p := ⟨p.block, p.off + 5, none⟩) HLP.out).trans HXP_5.out), ((HB.out.cell (p := ⟨p.block, p.off + 6, none⟩) HLP.out).trans HXP_6.out), ((HB.out.cell (p := ⟨p.block, p.off + 7, none⟩) HLP.out).trans HXP_7.out), ((HB.out.cell (p := ⟨p.block, p.off + 8, none⟩) HLP.out).trans HXP_8.out), ((HB.out.cell (p := ⟨p.block, p.off + 9, none⟩) HLP.out).trans HXP_9.out)⟩ (fun hHeld => ?_); clear hK K; refine norm_ (a' := ?_) ?_ ?_; rotate_left
         ·
          show Act.put _ (some 29) _ = _; simp only [Act.put, List.setIfInBounds_toArray, List.set_cons_zero, List.set_cons_succ, i64_w, i32_w]; rfl
         exact norm_ (by simp only [putAll, Act.put, List.setIfInBounds_toArray, List.set_cons_zero, List.set_cons_succ]) (hCont (.slice Ao16 t196.length co16, v200, v203) _ ⟨hHeld, (by (with_reducible repeat (first | apply Kd.R_alloc | apply Kd.R_drewN | apply Kd.R_drew)); exact Kd.R_mono HO198.out (fun _ hk => ⟨hk.1.2, hk.2⟩)), (R_a HO201.out), (by (with_reducible repeat (first | apply Kd.R_alloc | apply Kd.R_drewN | apply Kd.R_drew)); exact Kd.R_mono HO204.out (fun _ hk => ⟨hk.1.2, hk.2⟩)), below_a⟩)
        ·
         refine Kd.R_lit_step (Kd.int .u8) _ 5 ?hg (N := 29) ?hd (xs := ([(a0_2) % 256] : List Int)) (inner := [.int .u8 ((a0_2) % 256)]) (ok := fun _ => True) (okp := fun _ => True) ?hr ?hp (fun _ hk => hk) trivial (Below.refl _ _) (Nat.le_refl _) (by simp) ?_; (case hd => rfl); (case hg => rfl); (case hr => first | (go_simp; done) | (go_simp; rfl)); (case hp => exact (Reps.one (show Kd.M (Kd.int .u8) _ _ _ ((a0_2) % 256) [.int .u8 ((a0_2) % 256)] from rfl) (Reps.none _ _))); intro v203 w15 ho16 hb hg_ hnew_; clear hg_ hnew_; (first | rw [← Ny202.out] at ho16 | (simp only [Int.reduceToNat] at ho16; rw [← Ny202.out] at ho16)); have n0_ := Aside0.mk (Kd.R_elder' (R_a HO_3.out) (Kd.R_base ho16) hb); have n1_ := Aside0.mk (Kd.R_elder' (R_a HO198.out) (Kd.R_base ho16) hb); have HO204 := Aside0.mk (Kd.R_lower (Kd.R_new' (Kd.R_new' ho16 (Kd.R_lt (R_a HO_3.out))) (Kd.R_lt (R_a HO198.out))) (below_size below_a)); replace HB := Aside0.mk (below_step below_a hb); replace HO_3 := n0_; replace HO198 := n1_; clear n0_ n1_ hb ho16; obtain ⟨Ao18, co18, eo18⟩ := Kd.R_slice HO198.out; (first | subst eo18 | (injection eo18 with f1_ f2_ f3_; have f4_ := f1_.symm; have f5_ := f3_.symm; clear f1_ f2_ f3_; subst f4_; subst f5_)); refine hK.out _ _ ⟨((HB.out.cell (p := p) HLP.out).trans HXP_0.out), ((HB.out.cell (p := ⟨p.block, p.off + 1, none⟩) HLP.out).trans HXP_1.out), ((HB.out.cell (p := ⟨p.block, p.off + 2, none⟩) HLP.out).trans HXP_2.out), ((HB.out.cell (p := ⟨p.block, p.off + 3, none⟩) HLP.out).trans HXP_3.out), ((HB.out.cell (p := ⟨p.block, p.off + 4, none⟩) HLP.out).trans HXP_4.out), ((HB.out.cell (p := ⟨p.block, p.off + 5, none⟩) HLP.out).trans HXP_5.out), ((HB.out.cell (p := ⟨p.block, p.off + 6, none⟩) HLP.out).trans HXP_6.out), ((HB.out.cell (p := ⟨p.block, p.off + 7, none⟩) HLP.out).trans HXP_7.out), ((HB.out.cell (p := ⟨p.block, p.off + 8, none⟩) HLP.out).trans HXP_8.out), ((HB.out.cell (p := ⟨p.block, p.off + 9, none⟩) HLP.out).trans HXP_9.out)⟩ (fun hHeld => ?_); clear hK K; refine norm_ (a' := ?_) ?_ ?_; rotate_left
         ·
          show Act.put _ (some 29) _ = _; simp only [Act.put, List.setIfInBounds_toArray, List.set_cons_zero, List.set_cons_succ, i64_w, i32_w]; rfl
         refine one_ (i := 6) (N := some 23) #[Y',Y',Y',Y',Y',Y',Y',Y',Y',Y',Y',Y',Y',Z',Z'] rfl rfl (one_of HT_.out (by kernel_rfl)) (by decide) (fun K hK => ?_); refine Kd.R_append_rows_step (Kd.int .u8) (w0 := w) w.heap.size (by rfl) (.tmp 17) (.tmp 22) 30 5 (.int .u8 0) 1 rfl Try.underlying30 info5 rfl (by decide) (by omega) (.slice Ao12 y193.length co12) y193 t196 _ _ _ (fun k_ => some k_ ≠ (.slice Ao18 t196.length co18 : Value).ownBlock ∧ some k_ ≠ (v203 : Value).ownBlock) (fun _ => False) rfl rfl ?aO ?aR (fun _ _ h => h) (fun _ h => h.elim) ?aF ?aB ?aS ?aL ?_; (case aR => repeat (first | exact (Kd.R_reads' HO198.out).2.2 | (with_reducible refine Kd.C_alloc ?_ _) | (with_reducible refine Kd.C_drewN ?_ _) | (with_reducible refine Kd.C_drew ?_))); (case aB => exact below_a); (case aF => exact (fun k_ hk => ⟨Kd.fresh' (Kd.R_lt (R_a HO198.out)) k_ hk, Kd.fresh' (Kd.R_lt (R_a HO204.out)) k_ hk⟩)); (case aO => exact (by (with_reducible repeat (first | apply Kd.R_alloc | apply Kd.R_drewN | apply Kd.R_drew)); exact Kd.R_mono HO_3.out (fun _ hk => ⟨hk.1.2, hk.2⟩))); (case aS => exact (below_size below_a)); (case aL => have := LMc10.out; omega); intro v200 w17 ho hb hg hat; rw [← Ny199.out] at ho; replace HO198 := Aside0.mk (Kd.R_after (ok := (fun k_ => some k_ ≠ (v203 : Value).ownBlock)) (by (with_reducible repeat (first | apply Kd.R_alloc | apply Kd.R_drewN | apply Kd.R_drew)); exact Kd.R_mono HO198.out (fun _ hk => ⟨hk.2, hk.1.2⟩)) hg hat); replace HO204 := Aside0.mk (Kd.R_after (ok := (fun k_ => some k_ ≠ (.slice Ao18 t196.length co18 : Value).ownBlock)) (by (with_reducible repeat (first | apply Kd.R_alloc | apply Kd.R_drewN | apply Kd.R_drew)); exact Kd.R_mono HO204.out (fun _ hk => ⟨hk.2, hk.1.2⟩)) hg hat); replace HB := Aside0.mk (hb); have HO201 := Aside0.mk (ho); clear HO_3 ho hb hg hat; refine hK.out _ _ ⟨((HB.out.cell (p := p) HLP.out).trans HXP_0.out), ((HB.out.cell (p := ⟨p.block, p.off + 1, none⟩) HLP.out).trans HXP_1.out), ((HB.out.cell (p := ⟨p.block, p.off + 2, none⟩) HLP.out).trans HXP_2.out), ((HB.out.cell (p := ⟨p.block, p.off + 3, none⟩) HLP.out).trans HXP_3.out), ((HB.out.cell (p := ⟨p.block, p.off + 4, none⟩) HLP.out).trans HXP_4.out), ((HB.out.cell (p := ⟨p.block, p.off + 5, none⟩) HLP.out).trans HXP_5.out), ((HB.out.cell (p := ⟨p.block, p.off + 6, none⟩) HLP.out).trans HXP_6.out), ((HB.out.cell (p := ⟨p.block, p.off + 7, none⟩) HLP.out).trans HXP_7.out), ((HB.out.cell (p := ⟨p.block, p.off + 8, none⟩) HLP.out).trans HXP_8.out), ((HB.out.cell (p := ⟨p.block, p.off + 9, none⟩) HLP.out).trans HXP_9.out)⟩ (fun hHeld => ?_); clear hK K; refine norm_ (a' := ?_) ?_ ?_; rotate_left
         ·
          show Act.put _ (some 23) _ = _; simp only [Act.put, List.setIfInBounds_toArray, List.set_cons_zero, List.set_cons_succ, i64_w, i32_w]; rfl
         exact norm_ (by simp only [putAll, Act.put, List.setIfInBounds_toArray, List.set_cons_zero, List.set_cons_succ]) (hCont (.slice Ao18 t196.length co18, v200, v203) _ ⟨hHeld, (by (with_reducible repeat (first | apply Kd.R_alloc | apply Kd.R_drewN | apply Kd.R_drew)); exact Kd.R_mono HO198.out (fun _ hk => ⟨hk.2, hk.1⟩)), (R_a HO201.out), (R_a HO204.out), below_a⟩)
       ·
        refine Kd.R_lit_step (Kd.int .u8) _ 5 ?hg (N := 29) ?hd (xs := ([(a0_2) % 256] : List Int)) (inner := [.int .u8 ((a0_2) % 256)]) (ok := fun _ => True) (okp := fun _ => True) ?hr ?hp (fun _ hk => hk) trivial (Below.refl _ _) (Nat.le_refl _) (by simp) ?_; (case hd => rfl); (case hg => rfl); (case hr => first | (go_simp; done) | (go_simp; rfl)); (case hp => exact (Reps.one (show Kd.M (Kd.int .u8) _ _ _ ((a0_2) % 256) [.int .u8 ((a0_2) % 256)] from rfl) (Reps.none _ _))); intro v203 w14 ho15 hb hg_ hnew_; clear hg_ hnew_; (first | rw [← Ny202.out] at ho15 | (simp only [Int.reduceToNat] at ho15; rw [← Ny202.out] at ho15)); have n0_ := Aside0.mk (Kd.R_elder' (R_a HO_3.out) (Kd.R_base ho15) hb); have HO204 := Aside0.mk (Kd.R_lower (Kd.R_new' ho15 (Kd.R_lt (R_a HO_3.out))) (below_size below_a)); replace HB := Aside0.mk (below_step below_a hb); replace HO_3 := n0_; clear n0_ hb ho15; refine hK.out _ _ ⟨((HB.out.cell (p := p) HLP.out).trans HXP_0.out), ((HB.out.cell (p := ⟨p.block, p.off + 1, none⟩) HLP.out).trans HXP_1.out), ((HB.out.cell (p := ⟨p.block, p.off + 2, none⟩) HLP.out).trans HXP_2.out), ((HB.out.cell (p := ⟨p.block, p.off + 3, none⟩) HLP.out).trans HXP_3.out), ((HB.out.cell (p := ⟨p.block, p.off + 4, none⟩) HLP.out).trans HXP_4.out), ((HB.out.cell (p := ⟨p.block, p.off + 5, none⟩) HLP.out).trans HXP_5.out), ((HB.out.cell (p := ⟨p.block, p.off + 6, none⟩) HLP.out).trans HXP_6.out), ((HB.out.cell (p := ⟨p.block, p.off + 7, none⟩) HLP.out).trans HXP_7.out), ((HB.out.cell (p := ⟨p.block, p.off + 8, none⟩) HLP.out).trans HXP_8.out), ((HB.out.cell (p := ⟨p.block, p.off + 9, none⟩) HLP.out).trans HXP_9.out)⟩ (fun hHeld => ?_); clear hK K; refine norm_ (a' := ?_) ?_ ?_; rotate_left
        ·
         show Act.put _ (some 29) _ = _; simp only [Act.put, List.setIfInBounds_toArray, List.set_cons_zero, List.set_cons_succ, i64_w, i32_w]; rfl
        refine one_ (i := 5) (N := some 22) #[Y',Y',Y',Y',Y',Y',Z',Y',Y',Y',Y',Y',Y',Z',Z'] rfl rfl (one_of HT_.out (by kernel_rfl)) (by decide) (fun K hK => ?_); refine goes_ Try.func65 (by kernel_rfl) rfl #[.int .i64 a0_1, .int .i64 4] (by rfl) rfl rfl args_a ?_
        with_reducible refine (spec_l1Pack.calls kj1 a0_1 4 t196 _ A9.out).mono ?_
        rintro e w16 ⟨v197, rfl, ho0, hb⟩; refine ⟨_, rfl, ?_⟩; have n0_ := Aside0.mk (Kd.R_elder' (R_a HO_3.out) (Kd.R_base ho0) hb); have n1_ := Aside0.mk (Kd.R_elder' (R_a HO204.out) (Kd.R_base ho0) hb); have HO198 := Aside0.mk (Kd.R_lower (Kd.R_new' (Kd.R_new' ho0 (Kd.R_lt (R_a HO_3.out))) (Kd.R_lt (R_a HO204.out))) (below_size below_a)); replace HB := Aside0.mk (below_step below_a hb); replace HO_3 := n0_; replace HO204 := n1_; clear n0_ n1_; (try clear hb); (try clear hb2); (try clear hk); (try clear hi); (try clear ho0); obtain ⟨Ao18, co18, eo18⟩ := Kd.R_slice HO198.out; (first | subst eo18 | (injection eo18 with f1_ f2_ f3_; have f4_ := f1_.symm; have f5_ := f3_.symm; clear f1_ f2_ f3_; subst f4_; subst f5_)); refine hK.out _ _ ⟨((HB.out.cell (p := p) HLP.out).trans HXP_0.out), ((HB.out.cell (p := ⟨p.block, p.off + 1, none⟩) HLP.out).trans HXP_1.out), ((HB.out.cell (p := ⟨p.block, p.off + 2, none⟩) HLP.out).trans HXP_2.out), ((HB.out.cell (p := ⟨p.block, p.off + 3, none⟩) HLP.out).trans HXP_3.out), ((HB.out.cell (p := ⟨p.block, p.off + 4, none⟩) HLP.out).trans HXP_4.out), ((HB.out.cell (p := ⟨p.block, p.off + 5, none⟩) HLP.out).trans HXP_5.out), ((HB.out.cell (p := ⟨p.block, p.off + 6, none⟩) HLP.out).trans HXP_6.out), ((HB.out.cell (p := ⟨p.block, p.off + 7, none⟩) HLP.out).trans HXP_7.out), ((HB.out.cell (p := ⟨p.block, p.off + 8, none⟩) HLP.out).trans HXP_8.out), ((HB.out.cell (p := ⟨p.block, p.off + 9, none⟩) HLP.out).trans HXP_9.out)⟩ (fun hHeld => ?_); clear hK K; refine norm_ (a' := ?_) ?_ ?_; rotate_left
        ·
         show Act.put _ (some 22) _ = _; simp only [Act.put, List.setIfInBounds_toArray, List.set_cons_zero, List.set_cons_succ, i64_w, i32_w]; rfl
        refine one_ (i := 6) (N := some 23) #[Y',Y',Y',Y',Y',Y',Y',Y',Y',Y',Y',Y',Y',Z',Z'] rfl rfl (one_of HT_.out (by kernel_rfl)) (by decide) (fun K hK => ?_); refine Kd.R_append_rows_step (Kd.int .u8) (w0 := w) w.heap.size (by rfl) (.tmp 17) (.tmp 22) 30 5 (.int .u8 0) 1 rfl Try.underlying30 info5 rfl (by decide) (by omega) (.slice Ao12 y193.length co12) y193 t196 _ _ _ (fun k_ => some k_ ≠ (v203 : Value).ownBlock ∧ some k_ ≠ (.slice Ao18 t196.length co18 : Value).ownBlock) (fun _ => False) rfl rfl ?aO ?aR (fun _ _ h => h) (fun _ h => h.elim) ?aF ?aB ?aS ?aL ?_; (case aR => repeat (first | exact (Kd.R_reads' HO198.out).2.2 | (with_reducible refine Kd.C_alloc ?_ _) | (with_reducible refine Kd.C_drewN ?_ _) | (with_reducible refine Kd.C_drew ?_))); (case aB => exact below_a); (case aF => exact (fun k_ hk => ⟨Kd.fresh' (Kd.R_lt (R_a HO204.out)) k_ hk, Kd.fresh' (Kd.R_lt (R_a HO198.out)) k_ hk⟩)); (case aO => exact (by (with_reducible repeat (first | apply Kd.R_alloc | apply Kd.R_drewN | apply Kd.R_drew)); exact Kd.R_mono HO_3.out (fun _ hk => ⟨hk.1.2, hk.2⟩))); (case aS => exact (below_size below_a)); (case aL => have := LMc10.out; omega); intro v200 w17 ho hb hg hat; rw [← Ny199.out] at ho; replace HO204 := Aside0.mk (Kd.R_after (ok := (fun k_ => some k_ ≠ (.slice Ao18 t196.length co18 : Value).ownBlock)) (by (with_reducible repeat (first | apply Kd.R_alloc | apply Kd.R_drewN | apply Kd.R_drew)); exact Kd.R_mono HO204.out (fun _ hk => ⟨hk.2, hk.1.2⟩)) hg hat); replace HO198 := Aside0.mk (Kd.R_after (ok := (fun k_ => some k_ ≠ (v203 : Value).ownBlock)) (by (with_reducible repeat (first | apply Kd.R_alloc | apply Kd.R_drewN | apply Kd.R_drew)); exact Kd.R_mono HO198.out (fun _ hk => ⟨hk.2, hk.1.2⟩)) hg hat); replace HB := Aside0.mk (hb); have HO201 := Aside0.mk (ho); clear HO_3 ho hb hg hat; refine hK.out _ _ ⟨((HB.out.cell (p := p) HLP.out).trans HXP_0.out), ((HB.out.cell (p := ⟨p.block, p.off + 1, none⟩) HLP.out).trans HXP_1.out), ((HB.out.cell (p := ⟨p.block, p.off + 2, none⟩) HLP.out).trans HXP_2.out), ((HB.out.cell (p := ⟨p.block, p.off + 3, none⟩) HLP.out).trans HXP_3.out), ((HB.out.cell (p := ⟨p.block, p.off + 4, none⟩) HLP.out).trans HXP_4.out), ((HB.out.cell (p := ⟨p.block, p.off + 5, none⟩) HLP.out).trans HXP_5.out), ((HB.out.cell (p := ⟨p.block, p.off + 6, none⟩) HLP.out).trans HXP_6.out), ((HB.out.cell (p := ⟨p.block, p.off + 7, none⟩) HLP.out).trans HXP_7.out), ((HB.out.cell (p := ⟨p.block, p.off + 8, none⟩) HLP.out).trans HXP_8.out), ((HB.out.cell (p := ⟨p.block, p.off + 9, none⟩) HLP.out).trans HXP_9.out)⟩ (fun hHeld => ?_); clear hK K; refine norm_ (a' := ?_) ?_ ?_; rotate_left
        ·
         show Act.put _ (some 23) _ = _; simp only [Act.put, List.setIfInBounds_toArray, List.set_cons_zero, List.set_cons_succ, i64_w, i32_w]; rfl
        exact norm_ (by simp only [putAll, Act.put, List.setIfInBounds_toArray, List.set_cons_zero, List.set_cons_succ]) (hCont (.slice Ao18 t196.length co18, v200, v203) _ ⟨hHeld, (by (with_reducible repeat (first | apply Kd.R_alloc | apply Kd.R_drewN | apply Kd.R_drew)); exact Kd.R_mono HO198.out (fun _ hk => ⟨hk.2, hk.1⟩)), (by (with_reducible repeat (first | apply Kd.R_alloc | apply Kd.R_drewN | apply Kd.R_drew)); exact Kd.R_mono HO201.out (fun _ hk => ⟨hk.2, hk.1⟩)), (R_a HO204.out), below_a⟩)
      rintro ⟨v197, v200, v203⟩ w19 ⟨hS_, h0_, h1_, h2_, h3_⟩
      try dsimp only at hS_ h0_ h1_ h2_ h3_
      clear HO_3 HB; have HO198 := Aside0.mk h0_; have HO201 := Aside0.mk h1_; have HO204 := Aside0.mk h2_; have HB := Aside0.mk h3_; clear h0_ h1_ h2_ h3_; have hHeld : w19.cell? p = some (.int .i64 a0_0) ∧ w19.cell? ⟨p.block, p.off + 1, none⟩ = some (.int .i64 a0_1) ∧ w19.cell? ⟨p.block, p.off + 2, none⟩ = some (.int .i64 a0_2) ∧ w19.cell? ⟨p.block, p.off + 3, none⟩ = some (.int .i64 a0_3) ∧ w19.cell? ⟨p.block, p.off + 4, none⟩ = some (.int .i64 a0_4) ∧ w19.cell? ⟨p.block, p.off + 5, none⟩ = some (.int .i64 a0_5) ∧ w19.cell? ⟨p.block, p.off + 6, none⟩ = some (.int .i64 a0_6) ∧ w19.cell? ⟨p.block, p.off + 7, none⟩ = some (.int .i64 a0_7) ∧ w19.cell? ⟨p.block, p.off + 8, none⟩ = some (.int .i64 a0_8) ∧ w19.cell? ⟨p.block, p.off + 9, none⟩ = some (.slice A0_9 l0_9.length c0_9) := hS_; obtain ⟨Ao21, co21, eo21⟩ := Kd.R_slice HO204.out; (first | subst eo21 | (injection eo21 with f1_ f2_ f3_; have f4_ := f1_.symm; have f5_ := f3_.symm; clear f1_ f2_ f3_; subst f4_; subst f5_)); refine norm_ (a' := ?_) ?_ ?_; rotate_left
      ·
       simp only [putAll, Act.put, List.setIfInBounds_toArray, List.set_cons_zero, List.set_cons_succ]; rfl
      refine one_ (i := 13) (N := some 30) #[Y',Y',Y',Y',Y',Y',Y',Y',Y',Y',Y',Y',Y',Y',Z'] rfl rfl (one_of HT_.out (by kernel_rfl)) (by decide) (fun K hK => ?_); refine Kd.R_append_rows_step (Kd.int .u8) (w0 := w) w.heap.size (by rfl) (.tmp 23) (.tmp 29) 30 5 (.int .u8 0) 1 rfl Try.underlying30 info5 rfl (by decide) (by omega) v200 y199 y202 _ _ _ (fun k_ => some k_ ≠ (v197 : Value).ownBlock ∧ some k_ ≠ (.slice Ao21 y202.length co21 : Value).ownBlock) (fun _ => False) rfl rfl ?aO ?aR (fun _ _ h => h) (fun _ h => h.elim) ?aF ?aB ?aS ?aL ?_; (case aR => repeat (first | exact (Kd.R_reads' HO204.out).2.2 | (with_reducible refine Kd.C_alloc ?_ _) | (with_reducible refine Kd.C_drewN ?_ _) | (with_reducible refine Kd.C_drew ?_))); (case aB => exact below_a); (case aF => exact (fun k_ hk => ⟨Kd.fresh' (Kd.R_lt (R_a HO198.out)) k_ hk, Kd.fresh' (Kd.R_lt (R_a HO204.out)) k_ hk⟩)); (case aO => exact (R_a HO201.out)); (case aS => exact (below_size below_a)); (case aL => have := LMc11.out; omega); intro v206 w20 ho hb hg hat; rw [← Ny205.out] at ho; replace HO198 := Aside0.mk (Kd.R_after (ok := (fun k_ => some k_ ≠ (.slice Ao21 y202.length co21 : Value).ownBlock)) (by (with_reducible repeat (first | apply Kd.R_alloc | apply Kd.R_drewN | apply Kd.R_drew)); exact Kd.R_mono HO198.out (fun _ hk => ⟨hk.2, hk.1⟩)) hg hat); replace HO204 := Aside0.mk (Kd.R_after (ok := (fun k_ => some k_ ≠ (v197 : Value).ownBlock)) (R_a HO204.out) hg hat); replace HB := Aside0.mk (hb); have HO207 := Aside0.mk (ho); clear HO201 ho hb hg hat; refine hK.out _ _ ⟨((HB.out.cell (p := p) HLP.out).trans HXP_0.out), ((HB.out.cell (p := ⟨p.block, p.off + 1, none⟩) HLP.out).trans HXP_1.out), ((HB.out.cell (p := ⟨p.block, p.off + 2, none⟩) HLP.out).trans HXP_2.out), ((HB.out.cell (p := ⟨p.block, p.off + 3, none⟩) HLP.out).trans HXP_3.out), ((HB.out.cell (p := ⟨p.block, p.off + 4, none⟩) HLP.out).trans HXP_4.out), ((HB.out.cell (p := ⟨p.block, p.off + 5, none⟩) HLP.out).trans HXP_5.out), ((HB.out.cell (p := ⟨p.block, p.off + 6, none⟩) HLP.out).trans HXP_6.out), ((HB.out.cell (p := ⟨p.block, p.off + 7, none⟩) HLP.out).trans HXP_7.out), ((HB.out.cell (p := ⟨p.block, p.off + 8, none⟩) HLP.out).trans HXP_8.out), ((HB.out.cell (p := ⟨p.block, p.off + 9, none⟩) HLP.out).trans HXP_9.out)⟩ (fun hHeld => ?_); clear hK K; refine norm_ (a' := ?_) ?_ ?_; rotate_left
      ·
       show Act.put _ (some 30) _ = _; simp only [Act.put, List.setIfInBounds_toArray, List.set_cons_zero, List.set_cons_succ, i64_w, i32_w]; rfl
      refine pure_ (i := 14) (N := some 2) (v := ?_) (a' := ?_) #[Y',Y',Y',Y',Y',Y',Y',Y',Y',Y',Y',Y',Y',Y',Y'] rfl rfl (any_of HT_.out (by kernel_rfl)) (fun _ _ _ h => h) (Or.inl ⟨by rfl, ?_⟩) ?_ ?_; rotate_left
      ·
       intro w'
       go_simp
       with_reducible rfl
      rotate_left
      ·
       simp only [Act.put, List.setIfInBounds_toArray, List.set_cons_zero, List.set_cons_succ, i64_w, i32_w]; rfl
      refine done_ (done_of HT_.out (by kernel_rfl)) ?_
      try go_wp2
      go_ret
      exact ⟨_, eq_a, by (with_reducible repeat (first | apply Kd.R_alloc | apply Kd.R_drewN | apply Kd.R_drew)); exact Kd.R_mono HO207.out (fun _ hk => trivial), below_a⟩
     ·
      rw [if_neg c11] at H; exact absurd H (by simp)
    ·
     rw [if_neg c10] at H; exact absurd H (by simp)
   ·
    replace c8 := Bool.eq_false_iff.mpr c8; subst c8; have H1 : (if a0_0 = 2 then ((spec_l1Pack.f kj1 a0_1 4).bind fun t208 => (if y193.length + t208.length < 140737488355328 then (some (y193 ++ t208)) else (none))) else (if a0_0 = 4 then ((some (([(a0_3) % 256] : List Int) : List Int)).bind fun y214 => (if y193.length + y214.length < 140737488355328 then ((some (y193 ++ y214 : List Int)).bind fun y217 => ((spec_l1Pack.f kj1 a0_4 4).bind fun t220 => (if y217.length + t220.length < 140737488355328 then ((some (y217 ++ t220 : List Int)).bind fun y223 => ((some (([(a0_5) % 256] : List Int) : List Int)).bind fun y226 => (if y223.length + y226.length < 140737488355328 then ((some (y223 ++ y226 : List Int)).bind fun y229 => ((spec_l1Pack.f kj1 a0_6 4).bind fun t232 => (if y229.length + t232.length < 140737488355328 then (some (y229 ++ t232)) else (none)))) else (none)))) else (none)))) else (none))) else ((some (([(a0_7) % 256, (a0_8) % 256] : List Int) : List Int)).bind fun y238 => (if y193.length + y238.length < 140737488355328 then ((some (y193 ++ y238 : List Int)).bind fun y241 => (if y241.length + l0_9.length < 140737488355328 then (some (y241 ++ l0_9)) else (none))) else (none))))) = some r := by rw [if_neg (show ¬ (false = true) by decide)] at H; exact H
    clear H; have H := H1; clear H1
    by_cases c22 : a0_0 = 2
    ·
     rw [if_pos c22] at H; have c22b0 : (a0_0 == 2) = true := beq_iff_eq.mpr c22; have c22b1 : (a0_0 != 2) = false := bne_eq_false_iff_eq.mpr c22; clear c22; replace H := Option.bind_eq_some_iff.mp H; obtain ⟨t208, A230, H⟩ := H; replace H : (if y193.length + t208.length < 140737488355328 then (some (y193 ++ t208)) else (none)) = some r := H; have A23 := Aside0.mk A230; clear A230
     by_cases c24 : y193.length + t208.length < 140737488355328
     ·
      rw [if_pos c24] at H; have LMc24 := Aside0.mk c24; clear c24; obtain ⟨y211, hy211⟩ : ∃ y_ : List Int, y_ = (y193 ++ t208) := ⟨_, rfl⟩; replace H : (some y211) = some r := by first | (rw [hy211]; with_reducible exact H) | (have H2_ := (Option.bind_some _ _).symm.trans H; rw [hy211]; with_reducible exact H2_) | (have H2_ := (Option.bind_some _ _).symm.trans H; with_reducible exact H2_) | with_reducible exact H | (rw [hy211]; exact H) | exact H
      have Ny211 := Aside0.mk hy211; clear hy211; obtain rfl := Option.some.inj H; have hcz25_0 : wc.cell? p = some (.int .i64 a0_0) := (HB.out.cell (p := p) HLP.out).trans HXP_0.out; have hcz25_1 : wc.cell? ⟨p.block, p.off + 1, none⟩ = some (.int .i64 a0_1) := (HB.out.cell (p := ⟨p.block, p.off + 1, none⟩) HLP.out).trans HXP_1.out; have hcz25_2 : wc.cell? ⟨p.block, p.off + 2, none⟩ = some (.int .i64 a0_2) := (HB.out.cell (p := ⟨p.block, p.off + 2, none⟩) HLP.out).trans HXP_2.out; have hcz25_3 : wc.cell? ⟨p.block, p.off + 3, none⟩ = some (.int .i64 a0_3) := (HB.out.cell (p := ⟨p.block, p.off + 3, none⟩) HLP.out).trans HXP_3.out; have hcz25_4 : wc.cell? ⟨p.block, p.off + 4, none⟩ = some (.int .i64 a0_4) := (HB.out.cell (p := ⟨p.block, p.off + 4, none⟩) HLP.out).trans HXP_4.out; have hcz25_5 : wc.cell? ⟨p.block, p.off + 5, none⟩ = some (.int .i64 a0_5) := (HB.out.cell (p := ⟨p.block, p.off + 5, none⟩) HLP.out).trans HXP_5.out; have hcz25_6 : wc.cell? ⟨p.block, p.off + 6, none⟩ = some (.int .i64 a0_6) := (HB.out.cell (p := ⟨p.block, p.off + 6, none⟩) HLP.out).trans HXP_6.out; have hcz25_7 : wc.cell? ⟨p.block, p.off + 7, none⟩ = some (.int .i64 a0_7) := (HB.out.cell (p := ⟨p.block, p.off + 7, none⟩) HLP.out).trans HXP_7.out; have hcz25_8 : wc.cell? ⟨p.block, p.off + 8, none⟩ = some (.int .i64 a0_8) := (HB.out.cell (p := ⟨p.block, p.off + 8, none⟩) HLP.out).trans HXP_8.out; have hcz25_9 : wc.cell? ⟨p.block, p.off + 9, none⟩ = some (.slice A0_9 l0_9.length c0_9) := (HB.out.cell (p := ⟨p.block, p.off + 9, none⟩) HLP.out).trans HXP_9.out
      go_wp2_with (first | ((with_reducible refine gate_callee (f := 65) rfl ?_); refine goesL_ (some 38) rfl rfl Try.func65 (by kernel_rfl) rfl #[.int .i64 a0_1, .int .i64 4] rfl args_a ?_; (with_reducible refine (spec_l1Pack.calls kj1 a0_1 4 t208 _ A23.out).mono ?_); rintro e w26 ⟨v209, rfl, ho0, hb⟩; refine ⟨_, rfl, ?_⟩; have n0_ := Aside0.mk (Kd.R_elder' (R_a HO_3.out) (Kd.R_base ho0) hb); have HO210 := Aside0.mk (Kd.R_lower (Kd.R_new' ho0 (Kd.R_lt (R_a HO_3.out))) (below_size below_a)); replace HB := Aside0.mk (below_step below_a hb); replace HO_3 := n0_; clear n0_; (try clear hb); (try clear hb2); (try clear hk); (try clear hi); (try clear ho0); obtain ⟨Ao28, co28, eo28⟩ := Kd.R_slice HO210.out; subst eo28) | ((with_reducible refine gate_builtin (b := .append) (xs := #[.tmp 33, .tmp 38]) rfl ?_); at_builtin; refine Kd.R_append_rows (Kd.int .u8) (w0 := w) w.heap.size rfl (.tmp 33) (.tmp 38) 30 5 (.int .u8 0) 1 rfl Try.underlying30 info5 rfl (by decide) (by omega) v194 y193 t208 _ _ _ (fun k_ => some k_ ≠ (.slice Ao28 t208.length co28 : Value).ownBlock) (fun _ => False) rfl rfl ?aO ?aR (fun _ _ h => h) (fun _ h => h.elim) ?aF ?aB ?aS ?aL ?_; (case aR => repeat (first | exact (Kd.R_reads' HO210.out).2.2 | (with_reducible refine Kd.C_alloc ?_ _) | (with_reducible refine Kd.C_drewN ?_ _) | (with_reducible refine Kd.C_drew ?_))); (case aB => exact below_a); (case aF => exact (fun k_ hk => Kd.fresh' (Kd.R_lt (R_a HO210.out)) k_ hk)); (case aO => exact (by (with_reducible repeat (first | apply Kd.R_alloc | apply Kd.R_drewN | apply Kd.R_drew)); exact Kd.R_mono HO_3.out (fun _ hk => hk.2))); (case aS => exact (below_size below_a)); (case aL => have := LMc24.out; omega); intro v212 w27 ho hb hg hat; rw [← Ny211.out] at ho; replace HO210 := Aside0.mk (Kd.R_after (ok := (fun _ => True)) (R_a HO210.out) hg hat); replace HB := Aside0.mk (hb); have HO213 := Aside0.mk (ho); clear HO_3; clear ho hb hg hat))
      go_ret
      exact ⟨_, eq_a, by (with_reducible repeat (first | apply Kd.R_alloc | apply Kd.R_drewN | apply Kd.R_drew)); exact Kd.R_mono HO213.out (fun _ hk => trivial), below_a⟩
     ·
      rw [if_neg c24] at H; exact absurd H (by simp)
    ·
     rw [if_neg c22] at H; have c22b0 : (a0_0 == 2) = false := beq_eq_false_iff_ne.mpr c22; have c22b1 : (a0_0 != 2) = true := bne_iff_ne.mpr c22
     by_cases c29 : a0_0 = 4
     ·
      rw [if_pos c29] at H; have c29b0 : (a0_0 == 4) = true := beq_iff_eq.mpr c29; have c29b1 : (a0_0 != 4) = false := bne_eq_false_iff_eq.mpr c29; clear c29; obtain ⟨y214, hy214⟩ : ∃ y_ : List Int, y_ = (([(a0_3) % 256] : List Int)) := ⟨_, rfl⟩; replace H : (if y193.length + y214.length < 140737488355328 then ((some (y193 ++ y214 : List Int)).bind fun y217 => ((spec_l1Pack.f kj1 a0_4 4).bind fun t220 => (if y217.length + t220.length < 140737488355328 then ((some (y217 ++ t220 : List Int)).bind fun y223 => ((some (([(a0_5) % 256] : List Int) : List Int)).bind fun y226 => (if y223.length + y226.length < 140737488355328 then ((some (y223 ++ y226 : List Int)).bind fun y229 => ((spec_l1Pack.f kj1 a0_6 4).bind fun t232 => (if y229.length + t232.length < 140737488355328 then (some (y229 ++ t232)) else (none)))) else (none)))) else (none)))) else (none)) = some r := by first | (rw [hy214]; with_reducible exact H) | (have H2_ := (Option.bind_some _ _).symm.trans H; rw [hy214]; with_reducible exact H2_) | (have H2_ := (Option.bind_some _ _).symm.trans H; with_reducible exact H2_) | with_reducible exact H | (rw [hy214]; exact H) | exact H
      have Ny214 := Aside0.mk hy214; clear hy214
      by_cases c30 : y193.length + y214.length < 140737488355328
      ·
       rw [if_pos c30] at H; have LMc30 := Aside0.mk c30; clear c30; obtain ⟨y217, hy217⟩ : ∃ y_ : List Int, y_ = (y193 ++ y214) := ⟨_, rfl⟩; replace H : ((spec_l1Pack.f kj1 a0_4 4).bind fun t220 => (if y217.length + t220.length < 140737488355328 then ((some (y217 ++ t220 : List Int)).bind fun y223 => ((some (([(a0_5) % 256] : List Int) : List Int)).bind fun y226 => (if y223.length + y226.length < 140737488355328 then ((some (y223 ++ y226 : List Int)).bind fun y229 => ((spec_l1Pack.f kj1 a0_6 4).bind fun t232 => (if y229.length + t232.length < 140737488355328 then (some (y229 ++ t232)) else (none)))) else (none)))) else (none))) = some r := by first | (rw [hy217]; with_reducible exact H) | (have H2_ := (Option.bind_some _ _).symm.trans H; rw [hy217]; with_reducible exact H2_) | (have H2_ := (Option.bind_some _ _).symm.trans H; with_reducible exact H2_) | with_reducible exact H | (rw [hy217]; exact H) | exact H
       have Ny217 := Aside0.mk hy217; clear hy217; replace H := Option.bind_eq_some_iff.mp H; obtain ⟨t220, A310, H⟩ := H; replace H : (if y217.length + t220.length < 140737488355328 then ((some (y217 ++ t220 : List Int)).bind fun y223 => ((some (([(a0_5) % 256] : List Int) : List Int)).bind fun y226 => (if y223.length + y226.length < 140737488355328 then ((some (y223 ++ y226 : List Int)).bind fun y229 => ((spec_l1Pack.f kj1 a0_6 4).bind fun t232 => (if y229.length + t232.length < 140737488355328 then (some (y229 ++ t232)) else (none)))) else (none)))) else (none)) = some r := H; have A31 := Aside0.mk A310; clear A310
       by_cases c32 : y217.length + t220.length < 140737488355328
       ·
        rw [if_pos c32] at H; have LMc32 := Aside0.mk c32; clear c32; obtain ⟨y223, hy223⟩ : ∃ y_ : List Int, y_ = (y217 ++ t220) := ⟨_, rfl⟩; replace H : ((some (([(a0_5) % 256] : List Int) : List Int)).bind fun y226 => (if y223.length + y226.length < 140737488355328 then ((some (y223 ++ y226 : List Int)).bind fun y229 => ((spec_l1Pack.f kj1 a0_6 4).bind fun t232 => (if y229.length + t232.length < 140737488355328 then (some (y229 ++ t232)) else (none)))) else (none))) = some r := by first | (rw [hy223]; with_reducible exact H) | (have H2_ := (Option.bind_some _ _).symm.trans H; rw [hy223]; with_reducible exact H2_) | (have H2_ := (Option.bind_some _ _).symm.trans H; with_reducible exact H2_) | with_reducible exact H | (rw [hy223]; exact H) | exact H
        have Ny223 := Aside0.mk hy223; clear hy223; obtain ⟨y226, hy226⟩ : ∃ y_ : List Int, y_ = (([(a0_5) % 256] : List Int)) := ⟨_, rfl⟩; replace H : (if y223.length + y226.length < 140737488355328 then ((some (y223 ++ y226 : List Int)).bind fun y229 => ((spec_l1Pack.f kj1 a0_6 4).bind fun t232 => (if y229.length + t232.length < 140737488355328 then (some (y229 ++ t232)) else (none)))) else (none)) = some r := by first | (rw [hy226]; with_reducible exact H) | (have H2_ := (Option.bind_some _ _).symm.trans H; rw [hy226]; with_reducible exact H2_) | (have H2_ := (Option.bind_some _ _).symm.trans H; with_reducible exact H2_) | with_reducible exact H | (rw [hy226]; exact H) | exact H
        have Ny226 := Aside0.mk hy226; clear hy226
        by_cases c33 : y223.length + y226.length < 140737488355328
        ·
         rw [if_pos c33] at H; have LMc33 := Aside0.mk c33; clear c33; obtain ⟨y229, hy229⟩ : ∃ y_ : List Int, y_ = (y223 ++ y226) := ⟨_, rfl⟩; replace H : ((spec_l1Pack.f kj1 a0_6 4).bind fun t232 => (if y229.length + t232.length < 140737488355328 then (some (y229 ++ t232)) else (none))) = some r := by first | (rw [hy229]; with_reducible exact H) | (have H2_ := (Option.bind_some _ _).symm.trans H; rw [hy229]; with_reducible exact H2_) | (have H2_ := (Option.bind_some _ _).symm.trans H; with_reducible exact H2_) | with_reducible exact H | (rw [hy229]; exact H) | exact H
         have Ny229 := Aside0.mk hy229; clear hy229; replace H := Option.bind_eq_some_iff.mp H; obtain ⟨t232, A340, H⟩ := H; replace H : (if y229.length + t232.length < 140737488355328 then (some (y229 ++ t232)) else (none)) = some r := H; have A34 := Aside0.mk A340; clear A340
         by_cases c35 : y229.length + t232.length < 140737488355328
         ·
          rw [if_pos c35] at H; have LMc35 := Aside0.mk c35; clear c35; obtain ⟨y235, hy235⟩ : ∃ y_ : List Int, y_ = (y229 ++ t232) := ⟨_, rfl⟩; replace H : (some y235) = some r := by first | (rw [hy235]; with_reducible exact H) | (have H2_ := (Option.bind_some _ _).symm.trans H; rw [hy235]; with_reducible exact H2_) | (have H2_ := (Option.bind_some _ _).symm.trans H; with_reducible exact H2_) | with_reducible exact H | (rw [hy235]; exact H) | exact H
          have Ny235 := Aside0.mk hy235; clear hy235; obtain rfl := Option.some.inj H
          try go_wp2
          replace HO_3 := Aside0.mk (Kd.R_drew HO_3.out); replace HB := Aside0.mk (below_drew1 HB.out); refine start_ (n := 17) (S := fun w' => w'.cell? p = some (.int .i64 a0_0) ∧ w'.cell? ⟨p.block, p.off + 1, none⟩ = some (.int .i64 a0_1) ∧ w'.cell? ⟨p.block, p.off + 2, none⟩ = some (.int .i64 a0_2) ∧ w'.cell? ⟨p.block, p.off + 3, none⟩ = some (.int .i64 a0_3) ∧ w'.cell? ⟨p.block, p.off + 4, none⟩ = some (.int .i64 a0_4) ∧ w'.cell? ⟨p.block, p.off + 5, none⟩ = some (.int .i64 a0_5) ∧ w'.cell? ⟨p.block, p.off + 6, none⟩ = some (.int .i64 a0_6) ∧ w'.cell? ⟨p.block, p.off + 7, none⟩ = some (.int .i64 a0_7) ∧ w'.cell? ⟨p.block, p.off + 8, none⟩ = some (.int .i64 a0_8) ∧ w'.cell? ⟨p.block, p.off + 9, none⟩ = some (.slice A0_9 l0_9.length c0_9)) (ds := []) #[Z',Z',Z',Z',Z',Z',Z',Z',Z',Z',Z',Z',Z',Z',Z',Z',Z'] (by kernel_rfl) rfl rfl ⟨((HB.out.cell (p := p) HLP.out).trans HXP_0.out), ((HB.out.cell (p := ⟨p.block, p.off + 1, none⟩) HLP.out).trans HXP_1.out), ((HB.out.cell (p := ⟨p.block, p.off + 2, none⟩) HLP.out).trans HXP_2.out), ((HB.out.cell (p := ⟨p.block, p.off + 3, none⟩) HLP.out).trans HXP_3.out), ((HB.out.cell (p := ⟨p.block, p.off + 4, none⟩) HLP.out).trans HXP_4.out), ((HB.out.cell (p := ⟨p.block, p.off + 5, none⟩) HLP.out).trans HXP_5.out), ((HB.out.cell (p := ⟨p.block, p.off + 6, none⟩) HLP.out).trans HXP_6.out), ((HB.out.cell (p := ⟨p.block, p.off + 7, none⟩) HLP.out).trans HXP_7.out), ((HB.out.cell (p := ⟨p.block, p.off + 8, none⟩) HLP.out).trans HXP_8.out), ((HB.out.cell (p := ⟨p.block, p.off + 9, none⟩) HLP.out).trans HXP_9.out)⟩ (fun hHeld => ?_); refine with_tabW spec_l7Encode.tab9 spec_l7Encode.bits9 (fun HT_ HW_ => ?_); generalize wc.drew = w36 at HO_3 HB hHeld ⊢; refine pure_ (i := 0) (N := some 42) (v := ?_) (a' := ?_) #[Y',Z',Z',Z',Z',Z',Z',Z',Z',Z',Z',Z',Z',Z',Z',Z',Z'] rfl rfl (any_of HT_.out (by kernel_rfl)) (fun _ _ _ h => h) (Or.inl ⟨by rfl, ?_⟩) ?_ ?_; rotate_left
          ·
           intro w'
           go_simp
           with_reducible rfl
          rotate_left
          ·
           simp only [Act.put, List.setIfInBounds_toArray, List.set_cons_zero, List.set_cons_succ, i64_w, i32_w]; rfl
          refine pure_ (i := 1) (N := some 43) (v := ?_) (a' := ?_) #[Y',Y',Z',Z',Z',Z',Z',Z',Z',Z',Z',Z',Z',Z',Z',Z',Z'] rfl rfl (any_of HT_.out (by kernel_rfl)) (fun _ _ _ h => h) (Or.inl ⟨by rfl, ?_⟩) ?_ ?_; rotate_left
          ·
           intro w'
           go_simp
           with_reducible rfl
          rotate_left
          ·
           simp only [Act.put, List.setIfInBounds_toArray, List.set_cons_zero, List.set_cons_succ, i64_w, i32_w]; rfl
          refine pure_ (i := 2) (N := some 44) (v := ?_) (a' := ?_) #[Y',Y',Y',Z',Z',Z',Z',Z',Z',Z',Z',Z',Z',Z',Z',Z',Z'] rfl rfl (any_of HT_.out (by kernel_rfl)) (fun _ _ _ h => h) (Or.inl ⟨by rfl, ?_⟩) ?_ ?_; rotate_left
          ·
           intro w'
           go_simp
           with_reducible rfl
          rotate_left
          ·
           simp only [Act.put, List.setIfInBounds_toArray, List.set_cons_zero, List.set_cons_succ, i64_w, i32_w]; rfl
          refine pure_ (i := 3) (N := some 45) (v := ?_) (a' := ?_) #[Y',Y',Y',Y',Z',Z',Z',Z',Z',Z',Z',Z',Z',Z',Z',Z',Z'] rfl rfl (any_of HT_.out (by kernel_rfl)) (fun _ _ _ h => h) (Or.inl ⟨by rfl, ?_⟩) ?_ ?_; rotate_left
          ·
           intro w'
           go_simp
           with_reducible rfl
          rotate_left
          ·
           simp only [Act.put, List.setIfInBounds_toArray, List.set_cons_zero, List.set_cons_succ, i64_w, i32_w]; rfl
          refine pure_ (i := 4) (N := some 46) (v := ?_) (a' := ?_) #[Y',Y',Y',Y',Y',Z',Z',Z',Z',Z',Z',Z',Z',Z',Z',Z',Z'] rfl rfl (any_of HT_.out (by kernel_rfl)) (fun _ _ _ h => h) (Or.inl ⟨by rfl, ?_⟩) ?_ ?_; rotate_left
          ·
           intro w'
           go_simp
           with_reducible rfl
          rotate_left
          ·
           simp only [Act.put, List.setIfInBounds_toArray, List.set_cons_zero, List.set_cons_succ, i64_w, i32_w]; rfl
          refine pure_ (i := 9) (N := some 51) (v := ?_) (a' := ?_) #[Y',Y',Y',Y',Y',Z',Z',Z',Z',Y',Z',Z',Z',Z',Z',Z',Z'] rfl rfl (any_of HT_.out (by kernel_rfl)) (fun _ _ _ h => h) (Or.inl ⟨by rfl, ?_⟩) ?_ ?_; rotate_left
          ·
           intro w'
           go_simp
           with_reducible rfl
          rotate_left
          ·
           simp only [Act.put, List.setIfInBounds_toArray, List.set_cons_zero, List.set_cons_succ, i64_w, i32_w]; rfl
          refine pure_ (i := 10) (N := some 52) (v := ?_) (a' := ?_) #[Y',Y',Y',Y',Y',Z',Z',Z',Z',Y',Y',Z',Z',Z',Z',Z',Z'] rfl rfl (any_of HT_.out (by kernel_rfl)) (fun _ _ _ h => h) (Or.inl ⟨by rfl, ?_⟩) ?_ ?_; rotate_left
          ·
           intro w'
           go_simp
           with_reducible rfl
          rotate_left
          ·
           simp only [Act.put, List.setIfInBounds_toArray, List.set_cons_zero, List.set_cons_succ, i64_w, i32_w]; rfl
          refine pure_ (i := 11) (N := some 53) (v := ?_) (a' := ?_) #[Y',Y',Y',Y',Y',Z',Z',Z',Z',Y',Y',Y',Z',Z',Z',Z',Z'] rfl rfl (any_of HT_.out (by kernel_rfl)) (fun _ _ _ h => h) (Or.inl ⟨by rfl, ?_⟩) ?_ ?_; rotate_left
          ·
           intro w'
           go_simp
           with_reducible rfl
          rotate_left
          ·
           simp only [Act.put, List.setIfInBounds_toArray, List.set_cons_zero, List.set_cons_succ, i64_w, i32_w]; rfl
          refine pure_ (i := 12) (N := some 54) (v := ?_) (a' := ?_) #[Y',Y',Y',Y',Y',Z',Z',Z',Z',Y',Y',Y',Y',Z',Z',Z',Z'] rfl rfl (any_of HT_.out (by kernel_rfl)) (fun _ _ _ h => h) (Or.inl ⟨by rfl, ?_⟩) ?_ ?_; rotate_left
          ·
           intro w'
           go_simp
           with_reducible rfl
          rotate_left
          ·
           simp only [Act.put, List.setIfInBounds_toArray, List.set_cons_zero, List.set_cons_succ, i64_w, i32_w]; rfl
          refine take_ (i := 5) (N := some 47) (v := ?_) (a' := ?_) #[Y',Y',Y',Y',Y',Y',Z',Z',Z',Y',Y',Y',Y',Z',Z',Z',Z'] rfl rfl (take_ofW HT_.out HW_.out (by kernel_rfl)) (fun _ _ _ h => h) (Or.inl ⟨by rfl, ?_⟩) hHeld ?_ ?_; rotate_left
          ·
           rintro w' ⟨s0, s1, s2, s3, s4, s5, s6, s7, s8, s9⟩
           go_simp
           with_reducible rfl
          rotate_left
          ·
           simp only [Act.put, List.setIfInBounds_toArray, List.set_cons_zero, List.set_cons_succ, i64_w, i32_w]; rfl
          refine pure_ (i := 6) (N := some 48) (v := ?_) (a' := ?_) #[Y',Y',Y',Y',Y',Y',Y',Z',Z',Y',Y',Y',Y',Z',Z',Z',Z'] rfl rfl (any_of HT_.out (by kernel_rfl)) (fun _ _ _ h => h) (Or.inl ⟨by rfl, ?_⟩) ?_ ?_; rotate_left
          ·
           intro w'
           go_simp
           with_reducible rfl
          rotate_left
          ·
           simp only [Act.put, List.setIfInBounds_toArray, List.set_cons_zero, List.set_cons_succ, i64_w, i32_w]; rfl
          refine take_ (i := 13) (N := some 55) (v := ?_) (a' := ?_) #[Y',Y',Y',Y',Y',Y',Y',Z',Z',Y',Y',Y',Y',Y',Z',Z',Z'] rfl rfl (take_ofW HT_.out HW_.out (by kernel_rfl)) (fun _ _ _ h => h) (Or.inl ⟨by rfl, ?_⟩) hHeld ?_ ?_; rotate_left
          ·
           rintro w' ⟨s0, s1, s2, s3, s4, s5, s6, s7, s8, s9⟩
           go_simp
           with_reducible rfl
          rotate_left
          ·
           simp only [Act.put, List.setIfInBounds_toArray, List.set_cons_zero, List.set_cons_succ, i64_w, i32_w]; rfl
          refine one_ (i := 7) (N := some 49) #[Y',Y',Y',Y',Y',Y',Y',Y',Z',Y',Y',Y',Y',Y',Z',Z',Z'] rfl rfl (one_of HT_.out (by kernel_rfl)) (by decide) (fun K hK => ?_); refine Kd.R_lit_step (Kd.int .u8) _ 5 ?hg (N := 49) ?hd (xs := ([(a0_3) % 256] : List Int)) (inner := [.int .u8 ((a0_3) % 256)]) (ok := fun _ => True) (okp := fun _ => True) ?hr ?hp (fun _ hk => hk) trivial (Below.refl _ _) (Nat.le_refl _) (by simp) ?_; (case hd => rfl); (case hg => rfl); (case hr => first | (go_simp; done) | (go_simp; rfl)); (case hp => exact (Reps.one (show Kd.M (Kd.int .u8) _ _ _ ((a0_3) % 256) [.int .u8 ((a0_3) % 256)] from rfl) (Reps.none _ _))); intro v215 w37 ho38 hb hg_ hnew_; clear hg_ hnew_; (first | rw [← Ny214.out] at ho38 | (simp only [Int.reduceToNat] at ho38; rw [← Ny214.out] at ho38)); have n0_ := Aside0.mk (Kd.R_elder' (R_a HO_3.out) (Kd.R_base ho38) hb); have HO216 := Aside0.mk (Kd.R_lower (Kd.R_new' ho38 (Kd.R_lt (R_a HO_3.out))) (below_size below_a)); replace HB := Aside0.mk (below_step below_a hb); replace HO_3 := n0_; clear n0_ hb ho38; obtain ⟨Ao40, co40, eo40⟩ := Kd.R_slice HO216.out; (first | subst eo40 | (injection eo40 with f1_ f2_ f3_; have f4_ := f1_.symm; have f5_ := f3_.symm; clear f1_ f2_ f3_; subst f4_; subst f5_)); refine hK.out _ _ ⟨((HB.out.cell (p := p) HLP.out).trans HXP_0.out), ((HB.out.cell (p := ⟨p.block, p.off + 1, none⟩) HLP.out).trans HXP_1.out), ((HB.out.cell (p := ⟨p.block, p.off + 2, none⟩) HLP.out).trans HXP_2.out), ((HB.out.cell (p := ⟨p.block, p.off + 3, none⟩) HLP.out).trans HXP_3.out), ((HB.out.cell (p := ⟨p.block, p.off + 4, none⟩) HLP.out).trans HXP_4.out), ((HB.out.cell (p := ⟨p.block, p.off + 5, none⟩) HLP.out).trans HXP_5.out), ((HB.out.cell (p := ⟨p.block, p.off + 6, none⟩) HLP.out).trans HXP_6.out), ((HB.out.cell (p := ⟨p.block, p.off + 7, none⟩) HLP.out).trans HXP_7.out), ((HB.out.cell (p := ⟨p.block, p.off + 8, none⟩) HLP.out).trans HXP_8.out), ((HB.out.cell (p := ⟨p.block, p.off + 9, none⟩) HLP.out).trans HXP_9.out)⟩ (fun hHeld => ?_); clear hK K; refine norm_ (a' := ?_) ?_ ?_; rotate_left
          ·
           show Act.put _ (some 49) _ = _; simp only [Act.put, List.setIfInBounds_toArray, List.set_cons_zero, List.set_cons_succ, i64_w, i32_w]; rfl
          refine one_ (i := 8) (N := some 50) #[Y',Y',Y',Y',Y',Y',Y',Y',Y',Y',Y',Y',Y',Y',Z',Z',Z'] rfl rfl (one_of HT_.out (by kernel_rfl)) (by decide) (fun K hK => ?_); refine Kd.R_append_rows_step (Kd.int .u8) (w0 := w) w.heap.size (by rfl) (.tmp 42) (.tmp 49) 30 5 (.int .u8 0) 1 rfl Try.underlying30 info5 rfl (by decide) (by omega) v194 y193 y214 _ _ _ (fun k_ => some k_ ≠ (.slice Ao40 y214.length co40 : Value).ownBlock) (fun _ => False) rfl rfl ?aO ?aR (fun _ _ h => h) (fun _ h => h.elim) ?aF ?aB ?aS ?aL ?_; (case aR => repeat (first | exact (Kd.R_reads' HO216.out).2.2 | (with_reducible refine Kd.C_alloc ?_ _) | (with_reducible refine Kd.C_drewN ?_ _) | (with_reducible refine Kd.C_drew ?_))); (case aB => exact below_a); (case aF => exact (fun k_ hk => Kd.fresh' (Kd.R_lt (R_a HO216.out)) k_ hk)); (case aO => exact (by (with_reducible repeat (first | apply Kd.R_alloc | apply Kd.R_drewN | apply Kd.R_drew)); exact Kd.R_mono HO_3.out (fun _ hk => hk.2))); (case aS => exact (below_size below_a)); (case aL => have := LMc30.out; omega); intro v218 w39 ho hb hg hat; rw [← Ny217.out] at ho; replace HO216 := Aside0.mk (Kd.R_after (ok := (fun _ => True)) (R_a HO216.out) hg hat); replace HB := Aside0.mk (hb); have HO219 := Aside0.mk (ho); clear HO_3 ho hb hg hat; refine hK.out _ _ ⟨((HB.out.cell (p := p) HLP.out).trans HXP_0.out), ((HB.out.cell (p := ⟨p.block, p.off + 1, none⟩) HLP.out).trans HXP_1.out), ((HB.out.cell (p := ⟨p.block, p.off + 2, none⟩) HLP.out).trans HXP_2.out), ((HB.out.cell (p := ⟨p.block, p.off + 3, none⟩) HLP.out).trans HXP_3.out), ((HB.out.cell (p := ⟨p.block, p.off + 4, none⟩) HLP.out).trans HXP_4.out), ((HB.out.cell (p := ⟨p.block, p.off + 5, none⟩) HLP.out).trans HXP_5.out), ((HB.out.cell (p := ⟨p.block, p.off + 6, none⟩) HLP.out).trans HXP_6.out), ((HB.out.cell (p := ⟨p.block, p.off + 7, none⟩) HLP.out).trans HXP_7.out), ((HB.out.cell (p := ⟨p.block, p.off + 8, none⟩) HLP.out).trans HXP_8.out), ((HB.out.cell (p := ⟨p.block, p.off + 9, none⟩) HLP.out).trans HXP_9.out)⟩ (fun hHeld => ?_); clear hK K; refine norm_ (a' := ?_) ?_ ?_; rotate_left
          ·
           show Act.put _ (some 50) _ = _; simp only [Act.put, List.setIfInBounds_toArray, List.set_cons_zero, List.set_cons_succ, i64_w, i32_w]; rfl
          refine one_ (i := 14) (N := some 56) #[Y',Y',Y',Y',Y',Y',Y',Y',Y',Y',Y',Y',Y',Y',Y',Z',Z'] rfl rfl (one_of HT_.out (by kernel_rfl)) (by decide) (fun K hK => ?_); refine goes_ Try.func65 (by kernel_rfl) rfl #[.int .i64 a0_4, .int .i64 4] (by rfl) rfl rfl args_a ?_
          with_reducible refine (spec_l1Pack.calls kj1 a0_4 4 t220 _ A31.out).mono ?_
          rintro e w41 ⟨v221, rfl, ho0, hb⟩; refine ⟨_, rfl, ?_⟩; have n0_ := Aside0.mk (Kd.R_elder' (R_a HO216.out) (Kd.R_base ho0) hb); have n1_ := Aside0.mk (Kd.R_elder' (R_a HO219.out) (Kd.R_base ho0) hb); have HO222 := Aside0.mk (Kd.R_lower (Kd.R_new' (Kd.R_new' ho0 (Kd.R_lt (R_a HO216.out))) (Kd.R_lt (R_a HO219.out))) (below_size below_a)); replace HB := Aside0.mk (below_step below_a hb); replace HO216 := n0_; replace HO219 := n1_; clear n0_ n1_; (try clear hb); (try clear hb2); (try clear hk); (try clear hi); (try clear ho0); obtain ⟨Ao43, co43, eo43⟩ := Kd.R_slice HO222.out; (first | subst eo43 | (injection eo43 with f1_ f2_ f3_; have f4_ := f1_.symm; have f5_ := f3_.symm; clear f1_ f2_ f3_; subst f4_; subst f5_)); refine hK.out _ _ ⟨((HB.out.cell (p := p) HLP.out).trans HXP_0.out), ((HB.out.cell (p := ⟨p.block, p.off + 1, none⟩) HLP.out).trans HXP_1.out), ((HB.out.cell (p := ⟨p.block, p.off + 2, none⟩) HLP.out).trans HXP_2.out), ((HB.out.cell (p := ⟨p.block, p.off + 3, none⟩) HLP.out).trans HXP_3.out), ((HB.out.cell (p := ⟨p.block, p.off + 4, none⟩) HLP.out).trans HXP_4.out), ((HB.out.cell (p := ⟨p.block, p.off + 5, none⟩) HLP.out).trans HXP_5.out), ((HB.out.cell (p := ⟨p.block, p.off + 6, none⟩) HLP.out).trans HXP_6.out), ((HB.out.cell (p := ⟨p.block, p.off + 7, none⟩) HLP.out).trans HXP_7.out), ((HB.out.cell (p := ⟨p.block, p.off + 8, none⟩) HLP.out).trans HXP_8.out), ((HB.out.cell (p := ⟨p.block, p.off + 9, none⟩) HLP.out).trans HXP_9.out)⟩ (fun hHeld => ?_); clear hK K; refine norm_ (a' := ?_) ?_ ?_; rotate_left
          ·
           show Act.put _ (some 56) _ = _; simp only [Act.put, List.setIfInBounds_toArray, List.set_cons_zero, List.set_cons_succ, i64_w, i32_w]; rfl
          refine one_ (i := 15) (N := some 57) #[Y',Y',Y',Y',Y',Y',Y',Y',Y',Y',Y',Y',Y',Y',Y',Y',Z'] rfl rfl (one_of HT_.out (by kernel_rfl)) (by decide) (fun K hK => ?_); refine Kd.R_append_rows_step (Kd.int .u8) (w0 := w) w.heap.size (by rfl) (.tmp 50) (.tmp 56) 30 5 (.int .u8 0) 1 rfl Try.underlying30 info5 rfl (by decide) (by omega) v218 y217 t220 _ _ _ (fun k_ => some k_ ≠ (.slice Ao40 y214.length co40 : Value).ownBlock ∧ some k_ ≠ (.slice Ao43 t220.length co43 : Value).ownBlock) (fun _ => False) rfl rfl ?aO ?aR (fun _ _ h => h) (fun _ h => h.elim) ?aF ?aB ?aS ?aL ?_; (case aR => repeat (first | exact (Kd.R_reads' HO222.out).2.2 | (with_reducible refine Kd.C_alloc ?_ _) | (with_reducible refine Kd.C_drewN ?_ _) | (with_reducible refine Kd.C_drew ?_))); (case aB => exact below_a); (case aF => exact (fun k_ hk => ⟨Kd.fresh' (Kd.R_lt (R_a HO216.out)) k_ hk, Kd.fresh' (Kd.R_lt (R_a HO222.out)) k_ hk⟩)); (case aO => exact (R_a HO219.out)); (case aS => exact (below_size below_a)); (case aL => have := LMc32.out; omega); intro v224 w42 ho hb hg hat; rw [← Ny223.out] at ho; replace HO216 := Aside0.mk (Kd.R_after (ok := (fun k_ => some k_ ≠ (.slice Ao43 t220.length co43 : Value).ownBlock)) (by (with_reducible repeat (first | apply Kd.R_alloc | apply Kd.R_drewN | apply Kd.R_drew)); exact Kd.R_mono HO216.out (fun _ hk => ⟨hk.2, hk.1.2⟩)) hg hat); replace HO222 := Aside0.mk (Kd.R_after (ok := (fun k_ => some k_ ≠ (.slice Ao40 y214.length co40 : Value).ownBlock)) (by (with_reducible repeat (first | apply Kd.R_alloc | apply Kd.R_drewN | apply Kd.R_drew)); exact Kd.R_mono HO222.out (fun _ hk => ⟨hk.1.2, hk.2⟩)) hg hat); replace HB := Aside0.mk (hb); have HO225 := Aside0.mk (ho); clear HO219 ho hb hg hat; refine hK.out _ _ ⟨((HB.out.cell (p := p) HLP.out).trans HXP_0.out), ((HB.out.cell (p := ⟨p.block, p.off + 1, none⟩) HLP.out).trans HXP_1.out), ((HB.out.cell (p := ⟨p.block, p.off + 2, none⟩) HLP.out).trans HXP_2.out), ((HB.out.cell (p := ⟨p.block, p.off + 3, none⟩) HLP.out).trans HXP_3.out), ((HB.out.cell (p := ⟨p.block, p.off + 4, none⟩) HLP.out).trans HXP_4.out), ((HB.out.cell (p := ⟨p.block, p.off + 5, none⟩) HLP.out).trans HXP_5.out), ((HB.out.cell (p := ⟨p.block, p.off + 6, none⟩) HLP.out).trans HXP_6.out), ((HB.out.cell (p := ⟨p.block, p.off + 7, none⟩) HLP.out).trans HXP_7.out), ((HB.out.cell (p := ⟨p.block, p.off + 8, none⟩) HLP.out).trans HXP_8.out), ((HB.out.cell (p := ⟨p.block, p.off + 9, none⟩) HLP.out).trans HXP_9.out)⟩ (fun hHeld => ?_); clear hK K; refine norm_ (a' := ?_) ?_ ?_; rotate_left
          ·
           show Act.put _ (some 57) _ = _; simp only [Act.put, List.setIfInBounds_toArray, List.set_cons_zero, List.set_cons_succ, i64_w, i32_w]; rfl
          refine pure_ (i := 16) (N := some 3) (v := ?_) (a' := ?_) #[Y',Y',Y',Y',Y',Y',Y',Y',Y',Y',Y',Y',Y',Y',Y',Y',Y'] rfl rfl (any_of HT_.out (by kernel_rfl)) (fun _ _ _ h => h) (Or.inl ⟨by rfl, ?_⟩) ?_ ?_; rotate_left
          ·
           intro w'
           go_simp
           with_reducible rfl
          rotate_left
          ·
           simp only [Act.put, List.setIfInBounds_toArray, List.set_cons_zero, List.set_cons_succ, i64_w, i32_w]; rfl
          refine done_ (done_of HT_.out (by kernel_rfl)) ?_
          try go_wp2
          replace HO216 := Aside0.mk (Kd.R_drew HO216.out); replace HO222 := Aside0.mk (Kd.R_drew HO222.out); replace HO225 := Aside0.mk (Kd.R_drew HO225.out); replace HB := Aside0.mk (below_drew1 HB.out); refine start_ (n := 17) (S := fun w' => w'.cell? p = some (.int .i64 a0_0) ∧ w'.cell? ⟨p.block, p.off + 1, none⟩ = some (.int .i64 a0_1) ∧ w'.cell? ⟨p.block, p.off + 2, none⟩ = some (.int .i64 a0_2) ∧ w'.cell? ⟨p.block, p.off + 3, none⟩ = some (.int .i64 a0_3) ∧ w'.cell? ⟨p.block, p.off + 4, none⟩ = some (.int .i64 a0_4) ∧ w'.cell? ⟨p.block, p.off + 5, none⟩ = some (.int .i64 a0_5) ∧ w'.cell? ⟨p.block, p.off + 6, none⟩ = some (.int .i64 a0_6) ∧ w'.cell? ⟨p.block, p.off + 7, none⟩ = some (.int .i64 a0_7) ∧ w'.cell? ⟨p.block, p.off + 8, none⟩ = some (.int .i64 a0_8) ∧ w'.cell? ⟨p.block, p.off + 9, none⟩ = some (.slice A0_9 l0_9.length c0_9)) (ds := []) #[Z',Z',Z',Z',Z',Z',Z',Z',Z',Z',Z',Z',Z',Z',Z',Z',Z'] (by kernel_rfl) rfl rfl ⟨((HB.out.cell (p := p) HLP.out).trans HXP_0.out), ((HB.out.cell (p := ⟨p.block, p.off + 1, none⟩) HLP.out).trans HXP_1.out), ((HB.out.cell (p := ⟨p.block, p.off + 2, none⟩) HLP.out).trans HXP_2.out), ((HB.out.cell (p := ⟨p.block, p.off + 3, none⟩) HLP.out).trans HXP_3.out), ((HB.out.cell (p := ⟨p.block, p.off + 4, none⟩) HLP.out).trans HXP_4.out), ((HB.out.cell (p := ⟨p.block, p.off + 5, none⟩) HLP.out).trans HXP_5.out), ((HB.out.cell (p := ⟨p.block, p.off + 6, none⟩) HLP.out).trans HXP_6.out), ((HB.out.cell (p := ⟨p.block, p.off + 7, none⟩) HLP.out).trans HXP_7.out), ((HB.out.cell (p := ⟨p.block, p.off + 8, none⟩) HLP.out).trans HXP_8.out), ((HB.out.cell (p := ⟨p.block, p.off + 9, none⟩) HLP.out).trans HXP_9.out)⟩ (fun hHeld => ?_); refine with_tabW spec_l7Encode.tab10 spec_l7Encode.bits10 (fun HT_ HW_ => ?_); generalize w42.drew = w44 at HO216 HO222 HO225 HB hHeld ⊢; refine pure_ (i := 0) (N := some 58) (v := ?_) (a' := ?_) #[Y',Z',Z',Z',Z',Z',Z',Z',Z',Z',Z',Z',Z',Z',Z',Z',Z'] rfl rfl (any_of HT_.out (by kernel_rfl)) (fun _ _ _ h => h) (Or.inl ⟨by rfl, ?_⟩) ?_ ?_; rotate_left
          ·
           intro w'
           go_simp
           with_reducible rfl
          rotate_left
          ·
           simp only [Act.put, List.setIfInBounds_toArray, List.set_cons_zero, List.set_cons_succ, i64_w, i32_w]; rfl
          refine pure_ (i := 1) (N := some 59) (v := ?_) (a' := ?_) #[Y',Y',Z',Z',Z',Z',Z',Z',Z',Z',Z',Z',Z',Z',Z',Z',Z'] rfl rfl (any_of HT_.out (by kernel_rfl)) (fun _ _ _ h => h) (Or.inl ⟨by rfl, ?_⟩) ?_ ?_; rotate_left
          ·
           intro w'
           go_simp
           with_reducible rfl
          rotate_left
          ·
           simp only [Act.put, List.setIfInBounds_toArray, List.set_cons_zero, List.set_cons_succ, i64_w, i32_w]; rfl
          refine pure_ (i := 2) (N := some 60) (v := ?_) (a' := ?_) #[Y',Y',Y',Z',Z',Z',Z',Z',Z',Z',Z',Z',Z',Z',Z',Z',Z'] rfl rfl (any_of HT_.out (by kernel_rfl)) (fun _ _ _ h => h) (Or.inl ⟨by rfl, ?_⟩) ?_ ?_; rotate_left
          ·
           intro w'
           go_simp
           with_reducible rfl
          rotate_left
          ·
           simp only [Act.put, List.setIfInBounds_toArray, List.set_cons_zero, List.set_cons_succ, i64_w, i32_w]; rfl
          refine pure_ (i := 3) (N := some 61) (v := ?_) (a' := ?_) #[Y',Y',Y',Y',Z',Z',Z',Z',Z',Z',Z',Z',Z',Z',Z',Z',Z'] rfl rfl (any_of HT_.out (by kernel_rfl)) (fun _ _ _ h => h) (Or.inl ⟨by rfl, ?_⟩) ?_ ?_; rotate_left
          ·
           intro w'
           go_simp
           with_reducible rfl
          rotate_left
          ·
           simp only [Act.put, List.setIfInBounds_toArray, List.set_cons_zero, List.set_cons_succ, i64_w, i32_w]; rfl
          refine pure_ (i := 4) (N := some 62) (v := ?_) (a' := ?_) #[Y',Y',Y',Y',Y',Z',Z',Z',Z',Z',Z',Z',Z',Z',Z',Z',Z'] rfl rfl (any_of HT_.out (by kernel_rfl)) (fun _ _ _ h => h) (Or.inl ⟨by rfl, ?_⟩) ?_ ?_; rotate_left
          ·
           intro w'
           go_simp
           with_reducible rfl
          rotate_left
          ·
           simp only [Act.put, List.setIfInBounds_toArray, List.set_cons_zero, List.set_cons_succ, i64_w, i32_w]; rfl
          refine pure_ (i := 9) (N := some 67) (v := ?_) (a' := ?_) #[Y',Y',Y',Y',Y',Z',Z',Z',Z',Y',Z',Z',Z',Z',Z',Z',Z'] rfl rfl (any_of HT_.out (by kernel_rfl)) (fun _ _ _ h => h) (Or.inl ⟨by rfl, ?_⟩) ?_ ?_; rotate_left
          ·
           intro w'
           go_simp
           with_reducible rfl
          rotate_left
          ·
           simp only [Act.put, List.setIfInBounds_toArray, List.set_cons_zero, List.set_cons_succ, i64_w, i32_w]; rfl
          refine pure_ (i := 10) (N := some 68) (v := ?_) (a' := ?_) #[Y',Y',Y',Y',Y',Z',Z',Z',Z',Y',Y',Z',Z',Z',Z',Z',Z'] rfl rfl (any_of HT_.out (by kernel_rfl)) (fun _ _ _ h => h) (Or.inl ⟨by rfl, ?_⟩) ?_ ?_; rotate_left
          ·
           intro w'
           go_simp
           with_reducible rfl
          rotate_left
          ·
           simp only [Act.put, List.setIfInBounds_toArray, List.set_cons_zero, List.set_cons_succ, i64_w, i32_w]; rfl
          refine pure_ (i := 11) (N := some 69) (v := ?_) (a' := ?_) #[Y',Y',Y',Y',Y',Z',Z',Z',Z',Y',Y',Y',Z',Z',Z',Z',Z'] rfl rfl (any_of HT_.out (by kernel_rfl)) (fun _ _ _ h => h) (Or.inl ⟨by rfl, ?_⟩) ?_ ?_; rotate_left
          ·
           intro w'
           go_simp
           with_reducible rfl
          rotate_left
          ·
           simp only [Act.put, List.setIfInBounds_toArray, List.set_cons_zero, List.set_cons_succ, i64_w, i32_w]; rfl
          refine pure_ (i := 12) (N := some 70) (v := ?_) (a' := ?_) #[Y',Y',Y',Y',Y',Z',Z',Z',Z',Y',Y',Y',Y',Z',Z',Z',Z'] rfl rfl (any_of HT_.out (by kernel_rfl)) (fun _ _ _ h => h) (Or.inl ⟨by rfl, ?_⟩) ?_ ?_; rotate_left
          ·
           intro w'
           go_simp
           with_reducible rfl
          rotate_left
          ·
           simp only [Act.put, List.setIfInBounds_toArray, List.set_cons_zero, List.set_cons_succ, i64_w, i32_w]; rfl
          refine take_ (i := 5) (N := some 63) (v := ?_) (a' := ?_) #[Y',Y',Y',Y',Y',Y',Z',Z',Z',Y',Y',Y',Y',Z',Z',Z',Z'] rfl rfl (take_ofW HT_.out HW_.out (by kernel_rfl)) (fun _ _ _ h => h) (Or.inl ⟨by rfl, ?_⟩) hHeld ?_ ?_; rotate_left
          ·
           rintro w' ⟨s0, s1, s2, s3, s4, s5, s6, s7, s8, s9⟩
           go_simp
           with_reducible rfl
          rotate_left
          ·
           simp only [Act.put, List.setIfInBounds_toArray, List.set_cons_zero, List.set_cons_succ, i64_w, i32_w]; rfl
          refine pure_ (i := 6) (N := some 64) (v := ?_) (a' := ?_) #[Y',Y',Y',Y',Y',Y',Y',Z',Z',Y',Y',Y',Y',Z',Z',Z',Z'] rfl rfl (any_of HT_.out (by kernel_rfl)) (fun _ _ _ h => h) (Or.inl ⟨by rfl, ?_⟩) ?_ ?_; rotate_left
          ·
           intro w'
           go_simp
           with_reducible rfl
          rotate_left
          ·
           simp only [Act.put, List.setIfInBounds_toArray, List.set_cons_zero, List.set_cons_succ, i64_w, i32_w]; rfl
          refine take_ (i := 13) (N := some 71) (v := ?_) (a' := ?_) #[Y',Y',Y',Y',Y',Y',Y',Z',Z',Y',Y',Y',Y',Y',Z',Z',Z'] rfl rfl (take_ofW HT_.out HW_.out (by kernel_rfl)) (fun _ _ _ h => h) (Or.inl ⟨by rfl, ?_⟩) hHeld ?_ ?_; rotate_left
          ·
           rintro w' ⟨s0, s1, s2, s3, s4, s5, s6, s7, s8, s9⟩
           go_simp
           with_reducible rfl
          rotate_left
          ·
           simp only [Act.put, List.setIfInBounds_toArray, List.set_cons_zero, List.set_cons_succ, i64_w, i32_w]; rfl
          refine one_ (i := 7) (N := some 65) #[Y',Y',Y',Y',Y',Y',Y',Y',Z',Y',Y',Y',Y',Y',Z',Z',Z'] rfl rfl (one_of HT_.out (by kernel_rfl)) (by decide) (fun K hK => ?_); refine Kd.R_lit_step (Kd.int .u8) _ 5 ?hg (N := 65) ?hd (xs := ([(a0_5) % 256] : List Int)) (inner := [.int .u8 ((a0_5) % 256)]) (ok := fun _ => True) (okp := fun _ => True) ?hr ?hp (fun _ hk => hk) trivial (Below.refl _ _) (Nat.le_refl _) (by simp) ?_; (case hd => rfl); (case hg => rfl); (case hr => first | (go_simp; done) | (go_simp; rfl)); (case hp => exact (Reps.one (show Kd.M (Kd.int .u8) _ _ _ ((a0_5) % 256) [.int .u8 ((a0_5) % 256)] from rfl) (Reps.none _ _))); intro v227 w45 ho46 hb hg_ hnew_; clear hg_ hnew_; (first | rw [← Ny226.out] at ho46 | (simp only [Int.reduceToNat] at ho46; rw [← Ny226.out] at ho46)); have n0_ := Aside0.mk (Kd.R_elder' (R_a HO216.out) (Kd.R_base ho46) hb); have n1_ := Aside0.mk (Kd.R_elder' (R_a HO222.out) (Kd.R_base ho46) hb); have n2_ := Aside0.mk (Kd.R_elder' (R_a HO225.out) (Kd.R_base ho46) hb); have HO228 := Aside0.mk (Kd.R_lower (Kd.R_new' (Kd.R_new' (Kd.R_new' ho46 (Kd.R_lt (R_a HO216.out))) (Kd.R_lt (R_a HO222.out))) (Kd.R_lt (R_a HO225.out))) (below_size below_a)); replace HB := Aside0.mk (below_step below_a hb); replace HO216 := n0_; replace HO222 := n1_; replace HO225 := n2_; clear n0_ n1_ n2_ hb ho46; obtain ⟨Ao48, co48, eo48⟩ := Kd.R_slice HO228.out; (first | subst eo48 | (injection eo48 with f1_ f2_ f3_; have f4_ := f1_.symm; have f5_ := f3_.symm; clear f1_ f2_ f3_; subst f4_; subst f5_)); refine hK.out _ _ ⟨((HB.out.cell (p := p) HLP.out).trans HXP_0.out), ((HB.out.cell (p := ⟨p.block, p.off + 1, none⟩) HLP.out).trans HXP_1.out), ((HB.out.cell (p := ⟨p.block, p.off + 2, none⟩) HLP.out).trans HXP_2.out), ((HB.out.cell (p := ⟨p.block, p.off + 3, none⟩) HLP.out).trans HXP_3.out), ((HB.out.cell (p := ⟨p.block, p.off + 4, none⟩) HLP.out).trans HXP_4.out), ((HB.out.cell (p := ⟨p.block, p.off + 5, none⟩) HLP.out).trans HXP_5.out), ((HB.out.cell (p := ⟨p.block, p.off + 6, none⟩) HLP.out).trans HXP_6.out), ((HB.out.cell (p := ⟨p.block, p.off + 7, none⟩) HLP.out).trans HXP_7.out), ((HB.out.cell (p := ⟨p.block, p.off + 8, none⟩) HLP.out).trans HXP_8.out), ((HB.out.cell (p := ⟨p.block, p.off + 9, none⟩) HLP.out).trans HXP_9.out)⟩ (fun hHeld => ?_); clear hK K; refine norm_ (a' := ?_) ?_ ?_; rotate_left
          ·
           show Act.put _ (some 65) _ = _; simp only [Act.put, List.setIfInBounds_toArray, List.set_cons_zero, List.set_cons_succ, i64_w, i32_w]; rfl
          refine one_ (i := 8) (N := some 66) #[Y',Y',Y',Y',Y',Y',Y',Y',Y',Y',Y',Y',Y',Y',Z',Z',Z'] rfl rfl (one_of HT_.out (by kernel_rfl)) (by decide) (fun K hK => ?_); refine Kd.R_append_rows_step (Kd.int .u8) (w0 := w) w.heap.size (by rfl) (.tmp 58) (.tmp 65) 30 5 (.int .u8 0) 1 rfl Try.underlying30 info5 rfl (by decide) (by omega) v224 y223 y226 _ _ _ (fun k_ => some k_ ≠ (.slice Ao40 y214.length co40 : Value).ownBlock ∧ some k_ ≠ (.slice Ao43 t220.length co43 : Value).ownBlock ∧ some k_ ≠ (.slice Ao48 y226.length co48 : Value).ownBlock) (fun _ => False) rfl rfl ?aO ?aR (fun _ _ h => h) (fun _ h => h.elim) ?aF ?aB ?aS ?aL ?_; (case aR => repeat (first | exact (Kd.R_reads' HO228.out).2.2 | (with_reducible refine Kd.C_alloc ?_ _) | (with_reducible refine Kd.C_drewN ?_ _) | (with_reducible refine Kd.C_drew ?_))); (case aB => exact below_a); (case aF => exact (fun k_ hk => ⟨Kd.fresh' (Kd.R_lt (R_a HO216.out)) k_ hk, Kd.fresh' (Kd.R_lt (R_a HO222.out)) k_ hk, Kd.fresh' (Kd.R_lt (R_a HO228.out)) k_ hk⟩)); (case aO => exact (by (with_reducible repeat (first | apply Kd.R_alloc | apply Kd.R_drewN | apply Kd.R_drew)); exact Kd.R_mono HO225.out (fun _ hk => ⟨hk.1.1, ⟨hk.1.2, hk.2⟩⟩))); (case aS => exact (below_size below_a)); (case aL => have := LMc33.out; omega); intro v230 w47 ho hb hg hat; rw [← Ny229.out] at ho; replace HO216 := Aside0.mk (Kd.R_after (ok := (fun k_ => some k_ ≠ (.slice Ao43 t220.length co43 : Value).ownBlock ∧ some k_ ≠ (.slice Ao48 y226.length co48 : Value).ownBlock)) (by (with_reducible repeat (first | apply Kd.R_alloc | apply Kd.R_drewN | apply Kd.R_drew)); exact Kd.R_mono HO216.out (fun _ hk => ⟨⟨hk.1.1, hk.2⟩, hk.1.2⟩)) hg hat); replace HO222 := Aside0.mk (Kd.R_after (ok := (fun k_ => some k_ ≠ (.slice Ao40 y214.length co40 : Value).ownBlock ∧ some k_ ≠ (.slice Ao48 y226.length co48 : Value).ownBlock)) (by (with_reducible repeat (first | apply Kd.R_alloc | apply Kd.R_drewN | apply Kd.R_drew)); exact Kd.R_mono HO222.out (fun _ hk => ⟨⟨hk.1.1, hk.2⟩, hk.1.2⟩)) hg hat); replace HO228 := Aside0.mk (Kd.R_after (ok := (fun k_ => some k_ ≠ (.slice Ao40 y214.length co40 : Value).ownBlock ∧ some k_ ≠ (.slice Ao43 t220.length co43 : Value).ownBlock)) (by (with_reducible repeat (first | apply Kd.R_alloc | apply Kd.R_drewN | apply Kd.R_drew)); exact Kd.R_mono HO228.out (fun _ hk => ⟨⟨hk.1.1.2, hk.1.2⟩, hk.2⟩)) hg hat); replace HB := Aside0.mk (hb); have HO231 := Aside0.mk (ho); clear HO225 ho hb hg hat; refine hK.out _ _ ⟨((HB.out.cell (p := p) HLP.out).trans HXP_0.out), ((HB.out.cell (p := ⟨p.block, p.off + 1, none⟩) HLP.out).trans HXP_1.out), ((HB.out.cell (p := ⟨p.block, p.off + 2, none⟩) HLP.out).trans HXP_2.out), ((HB.out.cell (p := ⟨p.block, p.off + 3, none⟩) HLP.out).trans HXP_3.out), ((HB.out.cell (p := ⟨p.block, p.off + 4, none⟩) HLP.out).trans HXP_4.out), ((HB.out.cell (p := ⟨p.block, p.off + 5, none⟩) HLP.out).trans HXP_5.out), ((HB.out.cell (p := ⟨p.block, p.off + 6, none⟩) HLP.out).trans HXP_6.out), ((HB.out.cell (p := ⟨p.block, p.off + 7, none⟩) HLP.out).trans HXP_7.out), ((HB.out.cell (p := ⟨p.block, p.off + 8, none⟩) HLP.out).trans HXP_8.out), ((HB.out.cell (p := ⟨p.block, p.off + 9, none⟩) HLP.out).trans HXP_9.out)⟩ (fun hHeld => ?_); clear hK K; refine norm_ (a' := ?_) ?_ ?_; rotate_left
          ·
           show Act.put _ (some 66) _ = _; simp only [Act.put, List.setIfInBounds_toArray, List.set_cons_zero, List.set_cons_succ, i64_w, i32_w]; rfl
          refine one_ (i := 14) (N := some 72) #[Y',Y',Y',Y',Y',Y',Y',Y',Y',Y',Y',Y',Y',Y',Y',Z',Z'] rfl rfl (one_of HT_.out (by kernel_rfl)) (by decide) (fun K hK => ?_); refine goes_ Try.func65 (by kernel_rfl) rfl #[.int .i64 a0_6, .int .i64 4] (by rfl) rfl rfl args_a ?_
          with_reducible refine (spec_l1Pack.calls kj1 a0_6 4 t232 _ A34.out).mono ?_
          rintro e w49 ⟨v233, rfl, ho0, hb⟩; refine ⟨_, rfl, ?_⟩; have n0_ := Aside0.mk (Kd.R_elder' (R_a HO216.out) (Kd.R_base ho0) hb); have n1_ := Aside0.mk (Kd.R_elder' (R_a HO222.out) (Kd.R_base ho0) hb); have n2_ := Aside0.mk (Kd.R_elder' (R_a HO228.out) (Kd.R_base ho0) hb); have n3_ := Aside0.mk (Kd.R_elder' (R_a HO231.out) (Kd.R_base ho0) hb); have HO234 := Aside0.mk (Kd.R_lower (Kd.R_new' (Kd.R_new' (Kd.R_new' (Kd.R_new' ho0 (Kd.R_lt (R_a HO216.out))) (Kd.R_lt (R_a HO222.out))) (Kd.R_lt (R_a HO228.out))) (Kd.R_lt (R_a HO231.out))) (below_size below_a)); replace HB := Aside0.mk (below_step below_a hb); replace HO216 := n0_; replace HO222 := n1_; replace HO228 := n2_; replace HO231 := n3_; clear n0_ n1_ n2_ n3_; (try clear hb); (try clear hb2); (try clear hk); (try clear hi); (try clear ho0); obtain ⟨Ao51, co51, eo51⟩ := Kd.R_slice HO234.out; (first | subst eo51 | (injection eo51 with f1_ f2_ f3_; have f4_ := f1_.symm; have f5_ := f3_.symm; clear f1_ f2_ f3_; subst f4_; subst f5_)); refine hK.out _ _ ⟨((HB.out.cell (p := p) HLP.out).trans HXP_0.out), ((HB.out.cell (p := ⟨p.block, p.off + 1, none⟩) HLP.out).trans HXP_1.out), ((HB.out.cell (p := ⟨p.block, p.off + 2, none⟩) HLP.out).trans HXP_2.out), ((HB.out.cell (p := ⟨p.block, p.off + 3, none⟩) HLP.out).trans HXP_3.out), ((HB.out.cell (p := ⟨p.block, p.off + 4, none⟩) HLP.out).trans HXP_4.out), ((HB.out.cell (p := ⟨p.block, p.off + 5, none⟩) HLP.out).trans HXP_5.out), ((HB.out.cell (p := ⟨p.block, p.off + 6, none⟩) HLP.out).trans HXP_6.out), ((HB.out.cell (p := ⟨p.block, p.off + 7, none⟩) HLP.out).trans HXP_7.out), ((HB.out.cell (p := ⟨p.block, p.off + 8, none⟩) HLP.out).trans HXP_8.out), ((HB.out.cell (p := ⟨p.block, p.off + 9, none⟩) HLP.out).trans HXP_9.out)⟩ (fun hHeld => ?_); clear hK K; refine norm_ (a' := ?_) ?_ ?_; rotate_left
          ·
           show Act.put _ (some 72) _ = _; simp only [Act.put, List.setIfInBounds_toArray, List.set_cons_zero, List.set_cons_succ, i64_w, i32_w]; rfl
          refine one_ (i := 15) (N := some 73) #[Y',Y',Y',Y',Y',Y',Y',Y',Y',Y',Y',Y',Y',Y',Y',Y',Z'] rfl rfl (one_of HT_.out (by kernel_rfl)) (by decide) (fun K hK => ?_); refine Kd.R_append_rows_step (Kd.int .u8) (w0 := w) w.heap.size (by rfl) (.tmp 66) (.tmp 72) 30 5 (.int .u8 0) 1 rfl Try.underlying30 info5 rfl (by decide) (by omega) v230 y229 t232 _ _ _ (fun k_ => some k_ ≠ (.slice Ao40 y214.length co40 : Value).ownBlock ∧ some k_ ≠ (.slice Ao43 t220.length co43 : Value).ownBlock ∧ some k_ ≠ (.slice Ao48 y226.length co48 : Value).ownBlock ∧ some k_ ≠ (.slice Ao51 t232.length co51 : Value).ownBlock) (fun _ => False) rfl rfl ?aO ?aR (fun _ _ h => h) (fun _ h => h.elim) ?aF ?aB ?aS ?aL ?_; (case aR => repeat (first | exact (Kd.R_reads' HO234.out).2.2 | (with_reducible refine Kd.C_alloc ?_ _) | (with_reducible refine Kd.C_drewN ?_ _) | (with_reducible refine Kd.C_drew ?_))); (case aB => exact below_a); (case aF => exact (fun k_ hk => ⟨Kd.fresh' (Kd.R_lt (R_a HO216.out)) k_ hk, Kd.fresh' (Kd.R_lt (R_a HO222.out)) k_ hk, Kd.fresh' (Kd.R_lt (R_a HO228.out)) k_ hk, Kd.fresh' (Kd.R_lt (R_a HO234.out)) k_ hk⟩)); (case aO => exact (by (with_reducible repeat (first | apply Kd.R_alloc | apply Kd.R_drewN | apply Kd.R_drew)); exact Kd.R_mono HO231.out (fun _ hk => ⟨hk.1.1, ⟨hk.1.2.1, ⟨hk.1.2.2, hk.2⟩⟩⟩))); (case aS => exact (below_size below_a)); (case aL => have := LMc35.out; omega); intro v236 w50 ho hb hg hat; rw [← Ny235.out] at ho; replace HO216 := Aside0.mk (Kd.R_after (ok := (fun k_ => some k_ ≠ (.slice Ao43 t220.length co43 : Value).ownBlock ∧ some k_ ≠ (.slice Ao48 y226.length co48 : Value).ownBlock ∧ some k_ ≠ (.slice Ao51 t232.length co51 : Value).ownBlock)) (by (with_reducible repeat (first | apply Kd.R_alloc | apply Kd.R_drewN | apply Kd.R_drew)); exact Kd.R_mono HO216.out (fun _ hk => ⟨⟨hk.1.1.1, ⟨hk.1.1.2, hk.2⟩⟩, hk.1.2⟩)) hg hat); replace HO222 := Aside0.mk (Kd.R_after (ok := (fun k_ => some k_ ≠ (.slice Ao40 y214.length co40 : Value).ownBlock ∧ some k_ ≠ (.slice Ao48 y226.length co48 : Value).ownBlock ∧ some k_ ≠ (.slice Ao51 t232.length co51 : Value).ownBlock)) (by (with_reducible repeat (first | apply Kd.R_alloc | apply Kd.R_drewN | apply Kd.R_drew)); exact Kd.R_mono HO222.out (fun _ hk => ⟨⟨hk.1.1.1, ⟨hk.1.1.2, hk.2⟩⟩, hk.1.2⟩)) hg hat); replace HO228 := Aside0.mk (Kd.R_after (ok := (fun k_ => some k_ ≠ (.slice Ao40 y214.length co40 : Value).ownBlock ∧ some k_ ≠ (.slice Ao43 t220.length co43 : Value).ownBlock ∧ some k_ ≠ (.slice Ao51 t232.length co51 : Value).ownBlock)) (by (with_reducible repeat (first | apply Kd.R_alloc | apply Kd.R_drewN | apply Kd.R_drew)); exact Kd.R_mono HO228.out (fun _ hk => ⟨⟨hk.1.1.1, ⟨hk.1.1.2, hk.2⟩⟩, hk.1.2⟩)) hg hat); replace HO234 := Aside0.mk (Kd.R_after (ok := (fun k_ => some k_ ≠ (.slice Ao40 y214.length co40 : Value).ownBlock ∧ some k_ ≠ (.slice Ao43 t220.length co43 : Value).ownBlock ∧ some k_ ≠ (.slice Ao48 y226.length co48 : Value).ownBlock)) (by (with_reducible repeat (first | apply Kd.R_alloc | apply Kd.R_drewN | apply Kd.R_drew)); exact Kd.R_mono HO234.out (fun _ hk => ⟨⟨hk.1.1.1.2, ⟨hk.1.1.2, hk.1.2⟩⟩, hk.2⟩)) hg hat); replace HB := Aside0.mk (hb); have HO237 := Aside0.mk (ho); clear HO231 ho hb hg hat; refine hK.out _ _ ⟨((HB.out.cell (p := p) HLP.out).trans HXP_0.out), ((HB.out.cell (p := ⟨p.block, p.off + 1, none⟩) HLP.out).trans HXP_1.out), ((HB.out.cell (p := ⟨p.block, p.off + 2, none⟩) HLP.out).trans HXP_2.out), ((HB.out.cell (p := ⟨p.block, p.off + 3, none⟩) HLP.out).trans HXP_3.out), ((HB.out.cell (p := ⟨p.block, p.off + 4, none⟩) HLP.out).trans HXP_4.out), ((HB.out.cell (p := ⟨p.block, p.off + 5, none⟩) HLP.out).trans HXP_5.out), ((HB.out.cell (p := ⟨p.block, p.off + 6, none⟩) HLP.out).trans HXP_6.out), ((HB.out.cell (p := ⟨p.block, p.off + 7, none⟩) HLP.out).trans HXP_7.out), ((HB.out.cell (p := ⟨p.block, p.off + 8, none⟩) HLP.out).trans HXP_8.out), ((HB.out.cell (p := ⟨p.block, p.off + 9, none⟩) HLP.out).trans HXP_9.out)⟩ (fun hHeld => ?_); clear hK K; refine norm_ (a' := ?_) ?_ ?_; rotate_left
          ·
           show Act.put _ (some 73) _ = _; simp only [Act.put, List.setIfInBounds_toArray, List.set_cons_zero, List.set_cons_succ, i64_w, i32_w]; rfl
          refine pure_ (i := 16) (N := some 2) (v := ?_) (a' := ?_) #[Y',Y',Y',Y',Y',Y',Y',Y',Y',Y',Y',Y',Y',Y',Y',Y',Y'] rfl rfl (any_of HT_.out (by kernel_rfl)) (fun _ _ _ h => h) (Or.inl ⟨by rfl, ?_⟩) ?_ ?_; rotate_left
          ·
           intro w'
           go_simp
           with_reducible rfl
          rotate_left
          ·
           simp only [Act.put, List.setIfInBounds_toArray, List.set_cons_zero, List.set_cons_succ, i64_w, i32_w]; rfl
          refine done_ (done_of HT_.out (by kernel_rfl)) ?_
          try go_wp2
          go_ret
          exact ⟨_, eq_a, by (with_reducible repeat (first | apply Kd.R_alloc | apply Kd.R_drewN | apply Kd.R_drew)); exact Kd.R_mono HO237.out (fun _ hk => trivial), below_a⟩
         ·
          rw [if_neg c35] at H; exact absurd H (by simp)
        ·
         rw [if_neg c33] at H; exact absurd H (by simp)
       ·
        rw [if_neg c32] at H; exact absurd H (by simp)
      ·
       rw [if_neg c30] at H; exact absurd H (by simp)
     ·
      rw [if_neg c29] at H; have c29b0 : (a0_0 == 4) = false := beq_eq_false_iff_ne.mpr c29; have c29b1 : (a0_0 != 4) = true := bne_iff_ne.mpr c29; obtain ⟨y238, hy238⟩ : ∃ y_ : List Int, y_ = (([(a0_7) % 256, (a0_8) % 256] : List Int)) := ⟨_, rfl⟩; replace H : (if y193.length + y238.length < 140737488355328 then ((some (y193 ++ y238 : List Int)).bind fun y241 => (if y241.length + l0_9.length < 140737488355328 then (some (y241 ++ l0_9)) else (none))) else (none)) = some r := by first | (rw [hy238]; with_reducible exact H) | (have H2_ := (Option.bind_some _ _).symm.trans H; rw [hy238]; with_reducible exact H2_) | (have H2_ := (Option.bind_some _ _).symm.trans H; with_reducible exact H2_) | with_reducible exact H | (rw [hy238]; exact H) | exact H
      have Ny238 := Aside0.mk hy238; clear hy238
      by_cases c52 : y193.length + y238.length < 140737488355328
      ·
       rw [if_pos c52] at H; have LMc52 := Aside0.mk c52; clear c52; obtain ⟨y241, hy241⟩ : ∃ y_ : List Int, y_ = (y193 ++ y238) := ⟨_, rfl⟩; replace H : (if y241.length + l0_9.length < 140737488355328 then (some (y241 ++ l0_9)) else (none)) = some r := by first | (rw [hy241]; with_reducible exact H) | (have H2_ := (Option.bind_some _ _).symm.trans H; rw [hy241]; with_reducible exact H2_) | (have H2_ := (Option.bind_some _ _).symm.trans H; with_reducible exact H2_) | with_reducible exact H | (rw [hy241]; exact H) | exact H
       have Ny241 := Aside0.mk hy241; clear hy241
       by_cases c53 : y241.length + l0_9.length < 140737488355328
       ·
        rw [if_pos c53] at H; have LMc53 := Aside0.mk c53; clear c53; obtain ⟨y244, hy244⟩ : ∃ y_ : List Int, y_ = (y241 ++ l0_9) := ⟨_, rfl⟩; replace H : (some y244) = some r := by first | (rw [hy244]; with_reducible exact H) | (have H2_ := (Option.bind_some _ _).symm.trans H; rw [hy244]; with_reducible exact H2_) | (have H2_ := (Option.bind_some _ _).symm.trans H; with_reducible exact H2_) | with_reducible exact H | (rw [hy244]; exact H) | exact H
        have Ny244 := Aside0.mk hy244; clear hy244; obtain rfl := Option.some.inj H
        try go_wp2
        replace HO_3 := Aside0.mk (Kd.R_drew HO_3.out); replace HB := Aside0.mk (below_drew1 HB.out); refine start_ (n := 21) (S := fun w' => w'.cell? p = some (.int .i64 a0_0) ∧ w'.cell? ⟨p.block, p.off + 1, none⟩ = some (.int .i64 a0_1) ∧ w'.cell? ⟨p.block, p.off + 2, none⟩ = some (.int .i64 a0_2) ∧ w'.cell? ⟨p.block, p.off + 3, none⟩ = some (.int .i64 a0_3) ∧ w'.cell? ⟨p.block, p.off + 4, none⟩ = some (.int .i64 a0_4) ∧ w'.cell? ⟨p.block, p.off + 5, none⟩ = some (.int .i64 a0_5) ∧ w'.cell? ⟨p.block, p.off + 6, none⟩ = some (.int .i64 a0_6) ∧ w'.cell? ⟨p.block, p.off + 7, none⟩ = some (.int .i64 a0_7) ∧ w'.cell? ⟨p.block, p.off + 8, none⟩ = some (.int .i64 a0_8) ∧ w'.cell? ⟨p.block, p.off + 9, none⟩ = some (.slice A0_9 l0_9.length c0_9)) (ds := []) #[Z',Z',Z',Z',Z',Z',Z',Z',Z',Z',Z',Z',Z',Z',Z',Z',Z',Z',Z',Z',Z'] (by kernel_rfl) rfl rfl ⟨((HB.out.cell (p := p) HLP.out).trans HXP_0.out), ((HB.out.cell (p := ⟨p.block, p.off + 1, none⟩) HLP.out).trans HXP_1.out), ((HB.out.cell (p := ⟨p.block, p.off + 2, none⟩) HLP.out).trans HXP_2.out), ((HB.out.cell (p := ⟨p.block, p.off + 3, none⟩) HLP.out).trans HXP_3.out), ((HB.out.cell (p := ⟨p.block, p.off + 4, none⟩) HLP.out).trans HXP_4.out), ((HB.out.cell (p := ⟨p.block, p.off + 5, none⟩) HLP.out).trans HXP_5.out), ((HB.out.cell (p := ⟨p.block, p.off + 6, none⟩) HLP.out).trans HXP_6.out), ((HB.out.cell (p := ⟨p.block, p.off + 7, none⟩) HLP.out).trans HXP_7.out), ((HB.out.cell (p := ⟨p.block, p.off + 8, none⟩) HLP.out).trans HXP_8.out), ((HB.out.cell (p := ⟨p.block, p.off + 9, none⟩) HLP.out).trans HXP_9.out)⟩ (fun hHeld => ?_); refine with_tabW spec_l7Encode.tab11 spec_l7Encode.bits11 (fun HT_ HW_ => ?_); generalize wc.drew = w54 at HO_3 HB hHeld ⊢; refine pure_ (i := 0) (N := some 74) (v := ?_) (a' := ?_) #[Y',Z',Z',Z',Z',Z',Z',Z',Z',Z',Z',Z',Z',Z',Z',Z',Z',Z',Z',Z',Z'] rfl rfl (any_of HT_.out (by kernel_rfl)) (fun _ _ _ h => h) (Or.inl ⟨by rfl, ?_⟩) ?_ ?_; rotate_left
        ·
         intro w'
         go_simp
         with_reducible rfl
        rotate_left
        ·
         simp only [Act.put, List.setIfInBounds_toArray, List.set_cons_zero, List.set_cons_succ, i64_w, i32_w]; rfl
        refine pure_ (i := 1) (N := some 75) (v := ?_) (a' := ?_) #[Y',Y',Z',Z',Z',Z',Z',Z',Z',Z',Z',Z',Z',Z',Z',Z',Z',Z',Z',Z',Z'] rfl rfl (any_of HT_.out (by kernel_rfl)) (fun _ _ _ h => h) (Or.inl ⟨by rfl, ?_⟩) ?_ ?_; rotate_left
        ·
         intro w'
         go_simp
         with_reducible rfl
        rotate_left
        ·
         simp only [Act.put, List.setIfInBounds_toArray, List.set_cons_zero, List.set_cons_succ, i64_w, i32_w]; rfl
        refine pure_ (i := 2) (N := some 76) (v := ?_) (a' := ?_) #[Y',Y',Y',Z',Z',Z',Z',Z',Z',Z',Z',Z',Z',Z',Z',Z',Z',Z',Z',Z',Z'] rfl rfl (any_of HT_.out (by kernel_rfl)) (fun _ _ _ h => h) (Or.inl ⟨by rfl, ?_⟩) ?_ ?_; rotate_left
        ·
         intro w'
         go_simp
         with_reducible rfl
        rotate_left
        ·
         simp only [Act.put, List.setIfInBounds_toArray, List.set_cons_zero, List.set_cons_succ, i64_w, i32_w]; rfl
        refine pure_ (i := 3) (N := some 77) (v := ?_) (a' := ?_) #[Y',Y',Y',Y',Z',Z',Z',Z',Z',Z',Z',Z',Z',Z',Z',Z',Z',Z',Z',Z',Z'] rfl rfl (any_of HT_.out (by kernel_rfl)) (fun _ _ _ h => h) (Or.inl ⟨by rfl, ?_⟩) ?_ ?_; rotate_left
        ·
         intro w'
         go_simp
         with_reducible rfl
        rotate_left
        ·
         simp only [Act.put, List.setIfInBounds_toArray, List.set_cons_zero, List.set_cons_succ, i64_w, i32_w]; rfl
        refine pure_ (i := 6) (N := some 80) (v := ?_) (a' := ?_) #[Y',Y',Y',Y',Z',Z',Y',Z',Z',Z',Z',Z',Z',Z',Z',Z',Z',Z',Z',Z',Z'] rfl rfl (any_of HT_.out (by kernel_rfl)) (fun _ _ _ h => h) (Or.inl ⟨by rfl, ?_⟩) ?_ ?_; rotate_left
        ·
         intro w'
         go_simp
         with_reducible rfl
        rotate_left
        ·
         simp only [Act.put, List.setIfInBounds_toArray, List.set_cons_zero, List.set_cons_succ, i64_w, i32_w]; rfl
        refine pure_ (i := 7) (N := some 81) (v := ?_) (a' := ?_) #[Y',Y',Y',Y',Z',Z',Y',Y',Z',Z',Z',Z',Z',Z',Z',Z',Z',Z',Z',Z',Z'] rfl rfl (any_of HT_.out (by kernel_rfl)) (fun _ _ _ h => h) (Or.inl ⟨by rfl, ?_⟩) ?_ ?_; rotate_left
        ·
         intro w'
         go_simp
         with_reducible rfl
        rotate_left
        ·
         simp only [Act.put, List.setIfInBounds_toArray, List.set_cons_zero, List.set_cons_succ, i64_w, i32_w]; rfl
        refine pure_ (i := 8) (N := some 82) (v := ?_) (a' := ?_) #[Y',Y',Y',Y',Z',Z',Y',Y',Y',Z',Z',Z',Z',Z',Z',Z',Z',Z',Z',Z',Z'] rfl rfl (any_of HT_.out (by kernel_rfl)) (fun _ _ _ h => h) (Or.inl ⟨by rfl, ?_⟩) ?_ ?_; rotate_left
        ·
         intro w'
         go_simp
         with_reducible rfl
        rotate_left
        ·
         simp only [Act.put, List.setIfInBounds_toArray, List.set_cons_zero, List.set_cons_succ, i64_w, i32_w]; rfl
        refine pure_ (i := 9) (N := some 83) (v := ?_) (a' := ?_) #[Y',Y',Y',Y',Z',Z',Y',Y',Y',Y',Z',Z',Z',Z',Z',Z',Z',Z',Z',Z',Z'] rfl rfl (any_of HT_.out (by kernel_rfl)) (fun _ _ _ h => h) (Or.inl ⟨by rfl, ?_⟩) ?_ ?_; rotate_left
        ·
         intro w'
         go_simp
         with_reducible rfl
        rotate_left
        ·
         simp only [Act.put, List.setIfInBounds_toArray, List.set_cons_zero, List.set_cons_succ, i64_w, i32_w]; rfl
        refine pure_ (i := 14) (N := some 88) (v := ?_) (a' := ?_) #[Y',Y',Y',Y',Z',Z',Y',Y',Y',Y',Z',Z',Z',Z',Y',Z',Z',Z',Z',Z',Z'] rfl rfl (any_of HT_.out (by kernel_rfl)) (fun _ _ _ h => h) (Or.inl ⟨by rfl, ?_⟩) ?_ ?_; rotate_left
        ·
         intro w'
         go_simp
         with_reducible rfl
        rotate_left
        ·
         simp only [Act.put, List.setIfInBounds_toArray, List.set_cons_zero, List.set_cons_succ, i64_w, i32_w]; rfl
        refine pure_ (i := 15) (N := some 89) (v := ?_) (a' := ?_) #[Y',Y',Y',Y',Z',Z',Y',Y',Y',Y',Z',Z',Z',Z',Y',Y',Z',Z',Z',Z',Z'] rfl rfl (any_of HT_.out (by kernel_rfl)) (fun _ _ _ h => h) (Or.inl ⟨by rfl, ?_⟩) ?_ ?_; rotate_left
        ·
         intro w'
         go_simp
         with_reducible rfl
        rotate_left
        ·
         simp only [Act.put, List.setIfInBounds_toArray, List.set_cons_zero, List.set_cons_succ, i64_w, i32_w]; rfl
        refine pure_ (i := 16) (N := some 90) (v := ?_) (a' := ?_) #[Y',Y',Y',Y',Z',Z',Y',Y',Y',Y',Z',Z',Z',Z',Y',Y',Y',Z',Z',Z',Z'] rfl rfl (any_of HT_.out (by kernel_rfl)) (fun _ _ _ h => h) (Or.inl ⟨by rfl, ?_⟩) ?_ ?_; rotate_left
        ·
         intro w'
         go_simp
         with_reducible rfl
        rotate_left
        ·
         simp only [Act.put, List.setIfInBounds_toArray, List.set_cons_zero, List.set_cons_succ, i64_w, i32_w]; rfl
        refine pure_ (i := 17) (N := some 91) (v := ?_) (a' := ?_) #[Y',Y',Y',Y',Z',Z',Y',Y',Y',Y',Z',Z',Z',Z',Y',Y',Y',Y',Z',Z',Z'] rfl rfl (any_of HT_.out (by kernel_rfl)) (fun _ _ _ h => h) (Or.inl ⟨by rfl, ?_⟩) ?_ ?_; rotate_left
        ·
         intro w'
         go_simp
         with_reducible rfl
        rotate_left
        ·
         simp only [Act.put, List.setIfInBounds_toArray, List.set_cons_zero, List.set_cons_succ, i64_w, i32_w]; rfl
        refine take_ (i := 4) (N := some 78) (v := ?_) (a' := ?_) #[Y',Y',Y',Y',Y',Z',Y',Y',Y',Y',Z',Z',Z',Z',Y',Y',Y',Y',Z',Z',Z'] rfl rfl (take_ofW HT_.out HW_.out (by kernel_rfl)) (fun _ _ _ h => h) (Or.inl ⟨by rfl, ?_⟩) hHeld ?_ ?_; rotate_left
        ·
         rintro w' ⟨s0, s1, s2, s3, s4, s5, s6, s7, s8, s9⟩
         go_simp
         with_reducible rfl
        rotate_left
        ·
         simp only [Act.put, List.setIfInBounds_toArray, List.set_cons_zero, List.set_cons_succ, i64_w, i32_w]; rfl
        refine pure_ (i := 5) (N := some 79) (v := ?_) (a' := ?_) #[Y',Y',Y',Y',Y',Y',Y',Y',Y',Y',Z',Z',Z',Z',Y',Y',Y',Y',Z',Z',Z'] rfl rfl (any_of HT_.out (by kernel_rfl)) (fun _ _ _ h => h) (Or.inl ⟨by rfl, ?_⟩) ?_ ?_; rotate_left
        ·
         intro w'
         go_simp
         with_reducible rfl
        rotate_left
        ·
         simp only [Act.put, List.setIfInBounds_toArray, List.set_cons_zero, List.set_cons_succ, i64_w, i32_w]; rfl
        refine take_ (i := 10) (N := some 84) (v := ?_) (a' := ?_) #[Y',Y',Y',Y',Y',Y',Y',Y',Y',Y',Y',Z',Z',Z',Y',Y',Y',Y',Z',Z',Z'] rfl rfl (take_ofW HT_.out HW_.out (by kernel_rfl)) (fun _ _ _ h => h) (Or.inl ⟨by rfl, ?_⟩) hHeld ?_ ?_; rotate_left
        ·
         rintro w' ⟨s0, s1, s2, s3, s4, s5, s6, s7, s8, s9⟩
         go_simp
         with_reducible rfl
        rotate_left
        ·
         simp only [Act.put, List.setIfInBounds_toArray, List.set_cons_zero, List.set_cons_succ, i64_w, i32_w]; rfl
        refine pure_ (i := 11) (N := some 85) (v := ?_) (a' := ?_) #[Y',Y',Y',Y',Y',Y',Y',Y',Y',Y',Y',Y',Z',Z',Y',Y',Y',Y',Z',Z',Z'] rfl rfl (any_of HT_.out (by kernel_rfl)) (fun _ _ _ h => h) (Or.inl ⟨by rfl, ?_⟩) ?_ ?_; rotate_left
        ·
         intro w'
         go_simp
         with_reducible rfl
        rotate_left
        ·
         simp only [Act.put, List.setIfInBounds_toArray, List.set_cons_zero, List.set_cons_succ, i64_w, i32_w]; rfl
        refine take_ (i := 18) (N := some 92) (v := ?_) (a' := ?_) #[Y',Y',Y',Y',Y',Y',Y',Y',Y',Y',Y',Y',Z',Z',Y',Y',Y',Y',Y',Z',Z'] rfl rfl (take_ofW HT_.out HW_.out (by kernel_rfl)) (fun _ _ _ h => h) (Or.inl ⟨by rfl, ?_⟩) hHeld ?_ ?_; rotate_left
        ·
         rintro w' ⟨s0, s1, s2, s3, s4, s5, s6, s7, s8, s9⟩
         go_simp
         with_reducible rfl
        rotate_left
        ·
         simp only [Act.put, List.setIfInBounds_toArray, List.set_cons_zero, List.set_cons_succ, i64_w, i32_w]; rfl
        refine one_ (i := 12) (N := some 86) #[Y',Y',Y',Y',Y',Y',Y',Y',Y',Y',Y',Y',Y',Z',Y',Y',Y',Y',Y',Z',Z'] rfl rfl (one_of HT_.out (by kernel_rfl)) (by decide) (fun K hK => ?_); refine Kd.R_lit_step (Kd.int .u8) _ 5 ?hg (N := 86) ?hd (xs := ([(a0_7) % 256, (a0_8) % 256] : List Int)) (inner := [.int .u8 ((a0_7) % 256), .int .u8 ((a0_8) % 256)]) (ok := fun _ => True) (okp := fun _ => True) ?hr ?hp (fun _ hk => hk) trivial (Below.refl _ _) (Nat.le_refl _) (by simp) ?_; (case hd => rfl); (case hg => rfl); (case hr => first | (go_simp; done) | (go_simp; rfl)); (case hp => exact (Reps.one (show Kd.M (Kd.int .u8) _ _ _ ((a0_7) % 256) [.int .u8 ((a0_7) % 256)] from rfl) (Reps.one (show Kd.M (Kd.int .u8) _ _ _ ((a0_8) % 256) [.int .u8 ((a0_8) % 256)] from rfl) (Reps.none _ _)))); intro v239 w55 ho56 hb hg_ hnew_; clear hg_ hnew_; (first | rw [← Ny238.out] at ho56 | (simp only [Int.reduceToNat] at ho56; rw [← Ny238.out] at ho56)); have n0_ := Aside0.mk (Kd.R_elder' (R_a HO_3.out) (Kd.R_base ho56) hb); have HO240 := Aside0.mk (Kd.R_lower (Kd.R_new' ho56 (Kd.R_lt (R_a HO_3.out))) (below_size below_a)); replace HB := Aside0.mk (below_step below_a hb); replace HO_3 := n0_; clear n0_ hb ho56; obtain ⟨Ao58, co58, eo58⟩ := Kd.R_slice HO240.out; (first | subst eo58 | (injection eo58 with f1_ f2_ f3_; have f4_ := f1_.symm; have f5_ := f3_.symm; clear f1_ f2_ f3_; subst f4_; subst f5_)); refine hK.out _ _ ⟨((HB.out.cell (p := p) HLP.out).trans HXP_0.out), ((HB.out.cell (p := ⟨p.block, p.off + 1, none⟩) HLP.out).trans HXP_1.out), ((HB.out.cell (p := ⟨p.block, p.off + 2, none⟩) HLP.out).trans HXP_2.out), ((HB.out.cell (p := ⟨p.block, p.off + 3, none⟩) HLP.out).trans HXP_3.out), ((HB.out.cell (p := ⟨p.block, p.off + 4, none⟩) HLP.out).trans HXP_4.out), ((HB.out.cell (p := ⟨p.block, p.off + 5, none⟩) HLP.out).trans HXP_5.out), ((HB.out.cell (p := ⟨p.block, p.off + 6, none⟩) HLP.out).trans HXP_6.out), ((HB.out.cell (p := ⟨p.block, p.off + 7, none⟩) HLP.out).trans HXP_7.out), ((HB.out.cell (p := ⟨p.block, p.off + 8, none⟩) HLP.out).trans HXP_8.out), ((HB.out.cell (p := ⟨p.block, p.off + 9, none⟩) HLP.out).trans HXP_9.out)⟩ (fun hHeld => ?_); clear hK K; refine norm_ (a' := ?_) ?_ ?_; rotate_left
        ·
         show Act.put _ (some 86) _ = _; simp only [Act.put, List.setIfInBounds_toArray, List.set_cons_zero, List.set_cons_succ, i64_w, i32_w]; rfl
        refine one_ (i := 13) (N := some 87) #[Y',Y',Y',Y',Y',Y',Y',Y',Y',Y',Y',Y',Y',Y',Y',Y',Y',Y',Y',Z',Z'] rfl rfl (one_of HT_.out (by kernel_rfl)) (by decide) (fun K hK => ?_); refine Kd.R_append_rows_step (Kd.int .u8) (w0 := w) w.heap.size (by rfl) (.tmp 74) (.tmp 86) 30 5 (.int .u8 0) 1 rfl Try.underlying30 info5 rfl (by decide) (by omega) v194 y193 y238 _ _ _ (fun k_ => some k_ ≠ (.slice Ao58 y238.length co58 : Value).ownBlock) (fun _ => False) rfl rfl ?aO ?aR (fun _ _ h => h) (fun _ h => h.elim) ?aF ?aB ?aS ?aL ?_; (case aR => repeat (first | exact (Kd.R_reads' HO240.out).2.2 | (with_reducible refine Kd.C_alloc ?_ _) | (with_reducible refine Kd.C_drewN ?_ _) | (with_reducible refine Kd.C_drew ?_))); (case aB => exact below_a); (case aF => exact (fun k_ hk => Kd.fresh' (Kd.R_lt (R_a HO240.out)) k_ hk)); (case aO => exact (by (with_reducible repeat (first | apply Kd.R_alloc | apply Kd.R_drewN | apply Kd.R_drew)); exact Kd.R_mono HO_3.out (fun _ hk => hk.2))); (case aS => exact (below_size below_a)); (case aL => have := LMc52.out; omega); intro v242 w57 ho hb hg hat; rw [← Ny241.out] at ho; replace HO240 := Aside0.mk (Kd.R_after (ok := (fun _ => True)) (R_a HO240.out) hg hat); replace HB := Aside0.mk (hb); have HO243 := Aside0.mk (ho); clear HO_3 ho hb hg hat; refine hK.out _ _ ⟨((HB.out.cell (p := p) HLP.out).trans HXP_0.out), ((HB.out.cell (p := ⟨p.block, p.off + 1, none⟩) HLP.out).trans HXP_1.out), ((HB.out.cell (p := ⟨p.block, p.off + 2, none⟩) HLP.out).trans HXP_2.out), ((HB.out.cell (p := ⟨p.block, p.off + 3, none⟩) HLP.out).trans HXP_3.out), ((HB.out.cell (p := ⟨p.block, p.off + 4, none⟩) HLP.out).trans HXP_4.out), ((HB.out.cell (p := ⟨p.block, p.off + 5, none⟩) HLP.out).trans HXP_5.out), ((HB.out.cell (p := ⟨p.block, p.off + 6, none⟩) HLP.out).trans HXP_6.out), ((HB.out.cell (p := ⟨p.block, p.off + 7, none⟩) HLP.out).trans HXP_7.out), ((HB.out.cell (p := ⟨p.block, p.off + 8, none⟩) HLP.out).trans HXP_8.out), ((HB.out.cell (p := ⟨p.block, p.off + 9, none⟩) HLP.out).trans HXP_9.out)⟩ (fun hHeld => ?_); clear hK K; refine norm_ (a' := ?_) ?_ ?_; rotate_left
        ·
         show Act.put _ (some 87) _ = _; simp only [Act.put, List.setIfInBounds_toArray, List.set_cons_zero, List.set_cons_succ, i64_w, i32_w]; rfl
        refine one_ (i := 19) (N := some 93) #[Y',Y',Y',Y',Y',Y',Y',Y',Y',Y',Y',Y',Y',Y',Y',Y',Y',Y',Y',Y',Z'] rfl rfl (one_of HT_.out (by kernel_rfl)) (by decide) (fun K hK => ?_); refine Kd.R_append_rows_step (Kd.int .u8) (w0 := w) w.heap.size (by rfl) (.tmp 87) (.tmp 92) 30 5 (.int .u8 0) 1 rfl Try.underlying30 info5 rfl (by decide) (by omega) v242 y241 l0_9 _ _ _ (fun k_ => some k_ ≠ (.slice Ao58 y238.length co58 : Value).ownBlock) (fun _ => False) rfl rfl ?aO ?aR (fun _ _ h => h) (fun _ h => h.elim) ?aF ?aB ?aS ?aL ?_; (case aR => repeat (first | exact (Kd.C_below HR0_9.out HB.out) | (with_reducible refine Kd.C_alloc ?_ _) | (with_reducible refine Kd.C_drewN ?_ _) | (with_reducible refine Kd.C_drew ?_))); (case aB => exact below_a); (case aF => exact (fun k_ hk => Kd.fresh' (Kd.R_lt (R_a HO240.out)) k_ hk)); (case aO => exact (R_a HO243.out)); (case aS => exact (below_size below_a)); (case aL => have := LMc53.out; omega); intro v245 w59 ho hb hg hat; rw [← Ny244.out] at ho; replace HO240 := Aside0.mk (Kd.R_after (ok := (fun _ => True)) (R_a HO240.out) hg hat); replace HB := Aside0.mk (hb); have HO246 := Aside0.mk (ho); clear HO243 ho hb hg hat; refine hK.out _ _ ⟨((HB.out.cell (p := p) HLP.out).trans HXP_0.out), ((HB.out.cell (p := ⟨p.block, p.off + 1, none⟩) HLP.out).trans HXP_1.out), ((HB.out.cell (p := ⟨p.block, p.off + 2, none⟩) HLP.out).trans HXP_2.out), ((HB.out.cell (p := ⟨p.block, p.off + 3, none⟩) HLP.out).trans HXP_3.out), ((HB.out.cell (p := ⟨p.block, p.off + 4, none⟩) HLP.out).trans HXP_4.out), ((HB.out.cell (p := ⟨p.block, p.off + 5, none⟩) HLP.out).trans HXP_5.out), ((HB.out.cell (p := ⟨p.block, p.off + 6, none⟩) HLP.out).trans HXP_6.out), ((HB.out.cell (p := ⟨p.block, p.off + 7, none⟩) HLP.out).trans HXP_7.out), ((HB.out.cell (p := ⟨p.block, p.off + 8, none⟩) HLP.out).trans HXP_8.out), ((HB.out.cell (p := ⟨p.block, p.off + 9, none⟩) HLP.out).trans HXP_9.out)⟩ (fun hHeld => ?_); clear hK K; refine norm_ (a' := ?_) ?_ ?_; rotate_left
        ·
         show Act.put _ (some 93) _ = _; simp only [Act.put, List.setIfInBounds_toArray, List.set_cons_zero, List.set_cons_succ, i64_w, i32_w]; rfl
        refine pure_ (i := 20) (N := some 2) (v := ?_) (a' := ?_) #[Y',Y',Y',Y',Y',Y',Y',Y',Y',Y',Y',Y',Y',Y',Y',Y',Y',Y',Y',Y',Y'] rfl rfl (any_of HT_.out (by kernel_rfl)) (fun _ _ _ h => h) (Or.inl ⟨by rfl, ?_⟩) ?_ ?_; rotate_left
        ·
         intro w'
         go_simp
         with_reducible rfl
        rotate_left
        ·
         simp only [Act.put, List.setIfInBounds_toArray, List.set_cons_zero, List.set_cons_succ, i64_w, i32_w]; rfl
        refine done_ (done_of HT_.out (by kernel_rfl)) ?_
        try go_wp2
        go_ret
        exact ⟨_, eq_a, by (with_reducible repeat (first | apply Kd.R_alloc | apply Kd.R_drewN | apply Kd.R_drew)); exact Kd.R_mono HO246.out (fun _ hk => trivial), below_a⟩
       ·
        rw [if_neg c53] at H; exact absurd H (by simp)
      ·
       rw [if_neg c52] at H; exact absurd H (by simp)

end Go.Proofs.Ytpjelfgeohklkaa.MFnExactEncodeMessages
