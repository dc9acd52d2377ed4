-- Laid by a program of this session (the kit's print, turned where it falls short; the texts of functions that it does not take are proved by hand).
import Derived.Test.YtpjelfgeohklkaaMFnExactEncodeMessagex0
import Derived.Test.YtpjelfgeohklkaaMFnExactEncodeMessagex3
namespace Go.Proofs.Ytpjelfgeohklkaa.MFnExactEncodeMessage
open Go.RowKit Go.Proofs.YtpjelfgeohklkaaW.PrintWords Go.Proofs.YtpjelfgeohklkaaW.PrintLast Go.Proofs.YtpjelfgeohklkaaW.PrintMore
attribute [local go_sem] max2_int min2_int max_two min_two max_three min_three max_four min_four   -- for this text's walks alone
set_option linter.unusedVariables false
set_option linter.unusedSimpArgs false

attribute [local go_sem] isSome_setCell
/-! ### spec_l1Pack: function 65 -/
def spec_l1Pack.l0 : Nat → Int → List Int → Int → Option (List Int)
 | 0, _, _, _ => none
 | k + 1, x0, x5, x6 => if x6 ≥ 0 then (if 0 ≤ x6 then (if x6 < (x5.length : Int) then (spec_l1Pack.l0 k (wrap64 (Int.tdiv x0 256)) (x5.set (x6 : Int).toNat ((Int.tmod x0 256) % 256)) (wrap64 (x6 - 1))) else (none)) else (none)) else (some x5)
def spec_l1Pack.f (k : Nat) (a0 : Int) (a1 : Int) : Option (List Int) := if 0 ≤ a1 then (if (a1 : Int).toNat ≤ 281474976710656 then (spec_l1Pack.l0 k a0 (List.replicate (a1 : Int).toNat 0) (wrap64 (a1 - 1))) else (none)) else (none)
theorem spec_l1Pack.mono_l : ∀ k, (∀ y0 y1 y2, LeO (spec_l1Pack.l0 k y0 y1 y2) (spec_l1Pack.l0 (k + 1) y0 y1 y2))
 | 0 => fun _ _ _ r h => by simp [spec_l1Pack.l0] at h
 | k + 1 => by
  have ih0 := spec_l1Pack.mono_l k
  ·
   intro y0 y1 y2
   unfold spec_l1Pack.l0
   repeat' first
   | (with_reducible exact ih0 _ _ _)
   | (with_reducible exact LeO.refl _)
   | (with_reducible exact LeO.none _)
   | (with_reducible refine LeO.ite ?_ ?_)
   | (with_reducible refine LeO.bind ?_ (fun _ => ?_))
   | exact ih0 _ _ _
   | exact LeO.none _
   | refine LeO.ite ?_ ?_
   | refine LeO.bind ?_ (fun _ => ?_)
theorem spec_l1Pack.mono : ∀ a0 a1 k, LeO (spec_l1Pack.f k a0 a1) (spec_l1Pack.f (k + 1) a0 a1) := by
 intro a0 a1 k
 have ih0 := spec_l1Pack.mono_l k
 unfold spec_l1Pack.f
 repeat' first
   | (with_reducible exact ih0 _ _ _)
   | (with_reducible exact LeO.refl _)
   | (with_reducible exact LeO.none _)
   | (with_reducible refine LeO.ite ?_ ?_)
   | (with_reducible refine LeO.bind ?_ (fun _ => ?_))
   | exact ih0 _ _ _
   | exact LeO.none _
   | refine LeO.ite ?_ ?_
   | refine LeO.bind ?_ (fun _ => ?_)
set_option maxHeartbeats 8000000 in
set_option maxRecDepth 100000 in
theorem spec_l1Pack.calls (k : Nat) (a0 : Int) (a1 : Int) (r : List Int) (w : World) (h : spec_l1Pack.f k a0 a1 = some r) :
  Calls Try.prog 65 #[.int .i64 a0, .int .i64 a1] w fun e w' => ∃ v0_ : Value, e = .returned (v0_) ∧ Kd.R (Kd.int .u8) 5 w' w.heap.size (fun _ => True) v0_ r ∧ Below w.heap.size w w' := by
 have HB := Aside0.mk (Below.refl w.heap.size w)
 have H : (if 0 ≤ a1 then (if (a1 : Int).toNat ≤ 281474976710656 then (spec_l1Pack.l0 k a0 (List.replicate (a1 : Int).toNat 0) (wrap64 (a1 - 1))) else (none)) else (none)) = some r := h
 clear h
 by_cases c3 : 0 ≤ a1
 ·
  rw [if_pos c3] at H; have c3b0 := eq_true c3; have c3b1 : decide (0 ≤ a1) = true := decide_eq_true c3; clear c3
  by_cases c4 : (a1 : Int).toNat ≤ 281474976710656
  ·
   rw [if_pos c4] at H; have c4b0 := eq_true c4; have c4b1 : decide ((a1 : Int).toNat ≤ 281474976710656) = true := decide_eq_true c4; clear c4; obtain ⟨y157, hy157⟩ : ∃ y_ : List Int, y_ = (List.replicate (a1 : Int).toNat 0) := ⟨_, rfl⟩; replace H : (spec_l1Pack.l0 k a0 y157 (wrap64 (a1 - 1))) = some r := by first | (rw [hy157]; with_reducible exact H) | (have H2_ := (Option.bind_some _ _).symm.trans H; rw [hy157]; with_reducible exact H2_) | (have H2_ := (Option.bind_some _ _).symm.trans H; with_reducible exact H2_) | with_reducible exact H | (rw [hy157]; exact H) | exact H
   have Ny157 := Aside0.mk hy157; clear hy157; have H' := Aside0.mk H; clear H
   go_enter Try.func65, Try.ntmps65
   go_wp2_with (first | ((with_reducible refine gate_dst (N := 8) rfl ?_); refine Kd.R_make (Kd.int .u8) _ 5 rfl (N := 8) rfl 30 _ _ rfl a1 rfl rfl Try.underlying30 (.int .u8 0) 1 info5 rfl (by decide) (by omega) 0 (ok := fun _ => True) (okp := fun _ => True) rfl (fun _ hk => hk) trivial (of_decide_eq_true (by first | (with_reducible assumption) | assumption)) (Nat.le_trans (Nat.mul_le_mul_right _ (of_decide_eq_true (by first | (with_reducible assumption) | assumption) : a1.toNat ≤ 281474976710656)) (by omega)) (Below.refl _ _) (Nat.le_refl _) ?_; intro v158 w5 ho6 hb hg_ hnew_; clear hg_ hnew_; (first | rw [← Ny157.out] at ho6 | (simp only [Int.reduceToNat] at ho6; rw [← Ny157.out] at ho6)); have HO159 := Aside0.mk (Kd.R_lower ho6 (below_size below_a)); replace HB := Aside0.mk (below_step below_a hb); clear hb ho6))
   go_loopg [0, 6] k (fun kq v0 v6 w' => ∃ (x0_1 : Int) (x5_1 : List Int) (x6_1 : Int), v0 = .int .i64 x0_1 ∧ v6 = .int .i64 x6_1 ∧ Aside0 (spec_l1Pack.l0 kq x0_1 x5_1 x6_1 = some r) ∧ Aside0 (kq ≤ k) ∧ Aside0 (Kd.R (Kd.int .u8) 5 w' w.heap.size (fun _ => True) v158 x5_1) ∧ Aside0 (Below w.heap.size w w'))
   case atStart => exact ⟨(a0), (y157), (wrap64 (a1 - 1)), eq_b, eq_b, H', ⟨Nat.le_refl _⟩, ⟨R_a HO159.out⟩, ⟨below_a⟩⟩
   case round =>
    clear H'
    try clear p2
    try clear c3 c3b0 c3b1
    try clear c4 c4b0 c4b1
    try clear c6
    try clear p6
    obtain ⟨x0_1, x5_1, x6_1, rfl, rfl, HA, HK1, HO_5, HB⟩ := hrel
    cases gk with
    | zero => exact absurd HA.out (by simp [spec_l1Pack.l0])
    | succ k1 =>
     have H := HA.out; clear HA; simp only [spec_l1Pack.l0] at H
     by_cases c7 : x6_1 ≥ 0
     ·
      rw [if_pos c7] at H; have c7b0 : decide (0 ≤ x6_1) = true := decide_eq_true c7; clear c7
      by_cases c8 : 0 ≤ x6_1
      ·
       rw [if_pos c8] at H; have c8b0 : decide (0 ≤ x6_1) = true := decide_eq_true c8; clear c8
       by_cases c9 : x6_1 < (x5_1.length : Int)
       ·
        rw [if_pos c9] at H; have c9b0 : decide (x6_1 < (x5_1.length : Int)) = true := decide_eq_true c9; clear c9; obtain ⟨y160, hy160⟩ : ∃ y_ : List Int, y_ = (x5_1.set (x6_1 : Int).toNat ((Int.tmod x0_1 256) % 256)) := ⟨_, rfl⟩; replace H : (spec_l1Pack.l0 k1 (wrap64 (Int.tdiv x0_1 256)) y160 (wrap64 (x6_1 - 1))) = some r := by first | (rw [hy160]; with_reducible exact H) | (have H2_ := (Option.bind_some _ _).symm.trans H; rw [hy160]; with_reducible exact H2_) | (have H2_ := (Option.bind_some _ _).symm.trans H; with_reducible exact H2_) | with_reducible exact H | (rw [hy160]; exact H) | exact H
        have Ny160 := Aside0.mk hy160; clear hy160; have H' := Aside0.mk H; clear H; have p10 : 0 ≤ (x6_1 : Int) := of_decide_eq_true (by first | (with_reducible assumption) | assumption); have q10 : (x6_1 : Int) < ((x5_1.length : Int) : Int) := of_decide_eq_true (by first | (with_reducible assumption) | assumption); obtain ⟨go10, co10, eo10, gb10, gl10, cl10, HG10⟩ := Kd.R_form HO_5.out (by omega); (first | cases eo10 | (injection eo10 with ea_ en_ ec_; (first | subst ea_ | (injection ea_ with ea_; subst ea_)); subst ec_; clear en_)); have GB10 := Aside0.mk gb10; have GG10 := Aside0.mk HG10; clear gb10 gl10 HG10; obtain ⟨hx10_0, hf10_0⟩ := Kd.R_celln 0 HO_5.out (x6_1 : Int) p10 q10; replace p10 := eq_true p10; replace q10 := eq_true q10; have HP11 := Kd.R_putg HO_5.out (x6_1 : Int) ((Int.tmod x0_1 256) % 256)
        go_wp2_with (first | ((with_reducible refine gate_store (t := 5) (p := 20) rfl ?_); refine store_event (t := 5) (p := 20) (v := ?vo_w12) (w1 := (wr.setCell ⟨go10, (x6_1 : Int).toNat, none⟩ (.int .u8 ((Int.tmod x0_1 256) % 256)))) ?hg ?ho ?hn ?hr ?_; (case ho => rfl); (case hg => rfl); (case hn => rfl); (case hr => first | (go_simp; done) | (go_simp; rfl)); intro w12 hw; have hg : wr.grownBy w12 (some go10) := (by rw [hw]; exact HP11.2); have hp_ : Kd.R (Kd.int .u8) 5 w12 w.heap.size (fun _ => True) (.slice (some ⟨go10, 0, none⟩) x5_1.length co10) y160 := (by rw [hw, Ny160.out]; exact HP11.1); clear HP11; replace HO_5 := Aside0.mk (hp_); replace HB := Aside0.mk ((by rw [hw]; exact below_set (HB.out) GB10.out : Below w.heap.size w w12)); clear hg hw hp_))
        go_roundg k1
        case measure => have := HK1.out; omega
        case rel => exact ⟨(wrap64 (Int.tdiv x0_1 256)), (y160), (wrap64 (x6_1 - 1)), eq_b, eq_b, H', ⟨by have := HK1.out; omega⟩, ⟨R_a HO_5.out⟩, ⟨below_a⟩⟩
       ·
        rw [if_neg c9] at H; exact absurd H (by simp)
      ·
       rw [if_neg c8] at H; exact absurd H (by simp)
     ·
      rw [if_neg c7] at H; have c7b0 : decide (0 ≤ x6_1) = false := decide_eq_false c7; clear c7; obtain rfl := Option.some.inj H
      go_wp2
      go_ret
      exact ⟨_, eq_a, R_a HO_5.out, below_a⟩
  ·
   rw [if_neg c4] at H; exact absurd H (by simp)
 ·
  rw [if_neg c3] at H; exact absurd H (by simp)

/-! ### spec_l7Encode: function 52 -/
def spec_l7Encode.j0 : Nat → List Int → Int → Bool → Int → Int → Int → Int → Int → Int → Int → Int → Int → List Int → Option (List Int)
 | 0, _, _, _, _, _, _, _, _, _, _, _, _, _ => none
 | k + 1, x3, x13, x14, x1000, x1001, x1002, x1003, x1004, x1005, x1006, x1007, x1008, x1009 => if x14 = true then ((spec_l1Pack.f k x1001 4).bind fun t164 => (if x3.length + t164.length < 140737488355328 then ((some (x3 ++ t164 : List Int)).bind fun y167 => ((some (([(x1002) % 256] : List Int) : List Int)).bind fun y170 => (if y167.length + y170.length < 140737488355328 then (some (y167 ++ y170)) else (none)))) else (none))) else (if x13 = 2 then ((spec_l1Pack.f k x1001 4).bind fun t176 => (if x3.length + t176.length < 140737488355328 then (some (x3 ++ t176)) else (none))) else (if x13 = 4 then ((some (([(x1003) % 256] : List Int) : List Int)).bind fun y182 => (if x3.length + y182.length < 140737488355328 then ((some (x3 ++ y182 : List Int)).bind fun y185 => ((spec_l1Pack.f k x1004 4).bind fun t188 => (if y185.length + t188.length < 140737488355328 then ((some (y185 ++ t188 : List Int)).bind fun y191 => ((some (([(x1005) % 256] : List Int) : List Int)).bind fun y194 => (if y191.length + y194.length < 140737488355328 then ((some (y191 ++ y194 : List Int)).bind fun y197 => ((spec_l1Pack.f k x1006 4).bind fun t200 => (if y197.length + t200.length < 140737488355328 then (some (y197 ++ t200)) else (none)))) else (none)))) else (none)))) else (none))) else ((some (([(x1007) % 256, (x1008) % 256] : List Int) : List Int)).bind fun y206 => (if x3.length + y206.length < 140737488355328 then ((some (x3 ++ y206 : List Int)).bind fun y209 => (if y209.length + x1009.length < 140737488355328 then (some (y209 ++ x1009)) else (none))) else (none)))))
def spec_l7Encode.f (k : Nat) (a0_0 : Int) (a0_1 : Int) (a0_2 : Int) (a0_3 : Int) (a0_4 : Int) (a0_5 : Int) (a0_6 : Int) (a0_7 : Int) (a0_8 : Int) (l0_9 : List Int) : Option (List Int) := (some (([(a0_0) % 256] : List Int) : List Int)).bind fun y161 => (if a0_0 = 1 then (spec_l7Encode.j0 k y161 a0_0 (a0_0 == 1) a0_0 a0_1 a0_2 a0_3 a0_4 a0_5 a0_6 a0_7 a0_8 l0_9) else (spec_l7Encode.j0 k y161 a0_0 (a0_0 == 3) a0_0 a0_1 a0_2 a0_3 a0_4 a0_5 a0_6 a0_7 a0_8 l0_9))
theorem spec_l7Encode.mono_l : ∀ k, (∀ y0 y1 y2 y3 y4 y5 y6 y7 y8 y9 y10 y11 y12, LeO (spec_l7Encode.j0 k y0 y1 y2 y3 y4 y5 y6 y7 y8 y9 y10 y11 y12) (spec_l7Encode.j0 (k + 1) y0 y1 y2 y3 y4 y5 y6 y7 y8 y9 y10 y11 y12))
 | 0 => fun _ _ _ _ _ _ _ _ _ _ _ _ _ r h => by simp [spec_l7Encode.j0] at h
 | k + 1 => by
  have ih0 := spec_l7Encode.mono_l k
  ·
   intro y0 y1 y2 y3 y4 y5 y6 y7 y8 y9 y10 y11 y12
   unfold spec_l7Encode.j0
   repeat' first
   | (with_reducible exact ih0 _ _ _ _ _ _ _ _ _ _ _ _ _)
   | (with_reducible exact spec_l1Pack.mono _ _ _)
   | (with_reducible exact LeO.refl _)
   | (with_reducible exact LeO.none _)
   | (with_reducible refine LeO.ite ?_ ?_)
   | (with_reducible refine LeO.bind ?_ (fun _ => ?_))
   | exact ih0 _ _ _ _ _ _ _ _ _ _ _ _ _
   | exact spec_l1Pack.mono _ _ _
   | exact LeO.none _
   | refine LeO.ite ?_ ?_
   | refine LeO.bind ?_ (fun _ => ?_)
theorem spec_l7Encode.mono : ∀ a0 a1 a2 a3 a4 a5 a6 a7 a8 a9 k, LeO (spec_l7Encode.f k a0 a1 a2 a3 a4 a5 a6 a7 a8 a9) (spec_l7Encode.f (k + 1) a0 a1 a2 a3 a4 a5 a6 a7 a8 a9) := by
 intro a0 a1 a2 a3 a4 a5 a6 a7 a8 a9 k
 have ih0 := spec_l7Encode.mono_l k
 unfold spec_l7Encode.f
 repeat' first
   | (with_reducible exact ih0 _ _ _ _ _ _ _ _ _ _ _ _ _)
   | (with_reducible exact spec_l1Pack.mono _ _ _)
   | (with_reducible exact LeO.refl _)
   | (with_reducible exact LeO.none _)
   | (with_reducible refine LeO.ite ?_ ?_)
   | (with_reducible refine LeO.bind ?_ (fun _ => ?_))
   | exact ih0 _ _ _ _ _ _ _ _ _ _ _ _ _
   | exact spec_l1Pack.mono _ _ _
   | exact LeO.none _
   | refine LeO.ite ?_ ?_
   | refine LeO.bind ?_ (fun _ => ?_)
def spec_l7Encode.T5 : Bool × List (List Nat × List Nat) := (true, [([], []), ([], []), ([1], [1]), ([2], [2]), ([3], [3]), ([4], [4]), ([0, 5, 5], [0, 5]), ([], []), ([7], [7]), ([8], [8]), ([9], [9]), ([10], [10]), ([11], [11]), ([6, 12, 6], [6, 12]), ([13, 13, 0, 1, 2, 3, 4, 5, 6, 7, 8, 9, 10, 11, 12, 13], [13])])
def spec_l7Encode.B5 : List Nat := [0, 0, 2, 6, 14, 30, 63, 0, 128, 384, 896, 1920, 3968, 8191, 16383]
theorem spec_l7Encode.tab5 : rtab .any (opsOf Try.f52 5) = spec_l7Encode.T5 := by kernel_rfl
theorem spec_l7Encode.bits5 : waitsOk spec_l7Encode.T5.2 spec_l7Encode.B5 = true := by kernel_rfl
def spec_l7Encode.T9 : Bool × List (List Nat × List Nat) := (true, [([], []), ([], []), ([1], [1]), ([2], [2]), ([3], [3]), ([4], [4]), ([5], [5]), ([6], [6]), ([0, 7], [0, 7]), ([], []), ([9], [9]), ([10], [10]), ([11], [11]), ([12], [12]), ([13, 8], [13]), ([8, 14, 14], [8, 14]), ([15, 15, 0, 1, 2, 3, 4, 5, 6, 7, 8, 9, 10, 11, 12, 13, 14, 15], [0, 15])])
def spec_l7Encode.B9 : List Nat := [0, 0, 2, 6, 14, 30, 62, 126, 255, 0, 512, 1536, 3584, 7680, 16383, 32767, 65535]
theorem spec_l7Encode.tab9 : rtab .any (opsOf Try.f52 9) = spec_l7Encode.T9 := by kernel_rfl
theorem spec_l7Encode.bits9 : waitsOk spec_l7Encode.T9.2 spec_l7Encode.B9 = true := by kernel_rfl
def spec_l7Encode.T10 : Bool × List (List Nat × List Nat) := (true, [([], []), ([], []), ([1], [1]), ([2], [2]), ([3], [3]), ([4], [4]), ([5], [5]), ([6], [6]), ([0, 7], [0, 7]), ([], []), ([9], [9]), ([10], [10]), ([11], [11]), ([12], [12]), ([13, 8], [13]), ([8, 14, 14], [8, 14]), ([15, 15, 0, 1, 2, 3, 4, 5, 6, 7, 8, 9, 10, 11, 12, 13, 14, 15], [15])])
def spec_l7Encode.B10 : List Nat := [0, 0, 2, 6, 14, 30, 62, 126, 255, 0, 512, 1536, 3584, 7680, 16383, 32767, 65535]
theorem spec_l7Encode.tab10 : rtab .any (opsOf Try.f52 10) = spec_l7Encode.T10 := by kernel_rfl
theorem spec_l7Encode.bits10 : waitsOk spec_l7Encode.T10.2 spec_l7Encode.B10 = true := by kernel_rfl
def spec_l7Encode.T11 : Bool × List (List Nat × List Nat) := (true, [([], []), ([], []), ([1], [1]), ([2], [2]), ([3], [3]), ([4], [4]), ([], []), ([6], [6]), ([7], [7]), ([8], [8]), ([9], [9]), ([10], [10]), ([5, 11], [5, 11]), ([0, 12], [0, 12]), ([], []), ([14], [14]), ([15], [15]), ([16], [16]), ([17], [17]), ([13, 18, 13], [13, 18]), ([19, 19, 0, 1, 2, 3, 4, 5, 6, 7, 8, 9, 10, 11, 12, 13, 14, 15, 16, 17, 18, 19], [19])])
def spec_l7Encode.B11 : List Nat := [0, 0, 2, 6, 14, 30, 0, 64, 192, 448, 960, 1984, 4094, 8191, 0, 16384, 49152, 114688, 245760, 524287, 1048575]
theorem spec_l7Encode.tab11 : rtab .any (opsOf Try.f52 11) = spec_l7Encode.T11 := by kernel_rfl
theorem spec_l7Encode.bits11 : waitsOk spec_l7Encode.T11.2 spec_l7Encode.B11 = true := by kernel_rfl
set_option maxHeartbeats 8000000 in
set_option maxRecDepth 100000 in
theorem spec_l7Encode.calls (k : Nat) (p : Addr) (a0_0 : Int) (a0_1 : Int) (a0_2 : Int) (a0_3 : Int) (a0_4 : Int) (a0_5 : Int) (a0_6 : Int) (a0_7 : Int) (a0_8 : Int) (A0_9 : Option Addr) (c0_9 : Nat) (l0_9 : List Int) (r : List Int) (w : World) (hr0_9 : Kd.C (Kd.int .u8) w A0_9 l0_9.length l0_9) (hc0_9 : l0_9.length ≤ c0_9) (hxp_0 : w.cell? p = some (.int .i64 a0_0)) (hxp_1 : w.cell? ⟨p.block, p.off + 1, none⟩ = some (.int .i64 a0_1)) (hxp_2 : w.cell? ⟨p.block, p.off + 2, none⟩ = some (.int .i64 a0_2)) (hxp_3 : w.cell? ⟨p.block, p.off + 3, none⟩ = some (.int .i64 a0_3)) (hxp_4 : w.cell? ⟨p.block, p.off + 4, none⟩ = some (.int .i64 a0_4)) (hxp_5 : w.cell? ⟨p.block, p.off + 5, none⟩ = some (.int .i64 a0_5)) (hxp_6 : w.cell? ⟨p.block, p.off + 6, none⟩ = some (.int .i64 a0_6)) (hxp_7 : w.cell? ⟨p.block, p.off + 7, none⟩ = some (.int .i64 a0_7)) (hxp_8 : w.cell? ⟨p.block, p.off + 8, none⟩ = some (.int .i64 a0_8)) (hxp_9 : w.cell? ⟨p.block, p.off + 9, none⟩ = some (.slice A0_9 l0_9.length c0_9)) (h : spec_l7Encode.f k a0_0 a0_1 a0_2 a0_3 a0_4 a0_5 a0_6 a0_7 a0_8 l0_9 = some r) :
  Calls Try.prog 52 #[.pointer (some p)] w fun e w' => ∃ v0_ : Value, e = .returned (v0_) ∧ Kd.R (Kd.int .u8) 5 w' w.heap.size (fun _ => True) v0_ r ∧ Below w.heap.size w w' := by
 have HXP_0 := Aside0.mk hxp_0
 have HXP_1 := Aside0.mk hxp_1
 have HXP_2 := Aside0.mk hxp_2
 have HXP_3 := Aside0.mk hxp_3
 have HXP_4 := Aside0.mk hxp_4
 have HXP_5 := Aside0.mk hxp_5
 have HXP_6 := Aside0.mk hxp_6
 have HXP_7 := Aside0.mk hxp_7
 have HXP_8 := Aside0.mk hxp_8
 have HXP_9 := Aside0.mk hxp_9
 have HLP := Aside0.mk (show p.block < w.heap.size from World.block_lt_of_cell? w _ hxp_0)
 clear hxp_0 hxp_1 hxp_2 hxp_3 hxp_4 hxp_5 hxp_6 hxp_7 hxp_8 hxp_9
 have HR0_9 := Aside0.mk hr0_9
 have HC0_9 := Aside0.mk hc0_9
 clear hr0_9 hc0_9
 have HB := Aside0.mk (Below.refl w.heap.size w)
 have H : ((some (([(a0_0) % 256] : List Int) : List Int)).bind fun y161 => (if a0_0 = 1 then (spec_l7Encode.j0 k y161 a0_0 (a0_0 == 1) a0_0 a0_1 a0_2 a0_3 a0_4 a0_5 a0_6 a0_7 a0_8 l0_9) else (spec_l7Encode.j0 k y161 a0_0 (a0_0 == 3) a0_0 a0_1 a0_2 a0_3 a0_4 a0_5 a0_6 a0_7 a0_8 l0_9))) = some r := h
 clear h
 obtain ⟨y161, hy161⟩ : ∃ y_ : List Int, y_ = (([(a0_0) % 256] : List Int)) := ⟨_, rfl⟩
 replace H : (if a0_0 = 1 then (spec_l7Encode.j0 k y161 a0_0 (a0_0 == 1) a0_0 a0_1 a0_2 a0_3 a0_4 a0_5 a0_6 a0_7 a0_8 l0_9) else (spec_l7Encode.j0 k y161 a0_0 (a0_0 == 3) a0_0 a0_1 a0_2 a0_3 a0_4 a0_5 a0_6 a0_7 a0_8 l0_9)) = some r := by first | (rw [hy161]; with_reducible exact H) | (have H2_ := (Option.bind_some _ _).symm.trans H; rw [hy161]; with_reducible exact H2_) | (have H2_ := (Option.bind_some _ _).symm.trans H; with_reducible exact H2_) | with_reducible exact H | (rw [hy161]; exact H) | exact H
 have Ny161 := Aside0.mk hy161
 clear hy161
 have HC2 := Aside0.mk H
 clear H
 have hcz3_0 : w.cell? p = some (.int .i64 a0_0) := (HB.out.cell (p := p) HLP.out).trans HXP_0.out
 have hcz3_1 : w.cell? ⟨p.block, p.off + 1, none⟩ = some (.int .i64 a0_1) := (HB.out.cell (p := ⟨p.block, p.off + 1, none⟩) HLP.out).trans HXP_1.out
 have hcz3_2 : w.cell? ⟨p.block, p.off + 2, none⟩ = some (.int .i64 a0_2) := (HB.out.cell (p := ⟨p.block, p.off + 2, none⟩) HLP.out).trans HXP_2.out
 have hcz3_3 : w.cell? ⟨p.block, p.off + 3, none⟩ = some (.int .i64 a0_3) := (HB.out.cell (p := ⟨p.block, p.off + 3, none⟩) HLP.out).trans HXP_3.out
 have hcz3_4 : w.cell? ⟨p.block, p.off + 4, none⟩ = some (.int .i64 a0_4) := (HB.out.cell (p := ⟨p.block, p.off + 4, none⟩) HLP.out).trans HXP_4.out
 have hcz3_5 : w.cell? ⟨p.block, p.off + 5, none⟩ = some (.int .i64 a0_5) := (HB.out.cell (p := ⟨p.block, p.off + 5, none⟩) HLP.out).trans HXP_5.out
 have hcz3_6 : w.cell? ⟨p.block, p.off + 6, none⟩ = some (.int .i64 a0_6) := (HB.out.cell (p := ⟨p.block, p.off + 6, none⟩) HLP.out).trans HXP_6.out
 have hcz3_7 : w.cell? ⟨p.block, p.off + 7, none⟩ = some (.int .i64 a0_7) := (HB.out.cell (p := ⟨p.block, p.off + 7, none⟩) HLP.out).trans HXP_7.out
 have hcz3_8 : w.cell? ⟨p.block, p.off + 8, none⟩ = some (.int .i64 a0_8) := (HB.out.cell (p := ⟨p.block, p.off + 8, none⟩) HLP.out).trans HXP_8.out
 have hcz3_9 : w.cell? ⟨p.block, p.off + 9, none⟩ = some (.slice A0_9 l0_9.length c0_9) := (HB.out.cell (p := ⟨p.block, p.off + 9, none⟩) HLP.out).trans HXP_9.out
 go_enter Try.func52, Try.ntmps52
 go_upto_if 14 with (first | ((with_reducible refine gate_dst (N := 9) rfl ?_); refine Kd.R_lit (Kd.int .u8) _ 5 ?hg (N := 9) ?hd (xs := ([(a0_0) % 256] : List Int)) (inner := [.int .u8 ((a0_0) % 256)]) (ok := fun _ => True) (okp := fun _ => True) ?hr ?hp (fun _ hk => hk) trivial (Below.refl _ _) (Nat.le_refl _) (by simp) ?_; (case hd => rfl); (case hg => rfl); (case hr => first | (go_simp; done) | (go_simp; rfl)); (case hp => exact (Reps.one (show Kd.M (Kd.int .u8) _ _ _ ((a0_0) % 256) [.int .u8 ((a0_0) % 256)] from rfl) (Reps.none _ _))); intro v162 w4 ho5 hb hg_ hnew_; clear hg_ hnew_; (first | rw [← Ny161.out] at ho5 | (simp only [Int.reduceToNat] at ho5; rw [← Ny161.out] at ho5)); have HO163 := Aside0.mk (Kd.R_lower ho5 (below_size below_a)); replace HB := Aside0.mk (below_step below_a hb); clear hb ho5; have hcz6_0 : w4.cell? p = some (.int .i64 a0_0) := (HB.out.cell (p := p) HLP.out).trans HXP_0.out; have hcz6_1 : w4.cell? ⟨p.block, p.off + 1, none⟩ = some (.int .i64 a0_1) := (HB.out.cell (p := ⟨p.block, p.off + 1, none⟩) HLP.out).trans HXP_1.out; have hcz6_2 : w4.cell? ⟨p.block, p.off + 2, none⟩ = some (.int .i64 a0_2) := (HB.out.cell (p := ⟨p.block, p.off + 2, none⟩) HLP.out).trans HXP_2.out; have hcz6_3 : w4.cell? ⟨p.block, p.off + 3, none⟩ = some (.int .i64 a0_3) := (HB.out.cell (p := ⟨p.block, p.off + 3, none⟩) HLP.out).trans HXP_3.out; have hcz6_4 : w4.cell? ⟨p.block, p.off + 4, none⟩ = some (.int .i64 a0_4) := (HB.out.cell (p := ⟨p.block, p.off + 4, none⟩) HLP.out).trans HXP_4.out; have hcz6_5 : w4.cell? ⟨p.block, p.off + 5, none⟩ = some (.int .i64 a0_5) := (HB.out.cell (p := ⟨p.block, p.off + 5, none⟩) HLP.out).trans HXP_5.out; have hcz6_6 : w4.cell? ⟨p.block, p.off + 6, none⟩ = some (.int .i64 a0_6) := (HB.out.cell (p := ⟨p.block, p.off + 6, none⟩) HLP.out).trans HXP_6.out; have hcz6_7 : w4.cell? ⟨p.block, p.off + 7, none⟩ = some (.int .i64 a0_7) := (HB.out.cell (p := ⟨p.block, p.off + 7, none⟩) HLP.out).trans HXP_7.out; have hcz6_8 : w4.cell? ⟨p.block, p.off + 8, none⟩ = some (.int .i64 a0_8) := (HB.out.cell (p := ⟨p.block, p.off + 8, none⟩) HLP.out).trans HXP_8.out; have hcz6_9 : w4.cell? ⟨p.block, p.off + 9, none⟩ = some (.slice A0_9 l0_9.length c0_9) := (HB.out.cell (p := ⟨p.block, p.off + 9, none⟩) HLP.out).trans HXP_9.out))
 (try simp only [Act.put, List.setIfInBounds_toArray, List.set_cons_zero, List.set_cons_succ])
 go_cut [14] (fun v14 wc => ∃ (kq : Nat) (x14_1 : Bool), v14 = .bool x14_1 ∧ Aside0 (spec_l7Encode.j0 kq y161 a0_0 x14_1 a0_0 a0_1 a0_2 a0_3 a0_4 a0_5 a0_6 a0_7 a0_8 l0_9 = some r) ∧ Aside0 (kq ≤ k) ∧ Aside0 (Kd.R (Kd.int .u8) 5 wc w.heap.size (fun _ => True) v162 y161) ∧ Aside0 (Below w.heap.size w wc))
 case first =>
  have H := HC2.out; clear HC2
  by_cases c7 : a0_0 = 1
  ·
   rw [if_pos c7] at H; have c7b0 : (a0_0 == 1) = true := beq_iff_eq.mpr c7; have c7b1 : (a0_0 != 1) = false := bne_eq_false_iff_eq.mpr c7; clear c7; (first | rw [c7b0] | (simp only [i64_w, i32_w]; rw [c7b0]) | skip); have H' := Aside0.mk H; clear H
   go_wp2
   go_meet
   case rel => exact ⟨_, ((a0_0 == 1)), eq_b, H', ⟨by first | omega | exact Nat.le_refl _⟩, ⟨R_a HO163.out⟩, ⟨below_a⟩⟩
  ·
   rw [if_neg c7] at H; have c7b0 : (a0_0 == 1) = false := beq_eq_false_iff_ne.mpr c7; have c7b1 : (a0_0 != 1) = true := bne_iff_ne.mpr c7; (first | rw [c7b0] | (simp only [i64_w, i32_w]; rw [c7b0]) | skip); have H' := Aside0.mk H; clear H
   go_wp2
   go_meet
   case rel => exact ⟨_, ((a0_0 == 3)), eq_b, H', ⟨by first | omega | exact Nat.le_refl _⟩, ⟨R_a HO163.out⟩, ⟨below_a⟩⟩
 case rest =>
  clear HC2
  try clear p2
  try clear c5
  try clear c7 c7b0 c7b1
  try clear hcz3_0 hcz3_1 hcz3_2 hcz3_3 hcz3_4 hcz3_5 hcz3_6 hcz3_7 hcz3_8 hcz3_9
  try clear hcz6_0 hcz6_1 hcz6_2 hcz6_3 hcz6_4 hcz6_5 hcz6_6 hcz6_7 hcz6_8 hcz6_9
  obtain ⟨kq, x14_1, rfl, HA, HJ1, HO_3, HB⟩ := hcut
  cases kq with
  | zero => exact absurd HA.out (by simp [spec_l7Encode.j0])
  | succ kj1 =>
   have H := HA.out; clear HA; simp only [spec_l7Encode.j0] at H
   by_cases c8 : x14_1 = true
   ·
    subst c8; have H1 : ((spec_l1Pack.f kj1 a0_1 4).bind fun t164 => (if y161.length + t164.length < 140737488355328 then ((some (y161 ++ t164 : List Int)).bind fun y167 => ((some (([(a0_2) % 256] : List Int) : List Int)).bind fun y170 => (if y167.length + y170.length < 140737488355328 then (some (y167 ++ y170)) else (none)))) else (none))) = some r := by rw [if_pos rfl] at H; exact H
    clear H; have H := H1; clear H1; replace H := Option.bind_eq_some_iff.mp H; obtain ⟨t164, A90, H⟩ := H; replace H : (if y161.length + t164.length < 140737488355328 then ((some (y161 ++ t164 : List Int)).bind fun y167 => ((some (([(a0_2) % 256] : List Int) : List Int)).bind fun y170 => (if y167.length + y170.length < 140737488355328 then (some (y167 ++ y170)) else (none)))) else (none)) = some r := H; have A9 := Aside0.mk A90; clear A90
    by_cases c10 : y161.length + t164.length < 140737488355328
    ·
     rw [if_pos c10] at H; have LMc10 := Aside0.mk c10; clear c10; obtain ⟨y167, hy167⟩ : ∃ y_ : List Int, y_ = (y161 ++ t164) := ⟨_, rfl⟩; replace H : ((some (([(a0_2) % 256] : List Int) : List Int)).bind fun y170 => (if y167.length + y170.length < 140737488355328 then (some (y167 ++ y170)) else (none))) = some r := by first | (rw [hy167]; with_reducible exact H) | (have H2_ := (Option.bind_some _ _).symm.trans H; rw [hy167]; with_reducible exact H2_) | (have H2_ := (Option.bind_some _ _).symm.trans H; with_reducible exact H2_) | with_reducible exact H | (rw [hy167]; exact H) | exact H
     have Ny167 := Aside0.mk hy167; clear hy167; obtain ⟨y170, hy170⟩ : ∃ y_ : List Int, y_ = (([(a0_2) % 256] : List Int)) := ⟨_, rfl⟩; replace H : (if y167.length + y170.length < 140737488355328 then (some (y167 ++ y170)) else (none)) = some r := by first | (rw [hy170]; with_reducible exact H) | (have H2_ := (Option.bind_some _ _).symm.trans H; rw [hy170]; with_reducible exact H2_) | (have H2_ := (Option.bind_some _ _).symm.trans H; with_reducible exact H2_) | with_reducible exact H | (rw [hy170]; exact H) | exact H
     have Ny170 := Aside0.mk hy170; clear hy170
     by_cases c11 : y167.length + y170.length < 140737488355328
     ·
      rw [if_pos c11] at H; have LMc11 := Aside0.mk c11; clear c11; obtain ⟨y173, hy173⟩ : ∃ y_ : List Int, y_ = (y167 ++ y170) := ⟨_, rfl⟩; replace H : (some y173) = some r := by first | (rw [hy173]; with_reducible exact H) | (have H2_ := (Option.bind_some _ _).symm.trans H; rw [hy173]; with_reducible exact H2_) | (have H2_ := (Option.bind_some _ _).symm.trans H; with_reducible exact H2_) | with_reducible exact H | (rw [hy173]; exact H) | exact H
      have Ny173 := Aside0.mk hy173; clear hy173; obtain rfl := Option.some.inj H; obtain ⟨Ao12, co12, eo12⟩ := Kd.R_slice HO_3.out; subst eo12
      try go_wp2
      replace HO_3 := Aside0.mk (Kd.R_drew HO_3.out); replace HB := Aside0.mk (below_drew1 HB.out); refine start_ (n := 15) (S := fun w' => w'.cell? p = some (.int .i64 a0_0) ∧ w'.cell? ⟨p.block, p.off + 1, none⟩ = some (.int .i64 a0_1) ∧ w'.cell? ⟨p.block, p.off + 2, none⟩ = some (.int .i64 a0_2) ∧ w'.cell? ⟨p.block, p.off + 3, none⟩ = some (.int .i64 a0_3) ∧ w'.cell? ⟨p.block, p.off + 4, none⟩ = some (.int .i64 a0_4) ∧ w'.cell? ⟨p.block, p.off + 5, none⟩ = some (.int .i64 a0_5) ∧ w'.cell? ⟨p.block, p.off + 6, none⟩ = some (.int .i64 a0_6) ∧ w'.cell? ⟨p.block, p.off + 7, none⟩ = some (.int .i64 a0_7) ∧ w'.cell? ⟨p.block, p.off + 8, none⟩ = some (.int .i64 a0_8) ∧ w'.cell? ⟨p.block, p.off + 9, none⟩ = some (.slice A0_9 l0_9.length c0_9)) (ds := []) #[Z',Z',Z',Z',Z',Z',Z',Z',Z',Z',Z',Z',Z',Z',Z'] (by kernel_rfl) rfl rfl ⟨((HB.out.cell (p := p) HLP.out).trans HXP_0.out), ((HB.out.cell (p := ⟨p.block, p.off + 1, none⟩) HLP.out).trans HXP_1.out), ((HB.out.cell (p := ⟨p.block, p.off + 2, none⟩) HLP.out).trans HXP_2.out), ((HB.out.cell (p := ⟨p.block, p.off + 3, none⟩) HLP.out).trans HXP_3.out), ((HB.out.cell (p := ⟨p.block, p.off + 4, none⟩) HLP.out).trans HXP_4.out), ((HB.out.cell (p := ⟨p.block, p.off + 5, none⟩) HLP.out).trans HXP_5.out), ((HB.out.cell (p := ⟨p.block, p.off + 6, none⟩) HLP.out).trans HXP_6.out), ((HB.out.cell (p := ⟨p.block, p.off + 7, none⟩) HLP.out).trans HXP_7.out), ((HB.out.cell (p := ⟨p.block, p.off + 8, none⟩) HLP.out).trans HXP_8.out), ((HB.out.cell (p := ⟨p.block, p.off + 9, none⟩) HLP.out).trans HXP_9.out)⟩ (fun hHeld => ?_); refine with_tabW spec_l7Encode.tab5 spec_l7Encode.bits5 (fun HT_ HW_ => ?_); generalize wc.drew = w13 at HO_3 HB hHeld ⊢; refine pure_ (i := 0) (N := some 17) (v := ?_) (a' := ?_) #[Y',Z',Z',Z',Z',Z',Z',Z',Z',Z',Z',Z',Z',Z',Z'] rfl rfl (any_of HT_.out (by kernel_rfl)) (fun _ _ _ h => h) (Or.inl ⟨by rfl, ?_⟩) ?_ ?_; rotate_left
      ·
       intro w'
       go_simp
       with_reducible rfl
      rotate_left
      ·
       simp only [Act.put, List.setIfInBounds_toArray, List.set_cons_zero, List.set_cons_succ, i64_w, i32_w]; rfl
      refine pure_ (i := 1) (N := some 18) (v := ?_) (a' := ?_) #[Y',Y',Z',Z',Z',Z',Z',Z',Z',Z',Z',Z',Z',Z',Z'] rfl rfl (any_of HT_.out (by kernel_rfl)) (fun _ _ _ h => h) (Or.inl ⟨by rfl, ?_⟩) ?_ ?_; rotate_left
      ·
       intro w'
       go_simp
       with_reducible rfl
      rotate_left
      ·
       simp only [Act.put, List.setIfInBounds_toArray, List.set_cons_zero, List.set_cons_succ, i64_w, i32_w]; rfl
      refine pure_ (i := 2) (N := some 19) (v := ?_) (a' := ?_) #[Y',Y',Y',Z',Z',Z',Z',Z',Z',Z',Z',Z',Z',Z',Z'] rfl rfl (any_of HT_.out (by kernel_rfl)) (fun _ _ _ h => h) (Or.inl ⟨by rfl, ?_⟩) ?_ ?_; rotate_left
      ·
       intro w'
       go_simp
       with_reducible rfl
      rotate_left
      ·
       simp only [Act.put, List.setIfInBounds_toArray, List.set_cons_zero, List.set_cons_succ, i64_w, i32_w]; rfl
      refine pure_ (i := 3) (N := some 20) (v := ?_) (a' := ?_) #[Y',Y',Y',Y',Z',Z',Z',Z',Z',Z',Z',Z',Z',Z',Z'] rfl rfl (any_of HT_.out (by kernel_rfl)) (fun _ _ _ h => h) (Or.inl ⟨by rfl, ?_⟩) ?_ ?_; rotate_left
      ·
       intro w'
       go_simp
       with_reducible rfl
      rotate_left
      ·
       simp only [Act.put, List.setIfInBounds_toArray, List.set_cons_zero, List.set_cons_succ, i64_w, i32_w]; rfl
      refine pure_ (i := 7) (N := some 24) (v := ?_) (a' := ?_) #[Y',Y',Y',Y',Z',Z',Z',Y',Z',Z',Z',Z',Z',Z',Z'] rfl rfl (any_of HT_.out (by kernel_rfl)) (fun _ _ _ h => h) (Or.inl ⟨by rfl, ?_⟩) ?_ ?_; rotate_left
      ·
       intro w'
       go_simp
       with_reducible rfl
      rotate_left
      ·
       simp only [Act.put, List.setIfInBounds_toArray, List.set_cons_zero, List.set_cons_succ, i64_w, i32_w]; rfl
      refine pure_ (i := 8) (N := some 25) (v := ?_) (a' := ?_) #[Y',Y',Y',Y',Z',Z',Z',Y',Y',Z',Z',Z',Z',Z',Z'] rfl rfl (any_of HT_.out (by kernel_rfl)) (fun _ _ _ h => h) (Or.inl ⟨by rfl, ?_⟩) ?_ ?_; rotate_left
      ·
       intro w'
       go_simp
       with_reducible rfl
      rotate_left
      ·
       simp only [Act.put, List.setIfInBounds_toArray, List.set_cons_zero, List.set_cons_succ, i64_w, i32_w]; rfl
      refine pure_ (i := 9) (N := some 26) (v := ?_) (a' := ?_) #[Y',Y',Y',Y',Z',Z',Z',Y',Y',Y',Z',Z',Z',Z',Z'] rfl rfl (any_of HT_.out (by kernel_rfl)) (fun _ _ _ h => h) (Or.inl ⟨by rfl, ?_⟩) ?_ ?_; rotate_left
      ·
       intro w'
       go_simp
       with_reducible rfl
      rotate_left
      ·
       simp only [Act.put, List.setIfInBounds_toArray, List.set_cons_zero, List.set_cons_succ, i64_w, i32_w]; rfl
      refine take_ (i := 4) (N := some 21) (v := ?_) (a' := ?_) #[Y',Y',Y',Y',Y',Z',Z',Y',Y',Y',Z',Z',Z',Z',Z'] rfl rfl (take_ofW HT_.out HW_.out (by kernel_rfl)) (fun _ _ _ h => h) (Or.inl ⟨by rfl, ?_⟩) hHeld ?_ ?_; rotate_left
      ·
       rintro w' ⟨s0, s1, s2, s3, s4, s5, s6, s7, s8, s9⟩
       go_simp
       with_reducible rfl
      rotate_left
      ·
       simp only [Act.put, List.setIfInBounds_toArray, List.set_cons_zero, List.set_cons_succ, i64_w, i32_w]; rfl
      refine take_ (i := 10) (N := some 27) (v := ?_) (a' := ?_) #[Y',Y',Y',Y',Y',Z',Z',Y',Y',Y',Y',Z',Z',Z',Z'] rfl rfl (take_ofW HT_.out HW_.out (by kernel_rfl)) (fun _ _ _ h => h) (Or.inl ⟨by rfl, ?_⟩) hHeld ?_ ?_; rotate_left
      ·
       rintro w' ⟨s0, s1, s2, s3, s4, s5, s6, s7, s8, s9⟩
       go_simp
       with_reducible rfl
      rotate_left
      ·
       simp only [Act.put, List.setIfInBounds_toArray, List.set_cons_zero, List.set_cons_succ, i64_w, i32_w]; rfl
      refine pure_ (i := 11) (N := some 28) (v := ?_) (a' := ?_) #[Y',Y',Y',Y',Y',Z',Z',Y',Y',Y',Y',Y',Z',Z',Z'] rfl rfl (any_of HT_.out (by kernel_rfl)) (fun _ _ _ h => h) (Or.inl ⟨by rfl, ?_⟩) ?_ ?_; rotate_left
      ·
       intro w'
       go_simp
       with_reducible rfl
      rotate_left
      ·
       simp only [Act.put, List.setIfInBounds_toArray, List.set_cons_zero, List.set_cons_succ, i64_w, i32_w]; rfl
      refine join_ (σ := Value × Value × Value) 2 #[Y',Y',Y',Y',Y',Y',Y',Y',Y',Y',Y',Y',Y',Z',Z'] (fun s_ => [(22, s_.1), (23, s_.2.1), (29, s_.2.2)]) (fun s_ w' => (w'.cell? p = some (.int .i64 a0_0) ∧ w'.cell? ⟨p.block, p.off + 1, none⟩ = some (.int .i64 a0_1) ∧ w'.cell? ⟨p.block, p.off + 2, none⟩ = some (.int .i64 a0_2) ∧ w'.cell? ⟨p.block, p.off + 3, none⟩ = some (.int .i64 a0_3) ∧ w'.cell? ⟨p.block, p.off + 4, none⟩ = some (.int .i64 a0_4) ∧ w'.cell? ⟨p.block, p.off + 5, none⟩ = some (.int .i64 a0_5) ∧ w'.cell? ⟨p.block, p.off + 6, none⟩ = some (.int .i64 a0_6) ∧ w'.cell? ⟨p.block, p.off + 7, none⟩ = some (.int .i64 a0_7) ∧ w'.cell? ⟨p.block, p.off + 8, none⟩ = some (.int .i64 a0_8) ∧ w'.cell? ⟨p.block, p.off + 9, none⟩ = some (.slice A0_9 l0_9.length c0_9)) ∧ (Kd.R (Kd.int .u8) 5 w' w.heap.size (fun k_ => some k_ ≠ (s_.2.1 : Value).ownBlock ∧ some k_ ≠ (s_.2.2 : Value).ownBlock) s_.1 t164) ∧ (Kd.R (Kd.int .u8) 5 w' w.heap.size (fun k_ => some k_ ≠ (s_.1 : Value).ownBlock ∧ some k_ ≠ (s_.2.2 : Value).ownBlock) s_.2.1 y167) ∧ (Kd.R (Kd.int .u8) 5 w' w.heap.size (fun k_ => some k_ ≠ (s_.1 : Value).ownBlock ∧ some k_ ≠ (s_.2.1 : Value).ownBlock) s_.2.2 y170) ∧ (Below w.heap.size w w')) ?_ ?_; rotate_left
      ·
       intro hCont; refine two_ (i := 5) (j := 12) (Ni := some 22) (Nj := some 29) #[Y',Y',Y',Y',Y',Y',Z',Y',Y',Y',Y',Y',Z',Z',Z'] #[Y',Y',Y',Y',Y',Z',Z',Y',Y',Y',Y',Y',Y',Z',Z'] rfl rfl rfl rfl (two_of HT_.out (by kernel_rfl)) (by decide) (by decide) (fun K hK => ?_) (fun K hK => ?_)
       ·
        refine goes_ Try.func65 (by kernel_rfl) rfl #[.int .i64 a0_1, .int .i64 4] (by rfl) rfl rfl args_a ?_
        with_reducible refine (spec_l1Pack.calls kj1 a0_1 4 t164 _ A9.out).mono ?_
        rintro e w14 ⟨v165, rfl, ho0, hb⟩; refine ⟨_, rfl, ?_⟩; have n0_ := Aside0.mk (Kd.R_elder' (R_a HO_3.out) (Kd.R_base ho0) hb); have HO166 := Aside0.mk (Kd.R_lower (Kd.R_new' ho0 (Kd.R_lt (R_a HO_3.out))) (below_size below_a)); replace HB := Aside0.mk (below_step below_a hb); replace HO_3 := n0_; clear n0_; (try clear hb); (try clear hb2); (try clear hk); (try clear hi); (try clear ho0); obtain ⟨Ao16, co16, eo16⟩ := Kd.R_slice HO166.out; (first | subst eo16 | (injection eo16 with f1_ f2_ f3_; have f4_ := f1_.symm; have f5_ := f3_.symm; clear f1_ f2_ f3_; subst f4_; subst f5_)); refine hK.out _ _ ⟨((HB.out.cell (p := p) HLP.out).trans HXP_0.out), ((HB.out.cell (p := ⟨p.block, p.off + 1, none⟩) HLP.out).trans HXP_1.out), ((HB.out.cell (p := ⟨p.block, p.off + 2, none⟩) HLP.out).trans HXP_2.out), ((HB.out.cell (p := ⟨p.block, p.off + 3, none⟩) HLP.out).trans HXP_3.out), ((HB.out.cell (p := ⟨p.block, p.off + 4, none⟩) HLP.out).trans HXP_4.out), ((HB.out.cell (p := ⟨p.block, p.off + 5, none⟩) HLP.out).trans HXP_5.out), ((HB.out.cell (p := ⟨p.block, p.off + 6, none⟩) HLP.out).trans HXP_6.out), ((HB.out.cell (p := ⟨p.block, p.off + 7, none⟩) HLP.out).trans HXP_7.out), ((HB.out.cell (p := ⟨p.block, p.off + 8, none⟩) HLP.out).trans HXP_8.out), ((HB.out.cell (p := ⟨p.block, p.off + 9, none⟩) HLP.out).trans HXP_9.out)⟩ (fun hHeld => ?_); clear hK K; refine norm_ (a' := ?_) ?_ ?_; rotate_left
        ·
         show Act.put _ (some 22) _ = _; simp only [Act.put, List.setIfInBounds_toArray, List.set_cons_zero, List.set_cons_succ, i64_w, i32_w]; rfl
        refine two_ (i := 6) (j := 12) (Ni := some 23) (Nj := some 29) #[Y',Y',Y',Y',Y',Y',Y',Y',Y',Y',Y',Y',Z',Z',Z'] #[Y',Y',Y',Y',Y',Y',Z',Y',Y',Y',Y',Y',Y',Z',Z'] rfl rfl rfl rfl (two_of HT_.out (by kernel_rfl)) (by decide) (by decide) (fun K hK => ?_) (fun K hK => ?_)
        ·
         refine Kd.R_append_rows_step (Kd.int .u8) (w0 := w) w.heap.size (by rfl) (.tmp 17) (.tmp 22) 30 5 (.int .u8 0) 1 rfl Try.underlying30 info5 rfl (by decide) (by omega) (.slice Ao12 y161.length co12) y161 t164 _ _ _ (fun k_ => some k_ ≠ (.slice Ao16 t164.length co16 : Value).ownBlock) (fun _ => False) rfl rfl ?aO ?aR (fun _ _ h => h) (fun _ h => h.elim) ?aF ?aB ?aS ?aL ?_; (case aR => repeat (first | exact (Kd.R_reads' HO166.out).2.2 | (with_reducible refine Kd.C_alloc ?_ _) | (with_reducible refine Kd.C_drewN ?_ _) | (with_reducible refine Kd.C_drew ?_))); (case aB => exact below_a); (case aF => exact (fun k_ hk => Kd.fresh' (Kd.R_lt (R_a HO166.out)) k_ hk)); (case aO => exact (by (with_reducible repeat (first | apply Kd.R_alloc | apply Kd.R_drewN | apply Kd.R_drew)); exact Kd.R_mono HO_3.out (fun _ hk => hk.2))); (case aS => exact (below_size below_a)); (case aL => have := LMc10.out; omega); intro v168 w15 ho hb hg hat; rw [← Ny167.out] at ho; replace HO166 := Aside0.mk (Kd.R_after (ok := (fun _ => True)) (R_a HO166.out) hg hat); replace HB := Aside0.mk (hb); have HO169 := Aside0.mk (ho); clear HO_3 ho hb hg hat; refine hK.out _ _ ⟨((HB.out.cell (p := p) HLP.out).trans HXP_0.out), ((HB.out.cell (p := ⟨p.block, p.off + 1, none⟩) HLP.out).trans HXP_1.out), ((HB.out.cell (p := ⟨p.block, p.off + 2, none⟩) HLP.out).trans HXP_2.out), ((HB.out.cell (p := ⟨p.block, p.off + 3, none⟩) HLP.out).trans HXP_3.out), ((HB.out.cell (p := ⟨p.block, p.off + 4, none⟩) HLP.out).trans HXP_4.out), ((HB.out.cell (p := ⟨p.block, p.off + 5, none⟩) HLP.out).trans HXP_5.out), ((HB.out.cell (p := ⟨p.block, p.off + 6, none⟩) HLP.out).trans HXP_6.out), ((HB.out.cell (p := ⟨p.block, p.off + 7, none⟩) HLP.out).trans HXP_7.out), ((HB.out.cell (p := ⟨p.block, p.off + 8, none⟩) HLP.out).trans HXP_8.out), ((HB.out.cell (p := ⟨p.block, p.off + 9, none⟩) HLP.out).trans HXP_9.out)⟩ (fun hHeld => ?_); clear hK K; refine norm_ (a' := ?_) ?_ ?_; rotate_left
         ·
          show Act.put _ (some 23) _ = _; simp only [Act.put, List.setIfInBounds_toArray, List.set_cons_zero, List.set_cons_succ, i64_w, i32_w]; rfl
         refine one_ (i := 12) (N := some 29) #[Y',Y',Y',Y',Y',Y',Y',Y',Y',Y',Y',Y',Y',Z',Z'] rfl rfl (one_of HT_.out (by kernel_rfl)) (by decide) (fun K hK => ?_); refine Kd.R_lit_step (Kd.int .u8) _ 5 ?hg (N := 29) ?hd (xs := ([(a0_2) % 256] : List Int)) (inner := [.int .u8 ((a0_2) % 256)]) (ok := fun _ => True) (okp := fun _ => True) ?hr ?hp (fun _ hk => hk) trivial (Below.refl _ _) (Nat.le_refl _) (by simp) ?_; (case hd => rfl); (case hg => rfl); (case hr => first | (go_simp; done) | (go_simp; rfl)); (case hp => exact (Reps.one (show Kd.M (Kd.int .u8) _ _ _ ((a0_2) % 256) [.int .u8 ((a0_2) % 256)] from rfl) (Reps.none _ _))); intro v171 w17 ho18 hb hg_ hnew_; clear hg_ hnew_; (first | rw [← Ny170.out] at ho18 | (simp only [Int.reduceToNat] at ho18; rw [← Ny170.out] at ho18)); have n0_ := Aside0.mk (Kd.R_elder' (R_a HO166.out) (Kd.R_base ho18) hb); have n1_ := Aside0.mk (Kd.R_elder' (R_a HO169.out) (Kd.R_base ho18) hb); have HO172 := Aside0.mk (Kd.R_lower (Kd.R_new' (Kd.R_new' ho18 (Kd.R_lt (R_a HO166.out))) (Kd.R_lt (R_a HO169.out))) (below_size below_a)); replace HB := Aside0.mk (below_step below_a hb); replace HO166 := n0_; replace HO169 := n1_; clear n0_ n1_ hb ho18; refine hK.out _ _ ⟨((HB.out.cell (p := p) HLP.out).trans HXP_0.out), ((HB.out.cell (p := ⟨p.block, p.off + 1, none⟩) HLP.out).trans HXP_1.out), ((HB.out.cell (p := ⟨p.block, p.off + 2, none⟩) HLP.out).trans HXP_2.out), ((HB.out.cell (p := ⟨p.block, p.off + 3, none⟩) HLP.out).trans HXP_3.out), ((HB.out.cell (p := ⟨p.block, p.off + 4, none⟩) HLP.out).trans HXP_4.out), ((HB.out.cell (p := ⟨p.block, p.off + 5, none⟩) HLP.out).trans HXP_5.out), ((HB.out.cell (p := ⟨p.block, p.off + 6, none⟩) HLP.out).trans HXP_6.out), ((HB.out.cell (p := ⟨p.block, p.off + 7, none⟩) HLP.out).trans HXP_7.out), ((HB.out.cell (p := ⟨p.block, p.off + 8, none⟩) HLP.out).trans HXP_8.out), ((HB.out.cell (p := ⟨p.block, p.off + 9, none⟩) HLP.out).trans HXP_9.out)⟩ (fun hHeld => ?_); clear hK K; refine norm_ (a' := ?_) ?_ ?_; rotate_left
         ·
          show Act.put _ (some 29) _ = _; simp only [Act.put, List.setIfInBounds_toArray, List.set_cons_zero, List.set_cons_succ, i64_w, i32_w]; rfl
         exact norm_ (by simp only [putAll, Act.put, List.setIfInBounds_toArray, List.set_cons_zero, List.set_cons_succ]) (hCont (.slice Ao16 t164.length co16, v168, v171) _ ⟨hHeld, (by (with_reducible repeat (first | apply Kd.R_alloc | apply Kd.R_drewN | apply Kd.R_drew)); exact Kd.R_mono HO166.out (fun _ hk => ⟨hk.1.2, hk.2⟩)), (R_a HO169.out), (by (with_reducible repeat (first | apply Kd.R_alloc | apply Kd.R_drewN | apply Kd.R_drew)); exact Kd.R_mono HO172.out (fun _ hk => ⟨hk.1.2, hk.2⟩)), below_a⟩)
        ·
         refine Kd.R_lit_step (Kd.int .u8) _ 5 ?hg (N := 29) ?hd (xs := ([(a0_2) % 256] : List Int)) (inner := [.int .u8 ((a0_2) % 256)]) (ok := fun _ => True) (okp := fun _ => True) ?hr ?hp (fun _ hk => hk) trivial (Below.refl _ _) (Nat.le_refl _) (by simp) ?_; (case hd => rfl); (case hg => rfl); (case hr => first | (go_simp; done) | (go_simp; rfl)); (case hp => exact (Reps.one (show Kd.M (Kd.int .u8) _ _ _ ((a0_2) % 256) [.int .u8 ((a0_2) % 256)] from rfl) (Reps.none _ _))); intro v171 w15 ho16 hb hg_ hnew_; clear hg_ hnew_; (first | rw [← Ny170.out] at ho16 | (simp only [Int.reduceToNat] at ho16; rw [← Ny170.out] at ho16)); have n0_ := Aside0.mk (Kd.R_elder' (R_a HO_3.out) (Kd.R_base ho16) hb); have n1_ := Aside0.mk (Kd.R_elder' (R_a HO166.out) (Kd.R_base ho16) hb); have HO172 := Aside0.mk (Kd.R_lower (Kd.R_new' (Kd.R_new' ho16 (Kd.R_lt (R_a HO_3.out))) (Kd.R_lt (R_a HO166.out))) (below_size below_a)); replace HB := Aside0.mk (below_step below_a hb); replace HO_3 := n0_; replace HO166 := n1_; clear n0_ n1_ hb ho16; obtain ⟨Ao18, co18, eo18⟩ := Kd.R_slice HO166.out; (first | subst eo18 | (injection eo18 with f1_ f2_ f3_; have f4_ := f1_.symm; have f5_ := f3_.symm; clear f1_ f2_ f3_; subst f4_; subst f5_)); refine hK.out _ _ ⟨((HB.out.cell (p := p) HLP.out).trans HXP_0.out), ((HB.out.cell (p := ⟨p.block, p.off + 1, none⟩) HLP.out).trans HXP_1.out), ((HB.out.cell (p := ⟨p.block, p.off + 2, none⟩) HLP.out).trans HXP_2.out), ((HB.out.cell (p := ⟨p.block, p.off + 3, none⟩) HLP.out).trans HXP_3.out), ((HB.out.cell (p := ⟨p.block, p.off + 4, none⟩) HLP.out).trans HXP_4.out), ((HB.out.cell (p := ⟨p.block, p.off + 5, none⟩) HLP.out).trans HXP_5.out), ((HB.out.cell (p := ⟨p.block, p.off + 6, none⟩) HLP.out).trans HXP_6.out), ((HB.out.cell (p := ⟨p.block, p.off + 7, none⟩) HLP.out).trans HXP_7.out), ((HB.out.cell (p := ⟨p.block, p.off + 8, none⟩) HLP.out).trans HXP_8.out), ((HB.out.cell (p := ⟨p.block, p.off + 9, none⟩) HLP.out).trans HXP_9.out)⟩ (fun hHeld => ?_); clear hK K; refine norm_ (a' := ?_) ?_ ?_; rotate_left
         ·
          show Act.put _ (some 29) _ = _; simp only [Act.put, List.setIfInBounds_toArray, List.set_cons_zero, List.set_cons_succ, i64_w, i32_w]; rfl
         refine one_ (i := 6) (N := some 23) #[Y',Y',Y',Y',Y',Y',Y',Y',Y',Y',Y',Y',Y',Z',Z'] rfl rfl (one_of HT_.out (by kernel_rfl)) (by decide) (fun K hK => ?_); refine Kd.R_append_rows_step (Kd.int .u8) (w0 := w) w.heap.size (by rfl) (.tmp 17) (.tmp 22) 30 5 (.int .u8 0) 1 rfl Try.underlying30 info5 rfl (by decide) (by omega) (.slice Ao12 y161.length co12) y161 t164 _ _ _ (fun k_ => some k_ ≠ (.slice Ao18 t164.length co18 : Value).ownBlock ∧ some k_ ≠ (v171 : Value).ownBlock) (fun _ => False) rfl rfl ?aO ?aR (fun _ _ h => h) (fun _ h => h.elim) ?aF ?aB ?aS ?aL ?_; (case aR => repeat (first | exact (Kd.R_reads' HO166.out).2.2 | (with_reducible refine Kd.C_alloc ?_ _) | (with_reducible refine Kd.C_drewN ?_ _) | (with_reducible refine Kd.C_drew ?_))); (case aB => exact below_a); (case aF => exact (fun k_ hk => ⟨Kd.fresh' (Kd.R_lt (R_a HO166.out)) k_ hk, Kd.fresh' (Kd.R_lt (R_a HO172.out)) k_ hk⟩)); (case aO => exact (by (with_reducible repeat (first | apply Kd.R_alloc | apply Kd.R_drewN | apply Kd.R_drew)); exact Kd.R_mono HO_3.out (fun _ hk => ⟨hk.1.2, hk.2⟩))); (case aS => exact (below_size below_a)); (case aL => have := LMc10.out; omega); intro v168 w17 ho hb hg hat; rw [← Ny167.out] at ho; replace HO166 := Aside0.mk (Kd.R_after (ok := (fun k_ => some k_ ≠ (v171 : Value).ownBlock)) (by (with_reducible repeat (first | apply Kd.R_alloc | apply Kd.R_drewN | apply Kd.R_drew)); exact Kd.R_mono HO166.out (fun _ hk => ⟨hk.2, hk.1.2⟩)) hg hat); replace HO172 := Aside0.mk (Kd.R_after (ok := (fun k_ => some k_ ≠ (.slice Ao18 t164.length co18 : Value).ownBlock)) (by (with_reducible repeat (first | apply Kd.R_alloc | apply Kd.R_drewN | apply Kd.R_drew)); exact Kd.R_mono HO172.out (fun _ hk => ⟨hk.2, hk.1.2⟩)) hg hat); replace HB := Aside0.mk (hb); have HO169 := Aside0.mk (ho); clear HO_3 ho hb hg hat; refine hK.out _ _ ⟨((HB.out.cell (p := p) HLP.out).trans HXP_0.out), ((HB.out.cell (p := ⟨p.block, p.off + 1, none⟩) HLP.out).trans HXP_1.out), ((HB.out.cell (p := ⟨p.block, p.off + 2, none⟩) HLP.out).trans HXP_2.out), ((HB.out.cell (p := ⟨p.block, p.off + 3, none⟩) HLP.out).trans HXP_3.out), ((HB.out.cell (p := ⟨p.block, p.off + 4, none⟩) HLP.out).trans HXP_4.out), ((HB.out.cell (p := ⟨p.block, p.off + 5, none⟩) HLP.out).trans HXP_5.out), ((HB.out.cell (p := ⟨p.block, p.off + 6, none⟩) HLP.out).trans HXP_6.out), ((HB.out.cell (p := ⟨p.block, p.off + 7, none⟩) HLP.out).trans HXP_7.out), ((HB.out.cell (p := ⟨p.block, p.off + 8, none⟩) HLP.out).trans HXP_8.out), ((HB.out.cell (p := ⟨p.block, p.off + 9, none⟩) HLP.out).trans HXP_9.out)⟩ (fun hHeld => ?_); clear hK K; refine norm_ (a' := ?_) ?_ ?_; rotate_left
         ·
          show Act.put _ (some 23) _ = _; simp only [Act.put, List.setIfInBounds_toArray, List.set_cons_zero, List.set_cons_succ, i64_w, i32_w]; rfl
         exact norm_ (by simp only [putAll, Act.put, List.setIfInBounds_toArray, List.set_cons_zero, List.set_cons_succ]) (hCont (.slice Ao18 t164.length co18, v168, v171) _ ⟨hHeld, (by (with_reducible repeat (first | apply Kd.R_alloc | apply Kd.R_drewN | apply Kd.R_drew)); exact Kd.R_mono HO166.out (fun _ hk => ⟨hk.2, hk.1⟩)), (R_a HO169.out), (R_a HO172.out), below_a⟩)
       ·
        refine Kd.R_lit_step (Kd.int .u8) _ 5 ?hg (N := 29) ?hd (xs := ([(a0_2) % 256] : List Int)) (inner := [.int .u8 ((a0_2) % 256)]) (ok := fun _ => True) (okp := fun _ => True) ?hr ?hp (fun _ hk => hk) trivial (Below.refl _ _) (Nat.le_refl _) (by simp) ?_; (case hd => rfl); (case hg => rfl); (case hr => first | (go_simp; done) | (go_simp; rfl)); (case hp => exact (Reps.one (show Kd.M (Kd.int .u8) _ _ _ ((a0_2) % 256) [.int .u8 ((a0_2) % 256)] from rfl) (Reps.none _ _))); intro v171 w14 ho15 hb hg_ hnew_; clear hg_ hnew_; (first | rw [← Ny170.out] at ho15 | (simp only [Int.reduceToNat] at ho15; rw [← Ny170.out] at ho15)); have n0_ := Aside0.mk (Kd.R_elder' (R_a HO_3.out) (Kd.R_base ho15) hb); have HO172 := Aside0.mk (Kd.R_lower (Kd.R_new' ho15 (Kd.R_lt (R_a HO_3.out))) (below_size below_a)); replace HB := Aside0.mk (below_step below_a hb); replace HO_3 := n0_; clear n0_ hb ho15; refine hK.out _ _ ⟨((HB.out.cell (p := p) HLP.out).trans HXP_0.out), ((HB.out.cell (p := ⟨p.block, p.off + 1, none⟩) HLP.out).trans HXP_1.out), ((HB.out.cell (p := ⟨p.block, p.off + 2, none⟩) HLP.out).trans HXP_2.out), ((HB.out.cell (p := ⟨p.block, p.off + 3, none⟩) HLP.out).trans HXP_3.out), ((HB.out.cell (p := ⟨p.block, p.off + 4, none⟩) HLP.out).trans HXP_4.out), ((HB.out.cell (p := ⟨p.block, p.off + 5, none⟩) HLP.out).trans HXP_5.out), ((HB.out.cell (p := ⟨p.block, p.off + 6, none⟩) HLP.out).trans HXP_6.out), ((HB.out.cell (p := ⟨p.block, p.off + 7, none⟩) HLP.out).trans HXP_7.out), ((HB.out.cell (p := ⟨p.block, p.off + 8, none⟩) HLP.out).trans HXP_8.out), ((HB.out.cell (p := ⟨p.block, p.off + 9, none⟩) HLP.out).trans HXP_9.out)⟩ (fun hHeld => ?_); clear hK K; refine norm_ (a' := ?_) ?_ ?_; rotate_left
        ·
         show Act.put _ (some 29) _ = _; simp only [Act.put, List.setIfInBounds_toArray, List.set_cons_zero, List.set_cons_succ, i64_w, i32_w]; rfl
        refine one_ (i := 5) (N := some 22) #[Y',Y',Y',Y',Y',Y',Z',Y',Y',Y',Y',Y',Y',Z',Z'] rfl rfl (one_of HT_.out (by kernel_rfl)) (by decide) (fun K hK => ?_); refine goes_ Try.func65 (by kernel_rfl) rfl #[.int .i64 a0_1, .int .i64 4] (by rfl) rfl rfl args_a ?_
        with_reducible refine (spec_l1Pack.calls kj1 a0_1 4 t164 _ A9.out).mono ?_
        rintro e w16 ⟨v165, rfl, ho0, hb⟩; refine ⟨_, rfl, ?_⟩; have n0_ := Aside0.mk (Kd.R_elder' (R_a HO_3.out) (Kd.R_base ho0) hb); have n1_ := Aside0.mk (Kd.R_elder' (R_a HO172.out) (Kd.R_base ho0) hb); have HO166 := Aside0.mk (Kd.R_lower (Kd.R_new' (Kd.R_new' ho0 (Kd.R_lt (R_a HO_3.out))) (Kd.R_lt (R_a HO172.out))) (below_size below_a)); replace HB := Aside0.mk (below_step below_a hb); replace HO_3 := n0_; replace HO172 := n1_; clear n0_ n1_; (try clear hb); (try clear hb2); (try clear hk); (try clear hi); (try clear ho0); obtain ⟨Ao18, co18, eo18⟩ := Kd.R_slice HO166.out; (first | subst eo18 | (injection eo18 with f1_ f2_ f3_; have f4_ := f1_.symm; have f5_ := f3_.symm; clear f1_ f2_ f3_; subst f4_; subst f5_)); refine hK.out _ _ ⟨((HB.out.cell (p := p) HLP.out).trans HXP_0.out), ((HB.out.cell (p := ⟨p.block, p.off + 1, none⟩) HLP.out).trans HXP_1.out), ((HB.out.cell (p := ⟨p.block, p.off + 2, none⟩) HLP.out).trans HXP_2.out), ((HB.out.cell (p := ⟨p.block, p.off + 3, none⟩) HLP.out).trans HXP_3.out), ((HB.out.cell (p := ⟨p.block, p.off + 4, none⟩) HLP.out).trans HXP_4.out), ((HB.out.cell (p := ⟨p.block, p.off + 5, none⟩) HLP.out).trans HXP_5.out), ((HB.out.cell (p := ⟨p.block, p.off + 6, none⟩) HLP.out).trans HXP_6.out), ((HB.out.cell (p := ⟨p.block, p.off + 7, none⟩) HLP.out).trans HXP_7.out), ((HB.out.cell (p := ⟨p.block, p.off + 8, none⟩) HLP.out).trans HXP_8.out), ((HB.out.cell (p := ⟨p.block, p.off + 9, none⟩) HLP.out).trans HXP_9.out)⟩ (fun hHeld => ?_); clear hK K; refine norm_ (a' := ?_) ?_ ?_; rotate_left
        ·
         show Act.put _ (some 22) _ = _; simp only [Act.put, List.setIfInBounds_toArray, List.set_cons_zero, List.set_cons_succ, i64_w, i32_w]; rfl
        refine one_ (i := 6) (N := some 23) #[Y',Y',Y',Y',Y',Y',Y',Y',Y',Y',Y',Y',Y',Z',Z'] rfl rfl (one_of HT_.out (by kernel_rfl)) (by decide) (fun K hK => ?_); refine Kd.R_append_rows_step (Kd.int .u8) (w0 := w) w.heap.size (by rfl) (.tmp 17) (.tmp 22) 30 5 (.int .u8 0) 1 rfl Try.underlying30 info5 rfl (by decide) (by omega) (.slice Ao12 y161.length co12) y161 t164 _ _ _ (fun k_ => some k_ ≠ (v171 : Value).ownBlock ∧ some k_ ≠ (.slice Ao18 t164.length co18 : Value).ownBlock) (fun _ => False) rfl rfl ?aO ?aR (fun _ _ h => h) (fun _ h => h.elim) ?aF ?aB ?aS ?aL ?_; (case aR => repeat (first | exact (Kd.R_reads' HO166.out).2.2 | (with_reducible refine Kd.C_alloc ?_ _) | (with_reducible refine Kd.C_drewN ?_ _) | (with_reducible refine Kd.C_drew ?_))); (case aB => exact below_a); (case aF => exact (fun k_ hk => ⟨Kd.fresh' (Kd.R_lt (R_a HO172.out)) k_ hk, Kd.fresh' (Kd.R_lt (R_a HO166.out)) k_ hk⟩)); (case aO => exact (by (with_reducible repeat (first | apply Kd.R_alloc | apply Kd.R_drewN | apply Kd.R_drew)); exact Kd.R_mono HO_3.out (fun _ hk => ⟨hk.1.2, hk.2⟩))); (case aS => exact (below_size below_a)); (case aL => have := LMc10.out; omega); intro v168 w17 ho hb hg hat; rw [← Ny167.out] at ho; replace HO172 := Aside0.mk (Kd.R_after (ok := (fun k_ => some k_ ≠ (.slice Ao18 t164.length co18 : Value).ownBlock)) (by (with_reducible repeat (first | apply Kd.R_alloc | apply Kd.R_drewN | apply Kd.R_drew)); exact Kd.R_mono HO172.out (fun _ hk => ⟨hk.2, hk.1.2⟩)) hg hat); replace HO166 := Aside0.mk (Kd.R_after (ok := (fun k_ => some k_ ≠ (v171 : Value).ownBlock)) (by (with_reducible repeat (first | apply Kd.R_alloc | apply Kd.R_drewN | apply Kd.R_drew)); exact Kd.R_mono HO166.out (fun _ hk => ⟨hk.2, hk.1.2⟩)) hg hat); replace HB := Aside0.mk (hb); have HO169 := Aside0.mk (ho); clear HO_3 ho hb hg hat; refine hK.out _ _ ⟨((HB.out.cell (p := p) HLP.out).trans HXP_0.out), ((HB.out.cell (p := ⟨p.block, p.off + 1, none⟩) HLP.out).trans HXP_1.out), ((HB.out.cell (p := ⟨p.block, p.off + 2, none⟩) HLP.out).trans HXP_2.out), ((HB.out.cell (p := ⟨p.block, p.off + 3, none⟩) HLP.out).trans HXP_3.out), ((HB.out.cell (p := ⟨p.block, p.off + 4, none⟩) HLP.out).trans HXP_4.out), ((HB.out.cell (p := ⟨p.block, p.off + 5, none⟩) HLP.out).trans HXP_5.out), ((HB.out.cell (p := ⟨p.block, p.off + 6, none⟩) HLP.out).trans HXP_6.out), ((HB.out.cell (p := ⟨p.block, p.off + 7, none⟩) HLP.out).trans HXP_7.out), ((HB.out.cell (p := ⟨p.block, p.off + 8, none⟩) HLP.out).trans HXP_8.out), ((HB.out.cell (p := ⟨p.block, p.off + 9, none⟩) HLP.out).trans HXP_9.out)⟩ (fun hHeld => ?_); clear hK K; refine norm_ (a' := ?_) ?_ ?_; rotate_left
        ·
         show Act.put _ (some 23) _ = _; simp only [Act.put, List.setIfInBounds_toArray, List.set_cons_zero, List.set_cons_succ, i64_w, i32_w]; rfl
        exact norm_ (by simp only [putAll, Act.put, List.setIfInBounds_toArray, List.set_cons_zero, List.set_cons_succ]) (hCont (.slice Ao18 t164.length co18, v168, v171) _ ⟨hHeld, (by (with_reducible repeat (first | apply Kd.R_alloc | apply Kd.R_drewN | apply Kd.R_drew)); exact Kd.R_mono HO166.out (fun _ hk => ⟨hk.2, hk.1⟩)), (by (with_reducible repeat (first | apply Kd.R_alloc | apply Kd.R_drewN | apply Kd.R_drew)); exact Kd.R_mono HO169.out (fun _ hk => ⟨hk.2, hk.1⟩)), (R_a HO172.out), below_a⟩)
      rintro ⟨v165, v168, v171⟩ w19 ⟨hS_, h0_, h1_, h2_, h3_⟩
      try dsimp only at hS_ h0_ h1_ h2_ h3_
      clear HO_3 HB; have HO166 := Aside0.mk h0_; have HO169 := Aside0.mk h1_; have HO172 := Aside0.mk h2_; have HB := Aside0.mk h3_; clear h0_ h1_ h2_ h3_; have hHeld : w19.cell? p = some (.int .i64 a0_0) ∧ w19.cell? ⟨p.block, p.off + 1, none⟩ = some (.int .i64 a0_1) ∧ w19.cell? ⟨p.block, p.off + 2, none⟩ = some (.int .i64 a0_2) ∧ w19.cell? ⟨p.block, p.off + 3, none⟩ = some (.int .i64 a0_3) ∧ w19.cell? ⟨p.block, p.off + 4, none⟩ = some (.int .i64 a0_4) ∧ w19.cell? ⟨p.block, p.off + 5, none⟩ = some (.int .i64 a0_5) ∧ w19.cell? ⟨p.block, p.off + 6, none⟩ = some (.int .i64 a0_6) ∧ w19.cell? ⟨p.block, p.off + 7, none⟩ = some (.int .i64 a0_7) ∧ w19.cell? ⟨p.block, p.off + 8, none⟩ = some (.int .i64 a0_8) ∧ w19.cell? ⟨p.block, p.off + 9, none⟩ = some (.slice A0_9 l0_9.length c0_9) := hS_; obtain ⟨Ao21, co21, eo21⟩ := Kd.R_slice HO172.out; (first | subst eo21 | (injection eo21 with f1_ f2_ f3_; have f4_ := f1_.symm; have f5_ := f3_.symm; clear f1_ f2_ f3_; subst f4_; subst f5_)); refine norm_ (a' := ?_) ?_ ?_; rotate_left
      ·
       simp only [putAll, Act.put, List.setIfInBounds_toArray, List.set_cons_zero, List.set_cons_succ]; rfl
      refine one_ (i := 13) (N := some 30) #[Y',Y',Y',Y',Y',Y',Y',Y',Y',Y',Y',Y',Y',Y',Z'] rfl rfl (one_of HT_.out (by kernel_rfl)) (by decide) (fun K hK => ?_); refine Kd.R_append_rows_step (Kd.int .u8) (w0 := w) w.heap.size (by rfl) (.tmp 23) (.tmp 29) 30 5 (.int .u8 0) 1 rfl Try.underlying30 info5 rfl (by decide) (by omega) v168 y167 y170 _ _ _ (fun k_ => some k_ ≠ (v165 : Value).ownBlock ∧ some k_ ≠ (.slice Ao21 y170.length co21 : Value).ownBlock) (fun _ => False) rfl rfl ?aO ?aR (fun _ _ h => h) (fun _ h => h.elim) ?aF ?aB ?aS ?aL ?_; (case aR => repeat (first | exact (Kd.R_reads' HO172.out).2.2 | (with_reducible refine Kd.C_alloc ?_ _) | (with_reducible refine Kd.C_drewN ?_ _) | (with_reducible refine Kd.C_drew ?_))); (case aB => exact below_a); (case aF => exact (fun k_ hk => ⟨Kd.fresh' (Kd.R_lt (R_a HO166.out)) k_ hk, Kd.fresh' (Kd.R_lt (R_a HO172.out)) k_ hk⟩)); (case aO => exact (R_a HO169.out)); (case aS => exact (below_size below_a)); (case aL => have := LMc11.out; omega); intro v174 w20 ho hb hg hat; rw [← Ny173.out] at ho; replace HO166 := Aside0.mk (Kd.R_after (ok := (fun k_ => some k_ ≠ (.slice Ao21 y170.length co21 : Value).ownBlock)) (by (with_reducible repeat (first | apply Kd.R_alloc | apply Kd.R_drewN | apply Kd.R_drew)); exact Kd.R_mono HO166.out (fun _ hk => ⟨hk.2, hk.1⟩)) hg hat); replace HO172 := Aside0.mk (Kd.R_after (ok := (fun k_ => some k_ ≠ (v165 : Value).ownBlock)) (R_a HO172.out) hg hat); replace HB := Aside0.mk (hb); have HO175 := Aside0.mk (ho); clear HO169 ho hb hg hat; refine hK.out _ _ ⟨((HB.out.cell (p := p) HLP.out).trans HXP_0.out), ((HB.out.cell (p := ⟨p.block, p.off + 1, none⟩) HLP.out).trans HXP_1.out), ((HB.out.cell (p := ⟨p.block, p.off + 2, none⟩) HLP.out).trans HXP_2.out), ((HB.out.cell (p := ⟨p.block, p.off + 3, none⟩) HLP.out).trans HXP_3.out), ((HB.out.cell (p := ⟨p.block, p.off + 4, none⟩) HLP.out).trans HXP_4.out), ((HB.out.cell (p := ⟨p.block, p.off + 5, none⟩) HLP.out).trans HXP_5.out), ((HB.out.cell (p := ⟨p.block, p.off + 6, none⟩) HLP.out).trans HXP_6.out), ((HB.out.cell (p := ⟨p.block, p.off + 7, none⟩) HLP.out).trans HXP_7.out), ((HB.out.cell (p := ⟨p.block, p.off + 8, none⟩) HLP.out).trans HXP_8.out), ((HB.out.cell (p := ⟨p.block, p.off + 9, none⟩) HLP.out).trans HXP_9.out)⟩ (fun hHeld => ?_); clear hK K; refine norm_ (a' := ?_) ?_ ?_; rotate_left
      ·
       show Act.put _ (some 30) _ = _; simp only [Act.put, List.setIfInBounds_toArray, List.set_cons_zero, List.set_cons_succ, i64_w, i32_w]; rfl
      refine pure_ (i := 14) (N := some 2) (v := ?_) (a' := ?_) #[Y',Y',Y',Y',Y',Y',Y',Y',Y',Y',Y',Y',Y',Y',Y'] rfl rfl (any_of HT_.out (by kernel_rfl)) (fun _ _ _ h => h) (Or.inl ⟨by rfl, ?_⟩) ?_ ?_; rotate_left
      ·
       intro w'
       go_simp
       with_reducible rfl
      rotate_left
      ·
       simp only [Act.put, List.setIfInBounds_toArray, List.set_cons_zero, List.set_cons_succ, i64_w, i32_w]; rfl
      refine done_ (done_of HT_.out (by kernel_rfl)) ?_
      try go_wp2
      go_ret
      exact ⟨_, eq_a, by (with_reducible repeat (first | apply Kd.R_alloc | apply Kd.R_drewN | apply Kd.R_drew)); exact Kd.R_mono HO175.out (fun _ hk => trivial), below_a⟩
     ·
      rw [if_neg c11] at H; exact absurd H (by simp)
    ·
     rw [if_neg c10] at H; exact absurd H (by simp)
   ·
    replace c8 := Bool.eq_false_iff.mpr c8; subst c8; have H1 : (if a0_0 = 2 then ((spec_l1Pack.f kj1 a0_1 4).bind fun t176 => (if y161.length + t176.length < 140737488355328 then (some (y161 ++ t176)) else (none))) else (if a0_0 = 4 then ((some (([(a0_3) % 256] : List Int) : List Int)).bind fun y182 => (if y161.length + y182.length < 140737488355328 then ((some (y161 ++ y182 : List Int)).bind fun y185 => ((spec_l1Pack.f kj1 a0_4 4).bind fun t188 => (if y185.length + t188.length < 140737488355328 then ((some (y185 ++ t188 : List Int)).bind fun y191 => ((some (([(a0_5) % 256] : List Int) : List Int)).bind fun y194 => (if y191.length + y194.length < 140737488355328 then ((some (y191 ++ y194 : List Int)).bind fun y197 => ((spec_l1Pack.f kj1 a0_6 4).bind fun t200 => (if y197.length + t200.length < 140737488355328 then (some (y197 ++ t200)) else (none)))) else (none)))) else (none)))) else (none))) else ((some (([(a0_7) % 256, (a0_8) % 256] : List Int) : List Int)).bind fun y206 => (if y161.length + y206.length < 140737488355328 then ((some (y161 ++ y206 : List Int)).bind fun y209 => (if y209.length + l0_9.length < 140737488355328 then (some (y209 ++ l0_9)) else (none))) else (none))))) = some r := by rw [if_neg (show ¬ (false = true) by decide)] at H; exact H
    clear H; have H := H1; clear H1
    by_cases c22 : a0_0 = 2
    ·
     rw [if_pos c22] at H; have c22b0 : (a0_0 == 2) = true := beq_iff_eq.mpr c22; have c22b1 : (a0_0 != 2) = false := bne_eq_false_iff_eq.mpr c22; clear c22; replace H := Option.bind_eq_some_iff.mp H; obtain ⟨t176, A230, H⟩ := H; replace H : (if y161.length + t176.length < 140737488355328 then (some (y161 ++ t176)) else (none)) = some r := H; have A23 := Aside0.mk A230; clear A230
     by_cases c24 : y161.length + t176.length < 140737488355328
     ·
      rw [if_pos c24] at H; have LMc24 := Aside0.mk c24; clear c24; obtain ⟨y179, hy179⟩ : ∃ y_ : List Int, y_ = (y161 ++ t176) := ⟨_, rfl⟩; replace H : (some y179) = some r := by first | (rw [hy179]; with_reducible exact H) | (have H2_ := (Option.bind_some _ _).symm.trans H; rw [hy179]; with_reducible exact H2_) | (have H2_ := (Option.bind_some _ _).symm.trans H; with_reducible exact H2_) | with_reducible exact H | (rw [hy179]; exact H) | exact H
      have Ny179 := Aside0.mk hy179; clear hy179; obtain rfl := Option.some.inj H; have hcz25_0 : wc.cell? p = some (.int .i64 a0_0) := (HB.out.cell (p := p) HLP.out).trans HXP_0.out; have hcz25_1 : wc.cell? ⟨p.block, p.off + 1, none⟩ = some (.int .i64 a0_1) := (HB.out.cell (p := ⟨p.block, p.off + 1, none⟩) HLP.out).trans HXP_1.out; have hcz25_2 : wc.cell? ⟨p.block, p.off + 2, none⟩ = some (.int .i64 a0_2) := (HB.out.cell (p := ⟨p.block, p.off + 2, none⟩) HLP.out).trans HXP_2.out; have hcz25_3 : wc.cell? ⟨p.block, p.off + 3, none⟩ = some (.int .i64 a0_3) := (HB.out.cell (p := ⟨p.block, p.off + 3, none⟩) HLP.out).trans HXP_3.out; have hcz25_4 : wc.cell? ⟨p.block, p.off + 4, none⟩ = some (.int .i64 a0_4) := (HB.out.cell (p := ⟨p.block, p.off + 4, none⟩) HLP.out).trans HXP_4.out; have hcz25_5 : wc.cell? ⟨p.block, p.off + 5, none⟩ = some (.int .i64 a0_5) := (HB.out.cell (p := ⟨p.block, p.off + 5, none⟩) HLP.out).trans HXP_5.out; have hcz25_6 : wc.cell? ⟨p.block, p.off + 6, none⟩ = some (.int .i64 a0_6) := (HB.out.cell (p := ⟨p.block, p.off + 6, none⟩) HLP.out).trans HXP_6.out; have hcz25_7 : wc.cell? ⟨p.block, p.off + 7, none⟩ = some (.int .i64 a0_7) := (HB.out.cell (p := ⟨p.block, p.off + 7, none⟩) HLP.out).trans HXP_7.out; have hcz25_8 : wc.cell? ⟨p.block, p.off + 8, none⟩ = some (.int .i64 a0_8) := (HB.out.cell (p := ⟨p.block, p.off + 8, none⟩) HLP.out).trans HXP_8.out; have hcz25_9 : wc.cell? ⟨p.block, p.off + 9, none⟩ = some (.slice A0_9 l0_9.length c0_9) := (HB.out.cell (p := ⟨p.block, p.off + 9, none⟩) HLP.out).trans HXP_9.out
      go_wp2_with (first | ((with_reducible refine gate_callee (f := 65) rfl ?_); refine goesL_ (some 38) rfl rfl Try.func65 (by kernel_rfl) rfl #[.int .i64 a0_1, .int .i64 4] rfl args_a ?_; (with_reducible refine (spec_l1Pack.calls kj1 a0_1 4 t176 _ A23.out).mono ?_); rintro e w26 ⟨v177, rfl, ho0, hb⟩; refine ⟨_, rfl, ?_⟩; have n0_ := Aside0.mk (Kd.R_elder' (R_a HO_3.out) (Kd.R_base ho0) hb); have HO178 := Aside0.mk (Kd.R_lower (Kd.R_new' ho0 (Kd.R_lt (R_a HO_3.out))) (below_size below_a)); replace HB := Aside0.mk (below_step below_a hb); replace HO_3 := n0_; clear n0_; (try clear hb); (try clear hb2); (try clear hk); (try clear hi); (try clear ho0); obtain ⟨Ao28, co28, eo28⟩ := Kd.R_slice HO178.out; subst eo28) | ((with_reducible refine gate_builtin (b := .append) (xs := #[.tmp 33, .tmp 38]) rfl ?_); at_builtin; refine Kd.R_append_rows (Kd.int .u8) (w0 := w) w.heap.size rfl (.tmp 33) (.tmp 38) 30 5 (.int .u8 0) 1 rfl Try.underlying30 info5 rfl (by decide) (by omega) v162 y161 t176 _ _ _ (fun k_ => some k_ ≠ (.slice Ao28 t176.length co28 : Value).ownBlock) (fun _ => False) rfl rfl ?aO ?aR (fun _ _ h => h) (fun _ h => h.elim) ?aF ?aB ?aS ?aL ?_; (case aR => repeat (first | exact (Kd.R_reads' HO178.out).2.2 | (with_reducible refine Kd.C_alloc ?_ _) | (with_reducible refine Kd.C_drewN ?_ _) | (with_reducible refine Kd.C_drew ?_))); (case aB => exact below_a); (case aF => exact (fun k_ hk => Kd.fresh' (Kd.R_lt (R_a HO178.out)) k_ hk)); (case aO => exact (by (with_reducible repeat (first | apply Kd.R_alloc | apply Kd.R_drewN | apply Kd.R_drew)); exact Kd.R_mono HO_3.out (fun _ hk => hk.2))); (case aS => exact (below_size below_a)); (case aL => have := LMc24.out; omega); intro v180 w27 ho hb hg hat; rw [← Ny179.out] at ho; replace HO178 := Aside0.mk (Kd.R_after (ok := (fun _ => True)) (R_a HO178.out) hg hat); replace HB := Aside0.mk (hb); have HO181 := Aside0.mk (ho); clear HO_3; clear ho hb hg hat))
      go_ret
      exact ⟨_, eq_a, by (with_reducible repeat (first | apply Kd.R_alloc | apply Kd.R_drewN | apply Kd.R_drew)); exact Kd.R_mono HO181.out (fun _ hk => trivial), below_a⟩
     ·
      rw [if_neg c24] at H; exact absurd H (by simp)
    ·
     rw [if_neg c22] at H; have c22b0 : (a0_0 == 2) = false := beq_eq_false_iff_ne.mpr c22; have c22b1 : (a0_0 != 2) = true := bne_iff_ne.mpr c22
     by_cases c29 : a0_0 = 4
     ·
      rw [if_pos c29] at H; have c29b0 : (a0_0 == 4) = true := beq_iff_eq.mpr c29; have c29b1 : (a0_0 != 4) = false := bne_eq_false_iff_eq.mpr c29; clear c29; obtain ⟨y182, hy182⟩ : ∃ y_ : List Int, y_ = (([(a0_3) % 256] : List Int)) := ⟨_, rfl⟩; replace H : (if y161.length + y182.length < 140737488355328 then ((some (y161 ++ y182 : List Int)).bind fun y185 => ((spec_l1Pack.f kj1 a0_4 4).bind fun t188 => (if y185.length + t188.length < 140737488355328 then ((some (y185 ++ t188 : List Int)).bind fun y191 => ((some (([(a0_5) % 256] : List Int) : List Int)).bind fun y194 => (if y191.length + y194.length < 140737488355328 then ((some (y191 ++ y194 : List Int)).bind fun y197 => ((spec_l1Pack.f kj1 a0_6 4).bind fun t200 => (if y197.length + t200.length < 140737488355328 then (some (y197 ++ t200)) else (none)))) else (none)))) else (none)))) else (none)) = some r := by first | (rw [hy182]; with_reducible exact H) | (have H2_ := (Option.bind_some _ _).symm.trans H; rw [hy182]; with_reducible exact H2_) | (have H2_ := (Option.bind_some _ _).symm.trans H; with_reducible exact H2_) | with_reducible exact H | (rw [hy182]; exact H) | exact H
      have Ny182 := Aside0.mk hy182; clear hy182
      by_cases c30 : y161.length + y182.length < 140737488355328
      ·
       rw [if_pos c30] at H; have LMc30 := Aside0.mk c30; clear c30; obtain ⟨y185, hy185⟩ : ∃ y_ : List Int, y_ = (y161 ++ y182) := ⟨_, rfl⟩; replace H : ((spec_l1Pack.f kj1 a0_4 4).bind fun t188 => (if y185.length + t188.length < 140737488355328 then ((some (y185 ++ t188 : List Int)).bind fun y191 => ((some (([(a0_5) % 256] : List Int) : List Int)).bind fun y194 => (if y191.length + y194.length < 140737488355328 then ((some (y191 ++ y194 : List Int)).bind fun y197 => ((spec_l1Pack.f kj1 a0_6 4).bind fun t200 => (if y197.length + t200.length < 140737488355328 then (some (y197 ++ t200)) else (none)))) else (none)))) else (none))) = some r := by first | (rw [hy185]; with_reducible exact H) | (have H2_ := (Option.bind_some _ _).symm.trans H; rw [hy185]; with_reducible exact H2_) | (have H2_ := (Option.bind_some _ _).symm.trans H; with_reducible exact H2_) | with_reducible exact H | (rw [hy185]; exact H) | exact H
       have Ny185 := Aside0.mk hy185; clear hy185; replace H := Option.bind_eq_some_iff.mp H; obtain ⟨t188, A310, H⟩ := H; replace H : (if y185.length + t188.length < 140737488355328 then ((some (y185 ++ t188 : List Int)).bind fun y191 => ((some (([(a0_5) % 256] : List Int) : List Int)).bind fun y194 => (if y191.length + y194.length < 140737488355328 then ((some (y191 ++ y194 : List Int)).bind fun y197 => ((spec_l1Pack.f kj1 a0_6 4).bind fun t200 => (if y197.length + t200.length < 140737488355328 then (some (y197 ++ t200)) else (none)))) else (none)))) else (none)) = some r := H; have A31 := Aside0.mk A310; clear A310
       by_cases c32 : y185.length + t188.length < 140737488355328
       ·
        rw [if_pos c32] at H; have LMc32 := Aside0.mk c32; clear c32; obtain ⟨y191, hy191⟩ : ∃ y_ : List Int, y_ = (y185 ++ t188) := ⟨_, rfl⟩; replace H : ((some (([(a0_5) % 256] : List Int) : List Int)).bind fun y194 => (if y191.length + y194.length < 140737488355328 then ((some (y191 ++ y194 : List Int)).bind fun y197 => ((spec_l1Pack.f kj1 a0_6 4).bind fun t200 => (if y197.length + t200.length < 140737488355328 then (some (y197 ++ t200)) else (none)))) else (none))) = some r := by first | (rw [hy191]; with_reducible exact H) | (have H2_ := (Option.bind_some _ _).symm.trans H; rw [hy191]; with_reducible exact H2_) | (have H2_ := (Option.bind_some _ _).symm.trans H; with_reducible exact H2_) | with_reducible exact H | (rw [hy191]; exact H) | exact H
        have Ny191 := Aside0.mk hy191; clear hy191; obtain ⟨y194, hy194⟩ : ∃ y_ : List Int, y_ = (([(a0_5) % 256] : List Int)) := ⟨_, rfl⟩; replace H : (if y191.length + y194.length < 140737488355328 then ((some (y191 ++ y194 : List Int)).bind fun y197 => ((spec_l1Pack.f kj1 a0_6 4).bind fun t200 => (if y197.length + t200.length < 140737488355328 then (some (y197 ++ t200)) else (none)))) else (none)) = some r := by first | (rw [hy194]; with_reducible exact H) | (have H2_ := (Option.bind_some _ _).symm.trans H; rw [hy194]; with_reducible exact H2_) | (have H2_ := (Option.bind_some _ _).symm.trans H; with_reducible exact H2_) | with_reducible exact H | (rw [hy194]; exact H) | exact H
        have Ny194 := Aside0.mk hy194; clear hy194
        by_cases c33 : y191.length + y194.length < 140737488355328
        ·
         rw [if_pos c33] at H; have LMc33 := Aside0.mk c33; clear c33; obtain ⟨y197, hy197⟩ : ∃ y_ : List Int, y_ = (y191 ++ y194) := ⟨_, rfl⟩; replace H : ((spec_l1Pack.f kj1 a0_6 4).bind fun t200 => (if y197.length + t200.length < 140737488355328 then (some (y197 ++ t200)) else (none))) = some r := by first | (rw [hy197]; with_reducible exact H) | (have H2_ := (Option.bind_some _ _).symm.trans H; rw [hy197]; with_reducible exact H2_) | (have H2_ := (Option.bind_some _ _).symm.trans H; with_reducible exact H2_) | with_reducible exact H | (rw [hy197]; exact H) | exact H
         have Ny197 := Aside0.mk hy197; clear hy197; replace H := Option.bind_eq_some_iff.mp H; obtain ⟨t200, A340, H⟩ := H; replace H : (if y197.length + t200.length < 140737488355328 then (some (y197 ++ t200)) else (none)) = some r := H; have A34 := Aside0.mk A340; clear A340
         by_cases c35 : y197.length + t200.length < 140737488355328
         ·
          rw [if_pos c35] at H; have LMc35 := Aside0.mk c35; clear c35; obtain ⟨y203, hy203⟩ : ∃ y_ : List Int, y_ = (y197 ++ t200) := ⟨_, rfl⟩; replace H : (some y203) = some r := by first | (rw [hy203]; with_reducible exact H) | (have H2_ := (Option.bind_some _ _).symm.trans H; rw [hy203]; with_reducible exact H2_) | (have H2_ := (Option.bind_some _ _).symm.trans H; with_reducible exact H2_) | with_reducible exact H | (rw [hy203]; exact H) | exact H
          have Ny203 := Aside0.mk hy203; clear hy203; obtain rfl := Option.some.inj H
          try go_wp2
          replace HO_3 := Aside0.mk (Kd.R_drew HO_3.out); replace HB := Aside0.mk (below_drew1 HB.out); refine start_ (n := 17) (S := fun w' => w'.cell? p = some (.int .i64 a0_0) ∧ w'.cell? ⟨p.block, p.off + 1, none⟩ = some (.int .i64 a0_1) ∧ w'.cell? ⟨p.block, p.off + 2, none⟩ = some (.int .i64 a0_2) ∧ w'.cell? ⟨p.block, p.off + 3, none⟩ = some (.int .i64 a0_3) ∧ w'.cell? ⟨p.block, p.off + 4, none⟩ = some (.int .i64 a0_4) ∧ w'.cell? ⟨p.block, p.off + 5, none⟩ = some (.int .i64 a0_5) ∧ w'.cell? ⟨p.block, p.off + 6, none⟩ = some (.int .i64 a0_6) ∧ w'.cell? ⟨p.block, p.off + 7, none⟩ = some (.int .i64 a0_7) ∧ w'.cell? ⟨p.block, p.off + 8, none⟩ = some (.int .i64 a0_8) ∧ w'.cell? ⟨p.block, p.off + 9, none⟩ = some (.slice A0_9 l0_9.length c0_9)) (ds := []) #[Z',Z',Z',Z',Z',Z',Z',Z',Z',Z',Z',Z',Z',Z',Z',Z',Z'] (by kernel_rfl) rfl rfl ⟨((HB.out.cell (p := p) HLP.out).trans HXP_0.out), ((HB.out.cell (p := ⟨p.block, p.off + 1, none⟩) HLP.out).trans HXP_1.out), ((HB.out.cell (p := ⟨p.block, p.off + 2, none⟩) HLP.out).trans HXP_2.out), ((HB.out.cell (p := ⟨p.block, p.off + 3, none⟩) HLP.out).trans HXP_3.out), ((HB.out.cell (p := ⟨p.block, p.off + 4, none⟩) HLP.out).trans HXP_4.out), ((HB.out.cell (p := ⟨p.block, p.off + 5, none⟩) HLP.out).trans HXP_5.out), ((HB.out.cell (p := ⟨p.block, p.off + 6, none⟩) HLP.out).trans HXP_6.out), ((HB.out.cell (p := ⟨p.block, p.off + 7, none⟩) HLP.out).trans HXP_7.out), ((HB.out.cell (p := ⟨p.block, p.off + 8, none⟩) HLP.out).trans HXP_8.out), ((HB.out.cell (p := ⟨p.block, p.off + 9, none⟩) HLP.out).trans HXP_9.out)⟩ (fun hHeld => ?_); refine with_tabW spec_l7Encode.tab9 spec_l7Encode.bits9 (fun HT_ HW_ => ?_); generalize wc.drew = w36 at HO_3 HB hHeld ⊢; refine pure_ (i := 0) (N := some 42) (v := ?_) (a' := ?_) #[Y',Z',Z',Z',Z',Z',Z',Z',Z',Z',Z',Z',Z',Z',Z',Z',Z'] rfl rfl (any_of HT_.out (by kernel_rfl)) (fun _ _ _ h => h) (Or.inl ⟨by rfl, ?_⟩) ?_ ?_; rotate_left
          ·
           intro w'
           go_simp
           with_reducible rfl
          rotate_left
          ·
           simp only [Act.put, List.setIfInBounds_toArray, List.set_cons_zero, List.set_cons_succ, i64_w, i32_w]; rfl
          refine pure_ (i := 1) (N := some 43) (v := ?_) (a' := ?_) #[Y',Y',Z',Z',Z',Z',Z',Z',Z',Z',Z',Z',Z',Z',Z',Z',Z'] rfl rfl (any_of HT_.out (by kernel_rfl)) (fun _ _ _ h => h) (Or.inl ⟨by rfl, ?_⟩) ?_ ?_; rotate_left
          ·
           intro w'
           go_simp
           with_reducible rfl
          rotate_left
          ·
           simp only [Act.put, List.setIfInBounds_toArray, List.set_cons_zero, List.set_cons_succ, i64_w, i32_w]; rfl
          refine pure_ (i := 2) (N := some 44) (v := ?_) (a' := ?_) #[Y',Y',Y',Z',Z',Z',Z',Z',Z',Z',Z',Z',Z',Z',Z',Z',Z'] rfl rfl (any_of HT_.out (by kernel_rfl)) (fun _ _ _ h => h) (Or.inl ⟨by rfl, ?_⟩) ?_ ?_; rotate_left
          ·
           intro w'
           go_simp
           with_reducible rfl
          rotate_left
          ·
           simp only [Act.put, List.setIfInBounds_toArray, List.set_cons_zero, List.set_cons_succ, i64_w, i32_w]; rfl
          refine pure_ (i := 3) (N := some 45) (v := ?_) (a' := ?_) #[Y',Y',Y',Y',Z',Z',Z',Z',Z',Z',Z',Z',Z',Z',Z',Z',Z'] rfl rfl (any_of HT_.out (by kernel_rfl)) (fun _ _ _ h => h) (Or.inl ⟨by rfl, ?_⟩) ?_ ?_; rotate_left
          ·
           intro w'
           go_simp
           with_reducible rfl
          rotate_left
          ·
           simp only [Act.put, List.setIfInBounds_toArray, List.set_cons_zero, List.set_cons_succ, i64_w, i32_w]; rfl
          refine pure_ (i := 4) (N := some 46) (v := ?_) (a' := ?_) #[Y',Y',Y',Y',Y',Z',Z',Z',Z',Z',Z',Z',Z',Z',Z',Z',Z'] rfl rfl (any_of HT_.out (by kernel_rfl)) (fun _ _ _ h => h) (Or.inl ⟨by rfl, ?_⟩) ?_ ?_; rotate_left
          ·
           intro w'
           go_simp
           with_reducible rfl
          rotate_left
          ·
           simp only [Act.put, List.setIfInBounds_toArray, List.set_cons_zero, List.set_cons_succ, i64_w, i32_w]; rfl
          refine pure_ (i := 9) (N := some 51) (v := ?_) (a' := ?_) #[Y',Y',Y',Y',Y',Z',Z',Z',Z',Y',Z',Z',Z',Z',Z',Z',Z'] rfl rfl (any_of HT_.out (by kernel_rfl)) (fun _ _ _ h => h) (Or.inl ⟨by rfl, ?_⟩) ?_ ?_; rotate_left
          ·
           intro w'
           go_simp
           with_reducible rfl
          rotate_left
          ·
           simp only [Act.put, List.setIfInBounds_toArray, List.set_cons_zero, List.set_cons_succ, i64_w, i32_w]; rfl
          refine pure_ (i := 10) (N := some 52) (v := ?_) (a' := ?_) #[Y',Y',Y',Y',Y',Z',Z',Z',Z',Y',Y',Z',Z',Z',Z',Z',Z'] rfl rfl (any_of HT_.out (by kernel_rfl)) (fun _ _ _ h => h) (Or.inl ⟨by rfl, ?_⟩) ?_ ?_; rotate_left
          ·
           intro w'
           go_simp
           with_reducible rfl
          rotate_left
          ·
           simp only [Act.put, List.setIfInBounds_toArray, List.set_cons_zero, List.set_cons_succ, i64_w, i32_w]; rfl
          refine pure_ (i := 11) (N := some 53) (v := ?_) (a' := ?_) #[Y',Y',Y',Y',Y',Z',Z',Z',Z',Y',Y',Y',Z',Z',Z',Z',Z'] rfl rfl (any_of HT_.out (by kernel_rfl)) (fun _ _ _ h => h) (Or.inl ⟨by rfl, ?_⟩) ?_ ?_; rotate_left
          ·
           intro w'
           go_simp
           with_reducible rfl
          rotate_left
          ·
           simp only [Act.put, List.setIfInBounds_toArray, List.set_cons_zero, List.set_cons_succ, i64_w, i32_w]; rfl
          refine pure_ (i := 12) (N := some 54) (v := ?_) (a' := ?_) #[Y',Y',Y',Y',Y',Z',Z',Z',Z',Y',Y',Y',Y',Z',Z',Z',Z'] rfl rfl (any_of HT_.out (by kernel_rfl)) (fun _ _ _ h => h) (Or.inl ⟨by rfl, ?_⟩) ?_ ?_; rotate_left
          ·
           intro w'
           go_simp
           with_reducible rfl
          rotate_left
          ·
           simp only [Act.put, List.setIfInBounds_toArray, List.set_cons_zero, List.set_cons_succ, i64_w, i32_w]; rfl
          refine take_ (i := 5) (N := some 47) (v := ?_) (a' := ?_) #[Y',Y',Y',Y',Y',Y',Z',Z',Z',Y',Y',Y',Y',Z',Z',Z',Z'] rfl rfl (take_ofW HT_.out HW_.out (by kernel_rfl)) (fun _ _ _ h => h) (Or.inl ⟨by rfl, ?_⟩) hHeld ?_ ?_; rotate_left
          ·
           rintro w' ⟨s0, s1, s2, s3, s4, s5, s6, s7, s8, s9⟩
           go_simp
           with_reducible rfl
          rotate_left
          ·
           simp only [Act.put, List.setIfInBounds_toArray, List.set_cons_zero, List.set_cons_succ, i64_w, i32_w]; rfl
          refine pure_ (i := 6) (N := some 48) (v := ?_) (a' := ?_) #[Y',Y',Y',Y',Y',Y',Y',Z',Z',Y',Y',Y',Y',Z',Z',Z',Z'] rfl rfl (any_of HT_.out (by kernel_rfl)) (fun _ _ _ h => h) (Or.inl ⟨by rfl, ?_⟩) ?_ ?_; rotate_left
          ·
           intro w'
           go_simp
           with_reducible rfl
          rotate_left
          ·
           simp only [Act.put, List.setIfInBounds_toArray, List.set_cons_zero, List.set_cons_succ, i64_w, i32_w]; rfl
          refine take_ (i := 13) (N := some 55) (v := ?_) (a' := ?_) #[Y',Y',Y',Y',Y',Y',Y',Z',Z',Y',Y',Y',Y',Y',Z',Z',Z'] rfl rfl (take_ofW HT_.out HW_.out (by kernel_rfl)) (fun _ _ _ h => h) (Or.inl ⟨by rfl, ?_⟩) hHeld ?_ ?_; rotate_left
          ·
           rintro w' ⟨s0, s1, s2, s3, s4, s5, s6, s7, s8, s9⟩
           go_simp
           with_reducible rfl
          rotate_left
          ·
           simp only [Act.put, List.setIfInBounds_toArray, List.set_cons_zero, List.set_cons_succ, i64_w, i32_w]; rfl
          refine one_ (i := 7) (N := some 49) #[Y',Y',Y',Y',Y',Y',Y',Y',Z',Y',Y',Y',Y',Y',Z',Z',Z'] rfl rfl (one_of HT_.out (by kernel_rfl)) (by decide) (fun K hK => ?_); refine Kd.R_lit_step (Kd.int .u8) _ 5 ?hg (N := 49) ?hd (xs := ([(a0_3) % 256] : List Int)) (inner := [.int .u8 ((a0_3) % 256)]) (ok := fun _ => True) (okp := fun _ => True) ?hr ?hp (fun _ hk => hk) trivial (Below.refl _ _) (Nat.le_refl _) (by simp) ?_; (case hd => rfl); (case hg => rfl); (case hr => first | (go_simp; done) | (go_simp; rfl)); (case hp => exact (Reps.one (show Kd.M (Kd.int .u8) _ _ _ ((a0_3) % 256) [.int .u8 ((a0_3) % 256)] from rfl) (Reps.none _ _))); intro v183 w37 ho38 hb hg_ hnew_; clear hg_ hnew_; (first | rw [← Ny182.out] at ho38 | (simp only [Int.reduceToNat] at ho38; rw [← Ny182.out] at ho38)); have n0_ := Aside0.mk (Kd.R_elder' (R_a HO_3.out) (Kd.R_base ho38) hb); have HO184 := Aside0.mk (Kd.R_lower (Kd.R_new' ho38 (Kd.R_lt (R_a HO_3.out))) (below_size below_a)); replace HB := Aside0.mk (below_step below_a hb); replace HO_3 := n0_; clear n0_ hb ho38; obtain ⟨Ao40, co40, eo40⟩ := Kd.R_slice HO184.out; (first | subst eo40 | (injection eo40 with f1_ f2_ f3_; have f4_ := f1_.symm; have f5_ := f3_.symm; clear f1_ f2_ f3_; subst f4_; subst f5_)); refine hK.out _ _ ⟨((HB.out.cell (p := p) HLP.out).trans HXP_0.out), ((HB.out.cell (p := ⟨p.block, p.off + 1, none⟩) HLP.out).trans HXP_1.out), ((HB.out.cell (p := ⟨p.block, p.off + 2, none⟩) HLP.out).trans HXP_2.out), ((HB.out.cell (p := ⟨p.block, p.off + 3, none⟩) HLP.out).trans HXP_3.out), ((HB.out.cell (p := ⟨p.block, p.off + 4, none⟩) HLP.out).trans HXP_4.out), ((HB.out.cell (p := ⟨p.block, p.off + 5, none⟩) HLP.out).trans HXP_5.out), ((HB.out.cell (p := ⟨p.block, p.off + 6, none⟩) HLP.out).trans HXP_6.out), ((HB.out.cell (p := ⟨p.block, p.off + 7, none⟩) HLP.out).trans HXP_7.out), ((HB.out.cell (p := ⟨p.block, p.off + 8, none⟩) HLP.out).trans HXP_8.out), ((HB.out.cell (p := ⟨p.block, p.off + 9, none⟩) HLP.out).trans HXP_9.out)⟩ (fun hHeld => ?_); clear hK K; refine norm_ (a' := ?_) ?_ ?_; rotate_left
          ·
           show Act.put _ (some 49) _ = _; simp only [Act.put, List.setIfInBounds_toArray, List.set_cons_zero, List.set_cons_succ, i64_w, i32_w]; rfl
          refine one_ (i := 8) (N := some 50) #[Y',Y',Y',Y',Y',Y',Y',Y',Y',Y',Y',Y',Y',Y',Z',Z',Z'] rfl rfl (one_of HT_.out (by kernel_rfl)) (by decide) (fun K hK => ?_); refine Kd.R_append_rows_step (Kd.int .u8) (w0 := w) w.heap.size (by rfl) (.tmp 42) (.tmp 49) 30 5 (.int .u8 0) 1 rfl Try.underlying30 info5 rfl (by decide) (by omega) v162 y161 y182 _ _ _ (fun k_ => some k_ ≠ (.slice Ao40 y182.length co40 : Value).ownBlock) (fun _ => False) rfl rfl ?aO ?aR (fun _ _ h => h) (fun _ h => h.elim) ?aF ?aB ?aS ?aL ?_; (case aR => repeat (first | exact (Kd.R_reads' HO184.out).2.2 | (with_reducible refine Kd.C_alloc ?_ _) | (with_reducible refine Kd.C_drewN ?_ _) | (with_reducible refine Kd.C_drew ?_))); (case aB => exact below_a); (case aF => exact (fun k_ hk => Kd.fresh' (Kd.R_lt (R_a HO184.out)) k_ hk)); (case aO => exact (by (with_reducible repeat (first | apply Kd.R_alloc | apply Kd.R_drewN | apply Kd.R_drew)); exact Kd.R_mono HO_3.out (fun _ hk => hk.2))); (case aS => exact (below_size below_a)); (case aL => have := LMc30.out; omega); intro v186 w39 ho hb hg hat; rw [← Ny185.out] at ho; replace HO184 := Aside0.mk (Kd.R_after (ok := (fun _ => True)) (R_a HO184.out) hg hat); replace HB := Aside0.mk (hb); have HO187 := Aside0.mk (ho); clear HO_3 ho hb hg hat; refine hK.out _ _ ⟨((HB.out.cell (p := p) HLP.out).trans HXP_0.out), ((HB.out.cell (p := ⟨p.block, p.off + 1, none⟩) HLP.out).trans HXP_1.out), ((HB.out.cell (p := ⟨p.block, p.off + 2, none⟩) HLP.out).trans HXP_2.out), ((HB.out.cell (p := ⟨p.block, p.off + 3, none⟩) HLP.out).trans HXP_3.out), ((HB.out.cell (p := ⟨p.block, p.off + 4, none⟩) HLP.out).trans HXP_4.out), ((HB.out.cell (p := ⟨p.block, p.off + 5, none⟩) HLP.out).trans HXP_5.out), ((HB.out.cell (p := ⟨p.block, p.off + 6, none⟩) HLP.out).trans HXP_6.out), ((HB.out.cell (p := ⟨p.block, p.off + 7, none⟩) HLP.out).trans HXP_7.out), ((HB.out.cell (p := ⟨p.block, p.off + 8, none⟩) HLP.out).trans HXP_8.out), ((HB.out.cell (p := ⟨p.block, p.off + 9, none⟩) HLP.out).trans HXP_9.out)⟩ (fun hHeld => ?_); clear hK K; refine norm_ (a' := ?_) ?_ ?_; rotate_left
          ·
           show Act.put _ (some 50) _ = _; simp only [Act.put, List.setIfInBounds_toArray, List.set_cons_zero, List.set_cons_succ, i64_w, i32_w]; rfl
          refine one_ (i := 14) (N := some 56) #[Y',Y',Y',Y',Y',Y',Y',Y',Y',Y',Y',Y',Y',Y',Y',Z',Z'] rfl rfl (one_of HT_.out (by kernel_rfl)) (by decide) (fun K hK => ?_); refine goes_ Try.func65 (by kernel_rfl) rfl #[.int .i64 a0_4, .int .i64 4] (by rfl) rfl rfl args_a ?_
          with_reducible refine (spec_l1Pack.calls kj1 a0_4 4 t188 _ A31.out).mono ?_
          rintro e w41 ⟨v189, rfl, ho0, hb⟩; refine ⟨_, rfl, ?_⟩; have n0_ := Aside0.mk (Kd.R_elder' (R_a HO184.out) (Kd.R_base ho0) hb); have n1_ := Aside0.mk (Kd.R_elder' (R_a HO187.out) (Kd.R_base ho0) hb); have HO190 := Aside0.mk (Kd.R_lower (Kd.R_new' (Kd.R_new' ho0 (Kd.R_lt (R_a HO184.out))) (Kd.R_lt (R_a HO187.out))) (below_size below_a)); replace HB := Aside0.mk (below_step below_a hb); replace HO184 := n0_; replace HO187 := n1_; clear n0_ n1_; (try clear hb); (try clear hb2); (try clear hk); (try clear hi); (try clear ho0); obtain ⟨Ao43, co43, eo43⟩ := Kd.R_slice HO190.out; (first | subst eo43 | (injection eo43 with f1_ f2_ f3_; have f4_ := f1_.symm; have f5_ := f3_.symm; clear f1_ f2_ f3_; subst f4_; subst f5_)); refine hK.out _ _ ⟨((HB.out.cell (p := p) HLP.out).trans HXP_0.out), ((HB.out.cell (p := ⟨p.block, p.off + 1, none⟩) HLP.out).trans HXP_1.out), ((HB.out.cell (p := ⟨p.block, p.off + 2, none⟩) HLP.out).trans HXP_2.out), ((HB.out.cell (p := ⟨p.block, p.off + 3, none⟩) HLP.out).trans HXP_3.out), ((HB.out.cell (p := ⟨p.block, p.off + 4, none⟩) HLP.out).trans HXP_4.out), ((HB.out.cell (p := ⟨p.block, p.off + 5, none⟩) HLP.out).trans HXP_5.out), ((HB.out.cell (p := ⟨p.block, p.off + 6, none⟩) HLP.out).trans HXP_6.out), ((HB.out.cell (p := ⟨p.block, p.off + 7, none⟩) HLP.out).trans HXP_7.out), ((HB.out.cell (p := ⟨p.block, p.off + 8, none⟩) HLP.out).trans HXP_8.out), ((HB.out.cell (p := ⟨p.block, p.off + 9, none⟩) HLP.out).trans HXP_9.out)⟩ (fun hHeld => ?_); clear hK K; refine norm_ (a' := ?_) ?_ ?_; rotate_left
          ·
           show Act.put _ (some 56) _ = _; simp only [Act.put, List.setIfInBounds_toArray, List.set_cons_zero, List.set_cons_succ, i64_w, i32_w]; rfl
          refine one_ (i := 15) (N := some 57) #[Y',Y',Y',Y',Y',Y',Y',Y',Y',Y',Y',Y',Y',Y',Y',Y',Z'] rfl rfl (one_of HT_.out (by kernel_rfl)) (by decide) (fun K hK => ?_); refine Kd.R_append_rows_step (Kd.int .u8) (w0 := w) w.heap.size (by rfl) (.tmp 50) (.tmp 56) 30 5 (.int .u8 0) 1 rfl Try.underlying30 info5 rfl (by decide) (by omega) v186 y185 t188 _ _ _ (fun k_ => some k_ ≠ (.slice Ao40 y182.length co40 : Value).ownBlock ∧ some k_ ≠ (.slice Ao43 t188.length co43 : Value).ownBlock) (fun _ => False) rfl rfl ?aO ?aR (fun _ _ h => h) (fun _ h => h.elim) ?aF ?aB ?aS ?aL ?_; (case aR => repeat (first | exact (Kd.R_reads' HO190.out).2.2 | (with_reducible refine Kd.C_alloc ?_ _) | (with_reducible refine Kd.C_drewN ?_ _) | (with_reducible refine Kd.C_drew ?_))); (case aB => exact below_a); (case aF => exact (fun k_ hk => ⟨Kd.fresh' (Kd.R_lt (R_a HO184.out)) k_ hk, Kd.fresh' (Kd.R_lt (R_a HO190.out)) k_ hk⟩)); (case aO => exact (R_a HO187.out)); (case aS => exact (below_size below_a)); (case aL => have := LMc32.out; omega); intro v192 w42 ho hb hg hat; rw [← Ny191.out] at ho; replace HO184 := Aside0.mk (Kd.R_after (ok := (fun k_ => some k_ ≠ (.slice Ao43 t188.length co43 : Value).ownBlock)) (by (with_reducible repeat (first | apply Kd.R_alloc | apply Kd.R_drewN | apply Kd.R_drew)); exact Kd.R_mono HO184.out (fun _ hk => ⟨hk.2, hk.1.2⟩)) hg hat); replace HO190 := Aside0.mk (Kd.R_after (ok := (fun k_ => some k_ ≠ (.slice Ao40 y182.length co40 : Value).ownBlock)) (by (with_reducible repeat (first | apply Kd.R_alloc | apply Kd.R_drewN | apply Kd.R_drew)); exact Kd.R_mono HO190.out (fun _ hk => ⟨hk.1.2, hk.2⟩)) hg hat); replace HB := Aside0.mk (hb); have HO193 := Aside0.mk (ho); clear HO187 ho hb hg hat; refine hK.out _ _ ⟨((HB.out.cell (p := p) HLP.out).trans HXP_0.out), ((HB.out.cell (p := ⟨p.block, p.off + 1, none⟩) HLP.out).trans HXP_1.out), ((HB.out.cell (p := ⟨p.block, p.off + 2, none⟩) HLP.out).trans HXP_2.out), ((HB.out.cell (p := ⟨p.block, p.off + 3, none⟩) HLP.out).trans HXP_3.out), ((HB.out.cell (p := ⟨p.block, p.off + 4, none⟩) HLP.out).trans HXP_4.out), ((HB.out.cell (p := ⟨p.block, p.off + 5, none⟩) HLP.out).trans HXP_5.out), ((HB.out.cell (p := ⟨p.block, p.off + 6, none⟩) HLP.out).trans HXP_6.out), ((HB.out.cell (p := ⟨p.block, p.off + 7, none⟩) HLP.out).trans HXP_7.out), ((HB.out.cell (p := ⟨p.block, p.off + 8, none⟩) HLP.out).trans HXP_8.out), ((HB.out.cell (p := ⟨p.block, p.off + 9, none⟩) HLP.out).trans HXP_9.out)⟩ (fun hHeld => ?_); clear hK K; refine norm_ (a' := ?_) ?_ ?_; rotate_left
          ·
           show Act.put _ (some 57) _ = _; simp only [Act.put, List.setIfInBounds_toArray, List.set_cons_zero, List.set_cons_succ, i64_w, i32_w]; rfl
          refine pure_ (i := 16) (N := some 3) (v := ?_) (a' := ?_) #[Y',Y',Y',Y',Y',Y',Y',Y',Y',Y',Y',Y',Y',Y',Y',Y',Y'] rfl rfl (any_of HT_.out (by kernel_rfl)) (fun _ _ _ h => h) (Or.inl ⟨by rfl, ?_⟩) ?_ ?_; rotate_left
          ·
           intro w'
           go_simp
           with_reducible rfl
          rotate_left
          ·
           simp only [Act.put, List.setIfInBounds_toArray, List.set_cons_zero, List.set_cons_succ, i64_w, i32_w]; rfl
          refine done_ (done_of HT_.out (by kernel_rfl)) ?_
          try go_wp2
          replace HO184 := Aside0.mk (Kd.R_drew HO184.out); replace HO190 := Aside0.mk (Kd.R_drew HO190.out); replace HO193 := Aside0.mk (Kd.R_drew HO193.out); replace HB := Aside0.mk (below_drew1 HB.out); refine start_ (n := 17) (S := fun w' => w'.cell? p = some (.int .i64 a0_0) ∧ w'.cell? ⟨p.block, p.off + 1, none⟩ = some (.int .i64 a0_1) ∧ w'.cell? ⟨p.block, p.off + 2, none⟩ = some (.int .i64 a0_2) ∧ w'.cell? ⟨p.block, p.off + 3, none⟩ = some (.int .i64 a0_3) ∧ w'.cell? ⟨p.block, p.off + 4, none⟩ = some (.int .i64 a0_4) ∧ w'.cell? ⟨p.block, p.off + 5, none⟩ = some (.int .i64 a0_5) ∧ w'.cell? ⟨p.block, p.off + 6, none⟩ = some (.int .i64 a0_6) ∧ w'.cell? ⟨p.block, p.off + 7, none⟩ = some (.int .i64 a0_7) ∧ w'.cell? ⟨p.block, p.off + 8, none⟩ = some (.int .i64 a0_8) ∧ w'.cell? ⟨p.block, p.off + 9, none⟩ = some (.slice A0_9 l0_9.length c0_9)) (ds := []) #[Z',Z',Z',Z',Z',Z',Z',Z',Z',Z',Z',Z',Z',Z',Z',Z',Z'] (by kernel_rfl) rfl rfl ⟨((HB.out.cell (p := p) HLP.out).trans HXP_0.out), ((HB.out.cell (p := ⟨p.block, p.off + 1, none⟩) HLP.out).trans HXP_1.out), ((HB.out.cell (p := ⟨p.block, p.off + 2, none⟩) HLP.out).trans HXP_2.out), ((HB.out.cell (p := ⟨p.block, p.off + 3, none⟩) HLP.out).trans HXP_3.out), ((HB.out.cell (p := ⟨p.block, p.off + 4, none⟩) HLP.out).trans HXP_4.out), ((HB.out.cell (p := ⟨p.block, p.off + 5, none⟩) HLP.out).trans HXP_5.out), ((HB.out.cell (p := ⟨p.block, p.off + 6, none⟩) HLP.out).trans HXP_6.out), ((HB.out.cell (p := ⟨p.block, p.off + 7, none⟩) HLP.out).trans HXP_7.out), ((HB.out.cell (p := ⟨p.block, p.off + 8, none⟩) HLP.out).trans HXP_8.out), ((HB.out.cell (p := ⟨p.block, p.off + 9, none⟩) HLP.out).trans HXP_9.out)⟩ (fun hHeld => ?_); refine with_tabW spec_l7Encode.tab10 spec_l7Encode.bits10 (fun HT_ HW_ => ?_); generalize w42.drew = w44 at HO184 HO190 HO193 HB hHeld ⊢; refine pure_ (i := 0) (N := some 58) (v := ?_) (a' := ?_) #[Y',Z',Z',Z',Z',Z',Z',Z',Z',Z',Z',Z',Z',Z',Z',Z',Z'] rfl rfl (any_of HT_.out (by kernel_rfl)) (fun _ _ _ h => h) (Or.inl ⟨by rfl, ?_⟩) ?_ ?_; rotate_left
          ·
           intro w'
           go_simp
           with_reducible rfl
          rotate_left
          ·
           simp only [Act.put, List.setIfInBounds_toArray, List.set_cons_zero, List.set_cons_succ, i64_w, i32_w]; rfl
          refine pure_ (i := 1) (N := some 59) (v := ?_) (a' := ?_) #[Y',Y',Z',Z',Z',Z',Z',Z',Z',Z',Z',Z',Z',Z',Z',Z',Z'] rfl rfl (any_of HT_.out (by kernel_rfl)) (fun _ _ _ h => h) (Or.inl ⟨by rfl, ?_⟩) ?_ ?_; rotate_left
          ·
           intro w'
           go_simp
           with_reducible rfl
          rotate_left
          ·
           simp only [Act.put, List.setIfInBounds_toArray, List.set_cons_zero, List.set_cons_succ, i64_w, i32_w]; rfl
          refine pure_ (i := 2) (N := some 60) (v := ?_) (a' := ?_) #[Y',Y',Y',Z',Z',Z',Z',Z',Z',Z',Z',Z',Z',Z',Z',Z',Z'] rfl rfl (any_of HT_.out (by kernel_rfl)) (fun _ _ _ h => h) (Or.inl ⟨by rfl, ?_⟩) ?_ ?_; rotate_left
          ·
           intro w'
           go_simp
           with_reducible rfl
          rotate_left
          ·
           simp only [Act.put, List.setIfInBounds_toArray, List.set_cons_zero, List.set_cons_succ, i64_w, i32_w]; rfl
          refine pure_ (i := 3) (N := some 61) (v := ?_) (a' := ?_) #[Y',Y',Y',Y',Z',Z',Z',Z',Z',Z',Z',Z',Z',Z',Z',Z',Z'] rfl rfl (any_of HT_.out (by kernel_rfl)) (fun _ _ _ h => h) (Or.inl ⟨by rfl, ?_⟩) ?_ ?_; rotate_left
          ·
           intro w'
           go_simp
           with_reducible rfl
          rotate_left
          ·
           simp only [Act.put, List.setIfInBounds_toArray, List.set_cons_zero, List.set_cons_succ, i64_w, i32_w]; rfl
          refine pure_ (i := 4) (N := some 62) (v := ?_) (a' := ?_) #[Y',Y',Y',Y',Y',Z',Z',Z',Z',Z',Z',Z',Z',Z',Z',Z',Z'] rfl rfl (any_of HT_.out (by kernel_rfl)) (fun _ _ _ h => h) (Or.inl ⟨by rfl, ?_⟩) ?_ ?_; rotate_left
          ·
           intro w'
           go_simp
           with_reducible rfl
          rotate_left
          ·
           simp only [Act.put, List.setIfInBounds_toArray, List.set_cons_zero, List.set_cons_succ, i64_w, i32_w]; rfl
          refine pure_ (i := 9) (N := some 67) (v := ?_) (a' := ?_) #[Y',Y',Y',Y',Y',Z',Z',Z',Z',Y',Z',Z',Z',Z',Z',Z',Z'] rfl rfl (any_of HT_.out (by kernel_rfl)) (fun _ _ _ h => h) (Or.inl ⟨by rfl, ?_⟩) ?_ ?_; rotate_left
          ·
           intro w'
           go_simp
           with_reducible rfl
          rotate_left
          ·
           simp only [Act.put, List.setIfInBounds_toArray, List.set_cons_zero, List.set_cons_succ, i64_w, i32_w]; rfl
          refine pure_ (i := 10) (N := some 68) (v := ?_) (a' := ?_) #[Y',Y',Y',Y',Y',Z',Z',Z',Z',Y',Y',Z',Z',Z',Z',Z',Z'] rfl rfl (any_of HT_.out (by kernel_rfl)) (fun _ _ _ h => h) (Or.inl ⟨by rfl, ?_⟩) ?_ ?_; rotate_left
          ·
           intro w'
           go_simp
           with_reducible rfl
          rotate_left
          ·
           simp only [Act.put, List.setIfInBounds_toArray, List.set_cons_zero, List.set_cons_succ, i64_w, i32_w]; rfl
          refine pure_ (i := 11) (N := some 69) (v := ?_) (a' := ?_) #[Y',Y',Y',Y',Y',Z',Z',Z',Z',Y',Y',Y',Z',Z',Z',Z',Z'] rfl rfl (any_of HT_.out (by kernel_rfl)) (fun _ _ _ h => h) (Or.inl ⟨by rfl, ?_⟩) ?_ ?_; rotate_left
          ·
           intro w'
           go_simp
           with_reducible rfl
          rotate_left
          ·
           simp only [Act.put, List.setIfInBounds_toArray, List.set_cons_zero, List.set_cons_succ, i64_w, i32_w]; rfl
          refine pure_ (i := 12) (N := some 70) (v := ?_) (a' := ?_) #[Y',Y',Y',Y',Y',Z',Z',Z',Z',Y',Y',Y',Y',Z',Z',Z',Z'] rfl rfl (any_of HT_.out (by kernel_rfl)) (fun _ _ _ h => h) (Or.inl ⟨by rfl, ?_⟩) ?_ ?_; rotate_left
          ·
           intro w'
           go_simp
           with_reducible rfl
          rotate_left
          ·
           simp only [Act.put, List.setIfInBounds_toArray, List.set_cons_zero, List.set_cons_succ, i64_w, i32_w]; rfl
          refine take_ (i := 5) (N := some 63) (v := ?_) (a' := ?_) #[Y',Y',Y',Y',Y',Y',Z',Z',Z',Y',Y',Y',Y',Z',Z',Z',Z'] rfl rfl (take_ofW HT_.out HW_.out (by kernel_rfl)) (fun _ _ _ h => h) (Or.inl ⟨by rfl, ?_⟩) hHeld ?_ ?_; rotate_left
          ·
           rintro w' ⟨s0, s1, s2, s3, s4, s5, s6, s7, s8, s9⟩
           go_simp
           with_reducible rfl
          rotate_left
          ·
           simp only [Act.put, List.setIfInBounds_toArray, List.set_cons_zero, List.set_cons_succ, i64_w, i32_w]; rfl
          refine pure_ (i := 6) (N := some 64) (v := ?_) (a' := ?_) #[Y',Y',Y',Y',Y',Y',Y',Z',Z',Y',Y',Y',Y',Z',Z',Z',Z'] rfl rfl (any_of HT_.out (by kernel_rfl)) (fun _ _ _ h => h) (Or.inl ⟨by rfl, ?_⟩) ?_ ?_; rotate_left
          ·
           intro w'
           go_simp
           with_reducible rfl
          rotate_left
          ·
           simp only [Act.put, List.setIfInBounds_toArray, List.set_cons_zero, List.set_cons_succ, i64_w, i32_w]; rfl
          refine take_ (i := 13) (N := some 71) (v := ?_) (a' := ?_) #[Y',Y',Y',Y',Y',Y',Y',Z',Z',Y',Y',Y',Y',Y',Z',Z',Z'] rfl rfl (take_ofW HT_.out HW_.out (by kernel_rfl)) (fun _ _ _ h => h) (Or.inl ⟨by rfl, ?_⟩) hHeld ?_ ?_; rotate_left
          ·
           rintro w' ⟨s0, s1, s2, s3, s4, s5, s6, s7, s8, s9⟩
           go_simp
           with_reducible rfl
          rotate_left
          ·
           simp only [Act.put, List.setIfInBounds_toArray, List.set_cons_zero, List.set_cons_succ, i64_w, i32_w]; rfl
          refine one_ (i := 7) (N := some 65) #[Y',Y',Y',Y',Y',Y',Y',Y',Z',Y',Y',Y',Y',Y',Z',Z',Z'] rfl rfl (one_of HT_.out (by kernel_rfl)) (by decide) (fun K hK => ?_); refine Kd.R_lit_step (Kd.int .u8) _ 5 ?hg (N := 65) ?hd (xs := ([(a0_5) % 256] : List Int)) (inner := [.int .u8 ((a0_5) % 256)]) (ok := fun _ => True) (okp := fun _ => True) ?hr ?hp (fun _ hk => hk) trivial (Below.refl _ _) (Nat.le_refl _) (by simp) ?_; (case hd => rfl); (case hg => rfl); (case hr => first | (go_simp; done) | (go_simp; rfl)); (case hp => exact (Reps.one (show Kd.M (Kd.int .u8) _ _ _ ((a0_5) % 256) [.int .u8 ((a0_5) % 256)] from rfl) (Reps.none _ _))); intro v195 w45 ho46 hb hg_ hnew_; clear hg_ hnew_; (first | rw [← Ny194.out] at ho46 | (simp only [Int.reduceToNat] at ho46; rw [← Ny194.out] at ho46)); have n0_ := Aside0.mk (Kd.R_elder' (R_a HO184.out) (Kd.R_base ho46) hb); have n1_ := Aside0.mk (Kd.R_elder' (R_a HO190.out) (Kd.R_base ho46) hb); have n2_ := Aside0.mk (Kd.R_elder' (R_a HO193.out) (Kd.R_base ho46) hb); have HO196 := Aside0.mk (Kd.R_lower (Kd.R_new' (Kd.R_new' (Kd.R_new' ho46 (Kd.R_lt (R_a HO184.out))) (Kd.R_lt (R_a HO190.out))) (Kd.R_lt (R_a HO193.out))) (below_size below_a)); replace HB := Aside0.mk (below_step below_a hb); replace HO184 := n0_; replace HO190 := n1_; replace HO193 := n2_; clear n0_ n1_ n2_ hb ho46; obtain ⟨Ao48, co48, eo48⟩ := Kd.R_slice HO196.out; (first | subst eo48 | (injection eo48 with f1_ f2_ f3_; have f4_ := f1_.symm; have f5_ := f3_.symm; clear f1_ f2_ f3_; subst f4_; subst f5_)); refine hK.out _ _ ⟨((HB.out.cell (p := p) HLP.out).trans HXP_0.out), ((HB.out.cell (p := ⟨p.block, p.off + 1, none⟩) HLP.out).trans HXP_1.out), ((HB.out.cell (p := ⟨p.block, p.off + 2, none⟩) HLP.out).trans HXP_2.out), ((HB.out.cell (p := ⟨p.block, p.off + 3, none⟩) HLP.out).trans HXP_3.out), ((HB.out.cell (p := ⟨p.block, p.off + 4, none⟩) HLP.out).trans HXP_4.out), ((HB.out.cell (p := ⟨p.block, p.off + 5, none⟩) HLP.out).trans HXP_5.out), ((HB.out.cell (p := ⟨p.block, p.off + 6, none⟩) HLP.out).trans HXP_6.out), ((HB.out.cell (p := ⟨p.block, p.off + 7, none⟩) HLP.out).trans HXP_7.out), ((HB.out.cell (p := ⟨p.block, p.off + 8, none⟩) HLP.out).trans HXP_8.out), ((HB.out.cell (p := ⟨p.block, p.off + 9, none⟩) HLP.out).trans HXP_9.out)⟩ (fun hHeld => ?_); clear hK K; refine norm_ (a' := ?_) ?_ ?_; rotate_left
          ·
           show Act.put _ (some 65) _ = _; simp only [Act.put, List.setIfInBounds_toArray, List.set_cons_zero, List.set_cons_succ, i64_w, i32_w]; rfl
          refine one_ (i := 8) (N := some 66) #[Y',Y',Y',Y',Y',Y',Y',Y',Y',Y',Y',Y',Y',Y',Z',Z',Z'] rfl rfl (one_of HT_.out (by kernel_rfl)) (by decide) (fun K hK => ?_); refine Kd.R_append_rows_step (Kd.int .u8) (w0 := w) w.heap.size (by rfl) (.tmp 58) (.tmp 65) 30 5 (.int .u8 0) 1 rfl Try.underlying30 info5 rfl (by decide) (by omega) v192 y191 y194 _ _ _ (fun k_ => some k_ ≠ (.slice Ao40 y182.length co40 : Value).ownBlock ∧ some k_ ≠ (.slice Ao43 t188.length co43 : Value).ownBlock ∧ some k_ ≠ (.slice Ao48 y194.length co48 : Value).ownBlock) (fun _ => False) rfl rfl ?aO ?aR (fun _ _ h => h) (fun _ h => h.elim) ?aF ?aB ?aS ?aL ?_; (case aR => repeat (first | exact (Kd.R_reads' HO196.out).2.2 | (with_reducible refine Kd.C_alloc ?_ _) | (with_reducible refine Kd.C_drewN ?_ _) | (with_reducible refine Kd.C_drew ?_))); (case aB => exact below_a); (case aF => exact (fun k_ hk => ⟨Kd.fresh' (Kd.R_lt (R_a HO184.out)) k_ hk, Kd.fresh' (Kd.R_lt (R_a HO190.out)) k_ hk, Kd.fresh' (Kd.R_lt (R_a HO196.out)) k_ hk⟩)); (case aO => exact (by (with_reducible repeat (first | apply Kd.R_alloc | apply Kd.R_drewN | apply Kd.R_drew)); exact Kd.R_mono HO193.out (fun _ hk => ⟨hk.1.1, ⟨hk.1.2, hk.2⟩⟩))); (case aS => exact (below_size below_a)); (case aL => have := LMc33.out; omega); intro v198 w47 ho hb hg hat; rw [← Ny197.out] at ho; replace HO184 := Aside0.mk (Kd.R_after (ok := (fun k_ => some k_ ≠ (.slice Ao43 t188.length co43 : Value).ownBlock ∧ some k_ ≠ (.slice Ao48 y194.length co48 : Value).ownBlock)) (by (with_reducible repeat (first | apply Kd.R_alloc | apply Kd.R_drewN | apply Kd.R_drew)); exact Kd.R_mono HO184.out (fun _ hk => ⟨⟨hk.1.1, hk.2⟩, hk.1.2⟩)) hg hat); replace HO190 := Aside0.mk (Kd.R_after (ok := (fun k_ => some k_ ≠ (.slice Ao40 y182.length co40 : Value).ownBlock ∧ some k_ ≠ (.slice Ao48 y194.length co48 : Value).ownBlock)) (by (with_reducible repeat (first | apply Kd.R_alloc | apply Kd.R_drewN | apply Kd.R_drew)); exact Kd.R_mono HO190.out (fun _ hk => ⟨⟨hk.1.1, hk.2⟩, hk.1.2⟩)) hg hat); replace HO196 := Aside0.mk (Kd.R_after (ok := (fun k_ => some k_ ≠ (.slice Ao40 y182.length co40 : Value).ownBlock ∧ some k_ ≠ (.slice Ao43 t188.length co43 : Value).ownBlock)) (by (with_reducible repeat (first | apply Kd.R_alloc | apply Kd.R_drewN | apply Kd.R_drew)); exact Kd.R_mono HO196.out (fun _ hk => ⟨⟨hk.1.1.2, hk.1.2⟩, hk.2⟩)) hg hat); replace HB := Aside0.mk (hb); have HO199 := Aside0.mk (ho); clear HO193 ho hb hg hat; refine hK.out _ _ ⟨((HB.out.cell (p := p) HLP.out).trans HXP_0.out), ((HB.out.cell (p := ⟨p.block, p.off + 1, none⟩) HLP.out).trans HXP_1.out), ((HB.out.cell (p := ⟨p.block, p.off + 2, none⟩) HLP.out).trans HXP_2.out), ((HB.out.cell (p := ⟨p.block, p.off + 3, none⟩) HLP.out).trans HXP_3.out), ((HB.out.cell (p := ⟨p.block, p.off + 4, none⟩) HLP.out).trans HXP_4.out), ((HB.out.cell (p := ⟨p.block, p.off + 5, none⟩) HLP.out).trans HXP_5.out), ((HB.out.cell (p := ⟨p.block, p.off + 6, none⟩) HLP.out).trans HXP_6.out), ((HB.out.cell (p := ⟨p.block, p.off + 7, none⟩) HLP.out).trans HXP_7.out), ((HB.out.cell (p := ⟨p.block, p.off + 8, none⟩) HLP.out).trans HXP_8.out), ((HB.out.cell (p := ⟨p.block, p.off + 9, none⟩) HLP.out).trans HXP_9.out)⟩ (fun hHeld => ?_); clear hK K; refine norm_ (a' := ?_) ?_ ?_; rotate_left
          ·
           show Act.put _ (some 66) _ = _; simp only [Act.put, List.setIfInBounds_toArray, List.set_cons_zero, List.set_cons_succ, i64_w, i32_w]; rfl
          refine one_ (i := 14) (N := some 72) #[Y',Y',Y',Y',Y',Y',Y',Y',Y',Y',Y',Y',Y',Y',Y',Z',Z'] rfl rfl (one_of HT_.out (by kernel_rfl)) (by decide) (fun K hK => ?_); refine goes_ Try.func65 (by kernel_rfl) rfl #[.int .i64 a0_6, .int .i64 4] (by rfl) rfl rfl args_a ?_
          with_reducible refine (spec_l1Pack.calls kj1 a0_6 4 t200 _ A34.out).mono ?_
          rintro e w49 ⟨v201, rfl, ho0, hb⟩; refine ⟨_, rfl, ?_⟩; have n0_ := Aside0.mk (Kd.R_elder' (R_a HO184.out) (Kd.R_base ho0) hb); have n1_ := Aside0.mk (Kd.R_elder' (R_a HO190.out) (Kd.R_base ho0) hb); have n2_ := Aside0.mk (Kd.R_elder' (R_a HO196.out) (Kd.R_base ho0) hb); have n3_ := Aside0.mk (Kd.R_elder' (R_a HO199.out) (Kd.R_base ho0) hb); have HO202 := Aside0.mk (Kd.R_lower (Kd.R_new' (Kd.R_new' (Kd.R_new' (Kd.R_new' ho0 (Kd.R_lt (R_a HO184.out))) (Kd.R_lt (R_a HO190.out))) (Kd.R_lt (R_a HO196.out))) (Kd.R_lt (R_a HO199.out))) (below_size below_a)); replace HB := Aside0.mk (below_step below_a hb); replace HO184 := n0_; replace HO190 := n1_; replace HO196 := n2_; replace HO199 := n3_; clear n0_ n1_ n2_ n3_; (try clear hb); (try clear hb2); (try clear hk); (try clear hi); (try clear ho0); obtain ⟨Ao51, co51, eo51⟩ := Kd.R_slice HO202.out; (first | subst eo51 | (injection eo51 with f1_ f2_ f3_; have f4_ := f1_.symm; have f5_ := f3_.symm; clear f1_ f2_ f3_; subst f4_; subst f5_)); refine hK.out _ _ ⟨((HB.out.cell (p := p) HLP.out).trans HXP_0.out), ((HB.out.cell (p := ⟨p.block, p.off + 1, none⟩) HLP.out).trans HXP_1.out), ((HB.out.cell (p := ⟨p.block, p.off + 2, none⟩) HLP.out).trans HXP_2.out), ((HB.out.cell (p := ⟨p.block, p.off + 3, none⟩) HLP.out).trans HXP_3.out), ((HB.out.cell (p := ⟨p.block, p.off + 4, none⟩) HLP.out).trans HXP_4.out), ((HB.out.cell (p := ⟨p.block, p.off + 5, none⟩) HLP.out).trans HXP_5.out), ((HB.out.cell (p := ⟨p.block, p.off + 6, none⟩) HLP.out).trans HXP_6.out), ((HB.out.cell (p := ⟨p.block, p.off + 7, none⟩) HLP.out).trans HXP_7.out), ((HB.out.cell (p := ⟨p.block, p.off + 8, none⟩) HLP.out).trans HXP_8.out), ((HB.out.cell (p := ⟨p.block, p.off + 9, none⟩) HLP.out).trans HXP_9.out)⟩ (fun hHeld => ?_); clear hK K; refine norm_ (a' := ?_) ?_ ?_; rotate_left
          ·
           show Act.put _ (some 72) _ = _; simp only [Act.put, List.setIfInBounds_toArray, List.set_cons_zero, List.set_cons_succ, i64_w, i32_w]; rfl
          refine one_ (i := 15) (N := some 73) #[Y',Y',Y',Y',Y',Y',Y',Y',Y',Y',Y',Y',Y',Y',Y',Y',Z'] rfl rfl (one_of HT_.out (by kernel_rfl)) (by decide) (fun K hK => ?_); refine Kd.R_append_rows_step (Kd.int .u8) (w0 := w) w.heap.size (by rfl) (.tmp 66) (.tmp 72) 30 5 (.int .u8 0) 1 rfl Try.underlying30 info5 rfl (by decide) (by omega) v198 y197 t200 _ _ _ (fun k_ => some k_ ≠ (.slice Ao40 y182.length co40 : Value).ownBlock ∧ some k_ ≠ (.slice Ao43 t188.length co43 : Value).ownBlock ∧ some k_ ≠ (.slice Ao48 y194.length co48 : Value).ownBlock ∧ some k_ ≠ (.slice Ao51 t200.length co51 : Value).ownBlock) (fun _ => False) rfl rfl ?aO ?aR (fun _ _ h => h) (fun _ h => h.elim) ?aF ?aB ?aS ?aL ?_; (case aR => repeat (first | exact (Kd.R_reads' HO202.out).2.2 | (with_reducible refine Kd.C_alloc ?_ _) | (with_reducible refine Kd.C_drewN ?_ _) | (with_reducible refine Kd.C_drew ?_))); (case aB => exact below_a); (case aF => exact (fun k_ hk => ⟨Kd.fresh' (Kd.R_lt (R_a HO184.out)) k_ hk, Kd.fresh' (Kd.R_lt (R_a HO190.out)) k_ hk, Kd.fresh' (Kd.R_lt (R_a HO196.out)) k_ hk, Kd.fresh' (Kd.R_lt (R_a HO202.out)) k_ hk⟩)); (case aO => exact (by (with_reducible repeat (first | apply Kd.R_alloc | apply Kd.R_drewN | apply Kd.R_drew)); exact Kd.R_mono HO199.out (fun _ hk => ⟨hk.1.1, ⟨hk.1.2.1, ⟨hk.1.2.2, hk.2⟩⟩⟩))); (case aS => exact (below_size below_a)); (case aL => have := LMc35.out; omega); intro v204 w50 ho hb hg hat; rw [← Ny203.out] at ho; replace HO184 := Aside0.mk (Kd.R_after (ok := (fun k_ => some k_ ≠ (.slice Ao43 t188.length co43 : Value).ownBlock ∧ some k_ ≠ (.slice Ao48 y194.length co48 : Value).ownBlock ∧ some k_ ≠ (.slice Ao51 t200.length co51 : Value).ownBlock)) (by (with_reducible repeat (first | apply Kd.R_alloc | apply Kd.R_drewN | apply Kd.R_drew)); exact Kd.R_mono HO184.out (fun _ hk => ⟨⟨hk.1.1.1, ⟨hk.1.1.2, hk.2⟩⟩, hk.1.2⟩)) hg hat); replace HO190 := Aside0.mk (Kd.R_after (ok := (fun k_ => some k_ ≠ (.slice Ao40 y182.length co40 : Value).ownBlock ∧ some k_ ≠ (.slice Ao48 y194.length co48 : Value).ownBlock ∧ some k_ ≠ (.slice Ao51 t200.length co51 : Value).ownBlock)) (by (with_reducible repeat (first | apply Kd.R_alloc | apply Kd.R_drewN | apply Kd.R_drew)); exact Kd.R_mono HO190.out (fun _ hk => ⟨⟨hk.1.1.1, ⟨hk.1.1.2, hk.2⟩⟩, hk.1.2⟩)) hg hat); replace HO196 := Aside0.mk (Kd.R_after (ok := (fun k_ => some k_ ≠ (.slice Ao40 y182.length co40 : Value).ownBlock ∧ some k_ ≠ (.slice Ao43 t188.length co43 : Value).ownBlock ∧ some k_ ≠ (.slice Ao51 t200.length co51 : Value).ownBlock)) (by (with_reducible repeat (first | apply Kd.R_alloc | apply Kd.R_drewN | apply Kd.R_drew)); exact Kd.R_mono HO196.out (fun _ hk => ⟨⟨hk.1.1.1, ⟨hk.1.1.2, hk.2⟩⟩, hk.1.2⟩)) hg hat); replace HO202 := Aside0.mk (Kd.R_after (ok := (fun k_ => some k_ ≠ (.slice Ao40 y182.length co40 : Value).ownBlock ∧ some k_ ≠ (.slice Ao43 t188.length co43 : Value).ownBlock ∧ some k_ ≠ (.slice Ao48 y194.length co48 : Value).ownBlock)) (by (with_reducible repeat (first | apply Kd.R_alloc | apply Kd.R_drewN | apply Kd.R_drew)); exact Kd.R_mono HO202.out (fun _ hk => ⟨⟨hk.1.1.1.2, ⟨hk.1.1.2, hk.1.2⟩⟩, hk.2⟩)) hg hat); replace HB := Aside0.mk (hb); have HO205 := Aside0.mk (ho); clear HO199 ho hb hg hat; refine hK.out _ _ ⟨((HB.out.cell (p := p) HLP.out).trans HXP_0.out), ((HB.out.cell (p := ⟨p.block, p.off + 1, none⟩) HLP.out).trans HXP_1.out), ((HB.out.cell (p := ⟨p.block, p.off + 2, none⟩) HLP.out).trans HXP_2.out), ((HB.out.cell (p := ⟨p.block, p.off + 3, none⟩) HLP.out).trans HXP_3.out), ((HB.out.cell (p := ⟨p.block, p.off + 4, none⟩) HLP.out).trans HXP_4.out), ((HB.out.cell (p := ⟨p.block, p.off + 5, none⟩) HLP.out).trans HXP_5.out), ((HB.out.cell (p := ⟨p.block, p.off + 6, none⟩) HLP.out).trans HXP_6.out), ((HB.out.cell (p := ⟨p.block, p.off + 7, none⟩) HLP.out).trans HXP_7.out), ((HB.out.cell (p := ⟨p.block, p.off + 8, none⟩) HLP.out).trans HXP_8.out), ((HB.out.cell (p := ⟨p.block, p.off + 9, none⟩) HLP.out).trans HXP_9.out)⟩ (fun hHeld => ?_); clear hK K; refine norm_ (a' := ?_) ?_ ?_; rotate_left
          ·
           show Act.put _ (some 73) _ = _; simp only [Act.put, List.setIfInBounds_toArray, List.set_cons_zero, List.set_cons_succ, i64_w, i32_w]; rfl
          refine pure_ (i := 16) (N := some 2) (v := ?_) (a' := ?_) #[Y',Y',Y',Y',Y',Y',Y',Y',Y',Y',Y',Y',Y',Y',Y',Y',Y'] rfl rfl (any_of HT_.out (by kernel_rfl)) (fun _ _ _ h => h) (Or.inl ⟨by rfl, ?_⟩) ?_ ?_; rotate_left
          ·
           intro w'
           go_simp
           with_reducible rfl
          rotate_left
          ·
           simp only [Act.put, List.setIfInBounds_toArray, List.set_cons_zero, List.set_cons_succ, i64_w, i32_w]; rfl
          refine done_ (done_of HT_.out (by kernel_rfl)) ?_
          try go_wp2
          go_ret
          exact ⟨_, eq_a, by (with_reducible repeat (first | apply Kd.R_alloc | apply Kd.R_drewN | apply Kd.R_drew)); exact Kd.R_mono HO205.out (fun _ hk => trivial), below_a⟩
         ·
          rw [if_neg c35] at H; exact absurd H (by simp)
        ·
         rw [if_neg c33] at H; exact absurd H (by simp)
       ·
        rw [if_neg c32] at H; exact absurd H (by simp)
      ·
       rw [if_neg c30] at H; exact absurd H (by simp)
     ·
      rw [if_neg c29] at H; have c29b0 : (a0_0 == 4) = false := beq_eq_false_iff_ne.mpr c29; have c29b1 : (a0_0 != 4) = true := bne_iff_ne.mpr c29; obtain ⟨y206, hy206⟩ : ∃ y_ : List Int, y_ = (([(a0_7) % 256, (a0_8) % 256] : List Int)) := ⟨_, rfl⟩; replace H : (if y161.length + y206.length < 140737488355328 then ((some (y161 ++ y206 : List Int)).bind fun y209 => (if y209.length + l0_9.length < 140737488355328 then (some (y209 ++ l0_9)) else (none))) else (none)) = some r := by first | (rw [hy206]; with_reducible exact H) | (have H2_ := (Option.bind_some _ _).symm.trans H; rw [hy206]; with_reducible exact H2_) | (have H2_ := (Option.bind_some _ _).symm.trans H; with_reducible exact H2_) | with_reducible exact H | (rw [hy206]; exact H) | exact H
      have Ny206 := Aside0.mk hy206; clear hy206
      by_cases c52 : y161.length + y206.length < 140737488355328
      ·
       rw [if_pos c52] at H; have LMc52 := Aside0.mk c52; clear c52; obtain ⟨y209, hy209⟩ : ∃ y_ : List Int, y_ = (y161 ++ y206) := ⟨_, rfl⟩; replace H : (if y209.length + l0_9.length < 140737488355328 then (some (y209 ++ l0_9)) else (none)) = some r := by first | (rw [hy209]; with_reducible exact H) | (have H2_ := (Option.bind_some _ _).symm.trans H; rw [hy209]; with_reducible exact H2_) | (have H2_ := (Option.bind_some _ _).symm.trans H; with_reducible exact H2_) | with_reducible exact H | (rw [hy209]; exact H) | exact H
       have Ny209 := Aside0.mk hy209; clear hy209
       by_cases c53 : y209.length + l0_9.length < 140737488355328
       ·
        rw [if_pos c53] at H; have LMc53 := Aside0.mk c53; clear c53; obtain ⟨y212, hy212⟩ : ∃ y_ : List Int, y_ = (y209 ++ l0_9) := ⟨_, rfl⟩; replace H : (some y212) = some r := by first | (rw [hy212]; with_reducible exact H) | (have H2_ := (Option.bind_some _ _).symm.trans H; rw [hy212]; with_reducible exact H2_) | (have H2_ := (Option.bind_some _ _).symm.trans H; with_reducible exact H2_) | with_reducible exact H | (rw [hy212]; exact H) | exact H
        have Ny212 := Aside0.mk hy212; clear hy212; obtain rfl := Option.some.inj H
        try go_wp2
        replace HO_3 := Aside0.mk (Kd.R_drew HO_3.out); replace HB := Aside0.mk (below_drew1 HB.out); refine start_ (n := 21) (S := fun w' => w'.cell? p = some (.int .i64 a0_0) ∧ w'.cell? ⟨p.block, p.off + 1, none⟩ = some (.int .i64 a0_1) ∧ w'.cell? ⟨p.block, p.off + 2, none⟩ = some (.int .i64 a0_2) ∧ w'.cell? ⟨p.block, p.off + 3, none⟩ = some (.int .i64 a0_3) ∧ w'.cell? ⟨p.block, p.off + 4, none⟩ = some (.int .i64 a0_4) ∧ w'.cell? ⟨p.block, p.off + 5, none⟩ = some (.int .i64 a0_5) ∧ w'.cell? ⟨p.block, p.off + 6, none⟩ = some (.int .i64 a0_6) ∧ w'.cell? ⟨p.block, p.off + 7, none⟩ = some (.int .i64 a0_7) ∧ w'.cell? ⟨p.block, p.off + 8, none⟩ = some (.int .i64 a0_8) ∧ w'.cell? ⟨p.block, p.off + 9, none⟩ = some (.slice A0_9 l0_9.length c0_9)) (ds := []) #[Z',Z',Z',Z',Z',Z',Z',Z',Z',Z',Z',Z',Z',Z',Z',Z',Z',Z',Z',Z',Z'] (by kernel_rfl) rfl rfl ⟨((HB.out.cell (p := p) HLP.out).trans HXP_0.out), ((HB.out.cell (p := ⟨p.block, p.off + 1, none⟩) HLP.out).trans HXP_1.out), ((HB.out.cell (p := ⟨p.block, p.off + 2, none⟩) HLP.out).trans HXP_2.out), ((HB.out.cell (p := ⟨p.block, p.off + 3, none⟩) HLP.out).trans HXP_3.out), ((HB.out.cell (p := ⟨p.block, p.off + 4, none⟩) HLP.out).trans HXP_4.out), ((HB.out.cell (p := ⟨p.block, p.off + 5, none⟩) HLP.out).trans HXP_5.out), ((HB.out.cell (p := ⟨p.block, p.off + 6, none⟩) HLP.out).trans HXP_6.out), ((HB.out.cell (p := ⟨p.block, p.off + 7, none⟩) HLP.out).trans HXP_7.out), ((HB.out.cell (p := ⟨p.block, p.off + 8, none⟩) HLP.out).trans HXP_8.out), ((HB.out.cell (p := ⟨p.block, p.off + 9, none⟩) HLP.out).trans HXP_9.out)⟩ (fun hHeld => ?_); refine with_tabW spec_l7Encode.tab11 spec_l7Encode.bits11 (fun HT_ HW_ => ?_); generalize wc.drew = w54 at HO_3 HB hHeld ⊢; refine pure_ (i := 0) (N := some 74) (v := ?_) (a' := ?_) #[Y',Z',Z',Z',Z',Z',Z',Z',Z',Z',Z',Z',Z',Z',Z',Z',Z',Z',Z',Z',Z'] rfl rfl (any_of HT_.out (by kernel_rfl)) (fun _ _ _ h => h) (Or.inl ⟨by rfl, ?_⟩) ?_ ?_; rotate_left
        ·
         intro w'
         go_simp
         with_reducible rfl
        rotate_left
        ·
         simp only [Act.put, List.setIfInBounds_toArray, List.set_cons_zero, List.set_cons_succ, i64_w, i32_w]; rfl
        refine pure_ (i := 1) (N := some 75) (v := ?_) (a' := ?_) #[Y',Y',Z',Z',Z',Z',Z',Z',Z',Z',Z',Z',Z',Z',Z',Z',Z',Z',Z',Z',Z'] rfl rfl (any_of HT_.out (by kernel_rfl)) (fun _ _ _ h => h) (Or.inl ⟨by rfl, ?_⟩) ?_ ?_; rotate_left
        ·
         intro w'
         go_simp
         with_reducible rfl
        rotate_left
        ·
         simp only [Act.put, List.setIfInBounds_toArray, List.set_cons_zero, List.set_cons_succ, i64_w, i32_w]; rfl
        refine pure_ (i := 2) (N := some 76) (v := ?_) (a' := ?_) #[Y',Y',Y',Z',Z',Z',Z',Z',Z',Z',Z',Z',Z',Z',Z',Z',Z',Z',Z',Z',Z'] rfl rfl (any_of HT_.out (by kernel_rfl)) (fun _ _ _ h => h) (Or.inl ⟨by rfl, ?_⟩) ?_ ?_; rotate_left
        ·
         intro w'
         go_simp
         with_reducible rfl
        rotate_left
        ·
         simp only [Act.put, List.setIfInBounds_toArray, List.set_cons_zero, List.set_cons_succ, i64_w, i32_w]; rfl
        refine pure_ (i := 3) (N := some 77) (v := ?_) (a' := ?_) #[Y',Y',Y',Y',Z',Z',Z',Z',Z',Z',Z',Z',Z',Z',Z',Z',Z',Z',Z',Z',Z'] rfl rfl (any_of HT_.out (by kernel_rfl)) (fun _ _ _ h => h) (Or.inl ⟨by rfl, ?_⟩) ?_ ?_; rotate_left
        ·
         intro w'
         go_simp
         with_reducible rfl
        rotate_left
        ·
         simp only [Act.put, List.setIfInBounds_toArray, List.set_cons_zero, List.set_cons_succ, i64_w, i32_w]; rfl
        refine pure_ (i := 6) (N := some 80) (v := ?_) (a' := ?_) #[Y',Y',Y',Y',Z',Z',Y',Z',Z',Z',Z',Z',Z',Z',Z',Z',Z',Z',Z',Z',Z'] rfl rfl (any_of HT_.out (by kernel_rfl)) (fun _ _ _ h => h) (Or.inl ⟨by rfl, ?_⟩) ?_ ?_; rotate_left
        ·
         intro w'
         go_simp
         with_reducible rfl
        rotate_left
        ·
         simp only [Act.put, List.setIfInBounds_toArray, List.set_cons_zero, List.set_cons_succ, i64_w, i32_w]; rfl
        refine pure_ (i := 7) (N := some 81) (v := ?_) (a' := ?_) #[Y',Y',Y',Y',Z',Z',Y',Y',Z',Z',Z',Z',Z',Z',Z',Z',Z',Z',Z',Z',Z'] rfl rfl (any_of HT_.out (by kernel_rfl)) (fun _ _ _ h => h) (Or.inl ⟨by rfl, ?_⟩) ?_ ?_; rotate_left
        ·
         intro w'
         go_simp
         with_reducible rfl
        rotate_left
        ·
         simp only [Act.put, List.setIfInBounds_toArray, List.set_cons_zero, List.set_cons_succ, i64_w, i32_w]; rfl
        refine pure_ (i := 8) (N := some 82) (v := ?_) (a' := ?_) #[Y',Y',Y',Y',Z',Z',Y',Y',Y',Z',Z',Z',Z',Z',Z',Z',Z',Z',Z',Z',Z'] rfl rfl (any_of HT_.out (by kernel_rfl)) (fun _ _ _ h => h) (Or.inl ⟨by rfl, ?_⟩) ?_ ?_; rotate_left
        ·
         intro w'
         go_simp
         with_reducible rfl
        rotate_left
        ·
         simp only [Act.put, List.setIfInBounds_toArray, List.set_cons_zero, List.set_cons_succ, i64_w, i32_w]; rfl
        refine pure_ (i := 9) (N := some 83) (v := ?_) (a' := ?_) #[Y',Y',Y',Y',Z',Z',Y',Y',Y',Y',Z',Z',Z',Z',Z',Z',Z',Z',Z',Z',Z'] rfl rfl (any_of HT_.out (by kernel_rfl)) (fun _ _ _ h => h) (Or.inl ⟨by rfl, ?_⟩) ?_ ?_; rotate_left
        ·
         intro w'
         go_simp
         with_reducible rfl
        rotate_left
        ·
         simp only [Act.put, List.setIfInBounds_toArray, List.set_cons_zero, List.set_cons_succ, i64_w, i32_w]; rfl
        refine pure_ (i := 14) (N := some 88) (v := ?_) (a' := ?_) #[Y',Y',Y',Y',Z',Z',Y',Y',Y',Y',Z',Z',Z',Z',Y',Z',Z',Z',Z',Z',Z'] rfl rfl (any_of HT_.out (by kernel_rfl)) (fun _ _ _ h => h) (Or.inl ⟨by rfl, ?_⟩) ?_ ?_; rotate_left
        ·
         intro w'
         go_simp
         with_reducible rfl
        rotate_left
        ·
         simp only [Act.put, List.setIfInBounds_toArray, List.set_cons_zero, List.set_cons_succ, i64_w, i32_w]; rfl
        refine pure_ (i := 15) (N := some 89) (v := ?_) (a' := ?_) #[Y',Y',Y',Y',Z',Z',Y',Y',Y',Y',Z',Z',Z',Z',Y',Y',Z',Z',Z',Z',Z'] rfl rfl (any_of HT_.out (by kernel_rfl)) (fun _ _ _ h => h) (Or.inl ⟨by rfl, ?_⟩) ?_ ?_; rotate_left
        ·
         intro w'
         go_simp
         with_reducible rfl
        rotate_left
        ·
         simp only [Act.put, List.setIfInBounds_toArray, List.set_cons_zero, List.set_cons_succ, i64_w, i32_w]; rfl
        refine pure_ (i := 16) (N := some 90) (v := ?_) (a' := ?_) #[Y',Y',Y',Y',Z',Z',Y',Y',Y',Y',Z',Z',Z',Z',Y',Y',Y',Z',Z',Z',Z'] rfl rfl (any_of HT_.out (by kernel_rfl)) (fun _ _ _ h => h) (Or.inl ⟨by rfl, ?_⟩) ?_ ?_; rotate_left
        ·
         intro w'
         go_simp
         with_reducible rfl
        rotate_left
        ·
         simp only [Act.put, List.setIfInBounds_toArray, List.set_cons_zero, List.set_cons_succ, i64_w, i32_w]; rfl
        refine pure_ (i := 17) (N := some 91) (v := ?_) (a' := ?_) #[Y',Y',Y',Y',Z',Z',Y',Y',Y',Y',Z',Z',Z',Z',Y',Y',Y',Y',Z',Z',Z'] rfl rfl (any_of HT_.out (by kernel_rfl)) (fun _ _ _ h => h) (Or.inl ⟨by rfl, ?_⟩) ?_ ?_; rotate_left
        ·
         intro w'
         go_simp
         with_reducible rfl
        rotate_left
        ·
         simp only [Act.put, List.setIfInBounds_toArray, List.set_cons_zero, List.set_cons_succ, i64_w, i32_w]; rfl
        refine take_ (i := 4) (N := some 78) (v := ?_) (a' := ?_) #[Y',Y',Y',Y',Y',Z',Y',Y',Y',Y',Z',Z',Z',Z',Y',Y',Y',Y',Z',Z',Z'] rfl rfl (take_ofW HT_.out HW_.out (by kernel_rfl)) (fun _ _ _ h => h) (Or.inl ⟨by rfl, ?_⟩) hHeld ?_ ?_; rotate_left
        ·
         rintro w' ⟨s0, s1, s2, s3, s4, s5, s6, s7, s8, s9⟩
         go_simp
         with_reducible rfl
        rotate_left
        ·
         simp only [Act.put, List.setIfInBounds_toArray, List.set_cons_zero, List.set_cons_succ, i64_w, i32_w]; rfl
        refine pure_ (i := 5) (N := some 79) (v := ?_) (a' := ?_) #[Y',Y',Y',Y',Y',Y',Y',Y',Y',Y',Z',Z',Z',Z',Y',Y',Y',Y',Z',Z',Z'] rfl rfl (any_of HT_.out (by kernel_rfl)) (fun _ _ _ h => h) (Or.inl ⟨by rfl, ?_⟩) ?_ ?_; rotate_left
        ·
         intro w'
         go_simp
         with_reducible rfl
        rotate_left
        ·
         simp only [Act.put, List.setIfInBounds_toArray, List.set_cons_zero, List.set_cons_succ, i64_w, i32_w]; rfl
        refine take_ (i := 10) (N := some 84) (v := ?_) (a' := ?_) #[Y',Y',Y',Y',Y',Y',Y',Y',Y',Y',Y',Z',Z',Z',Y',Y',Y',Y',Z',Z',Z'] rfl rfl (take_ofW HT_.out HW_.out (by kernel_rfl)) (fun _ _ _ h => h) (Or.inl ⟨by rfl, ?_⟩) hHeld ?_ ?_; rotate_left
        ·
         rintro w' ⟨s0, s1, s2, s3, s4, s5, s6, s7, s8, s9⟩
         go_simp
         with_reducible rfl
        rotate_left
        ·
         simp only [Act.put, List.setIfInBounds_toArray, List.set_cons_zero, List.set_cons_succ, i64_w, i32_w]; rfl
        refine pure_ (i := 11) (N := some 85) (v := ?_) (a' := ?_) #[Y',Y',Y',Y',Y',Y',Y',Y',Y',Y',Y',Y',Z',Z',Y',Y',Y',Y',Z',Z',Z'] rfl rfl (any_of HT_.out (by kernel_rfl)) (fun _ _ _ h => h) (Or.inl ⟨by rfl, ?_⟩) ?_ ?_; rotate_left
        ·
         intro w'
         go_simp
         with_reducible rfl
        rotate_left
        ·
         simp only [Act.put, List.setIfInBounds_toArray, List.set_cons_zero, List.set_cons_succ, i64_w, i32_w]; rfl
        refine take_ (i := 18) (N := some 92) (v := ?_) (a' := ?_) #[Y',Y',Y',Y',Y',Y',Y',Y',Y',Y',Y',Y',Z',Z',Y',Y',Y',Y',Y',Z',Z'] rfl rfl (take_ofW HT_.out HW_.out (by kernel_rfl)) (fun _ _ _ h => h) (Or.inl ⟨by rfl, ?_⟩) hHeld ?_ ?_; rotate_left
        ·
         rintro w' ⟨s0, s1, s2, s3, s4, s5, s6, s7, s8, s9⟩
         go_simp
         with_reducible rfl
        rotate_left
        ·
         simp only [Act.put, List.setIfInBounds_toArray, List.set_cons_zero, List.set_cons_succ, i64_w, i32_w]; rfl
        refine one_ (i := 12) (N := some 86) #[Y',Y',Y',Y',Y',Y',Y',Y',Y',Y',Y',Y',Y',Z',Y',Y',Y',Y',Y',Z',Z'] rfl rfl (one_of HT_.out (by kernel_rfl)) (by decide) (fun K hK => ?_); refine Kd.R_lit_step (Kd.int .u8) _ 5 ?hg (N := 86) ?hd (xs := ([(a0_7) % 256, (a0_8) % 256] : List Int)) (inner := [.int .u8 ((a0_7) % 256), .int .u8 ((a0_8) % 256)]) (ok := fun _ => True) (okp := fun _ => True) ?hr ?hp (fun _ hk => hk) trivial (Below.refl _ _) (Nat.le_refl _) (by simp) ?_; (case hd => rfl); (case hg => rfl); (case hr => first | (go_simp; done) | (go_simp; rfl)); (case hp => exact (Reps.one (show Kd.M (Kd.int .u8) _ _ _ ((a0_7) % 256) [.int .u8 ((a0_7) % 256)] from rfl) (Reps.one (show Kd.M (Kd.int .u8) _ _ _ ((a0_8) % 256) [.int .u8 ((a0_8) % 256)] from rfl) (Reps.none _ _)))); intro v207 w55 ho56 hb hg_ hnew_; clear hg_ hnew_; (first | rw [← Ny206.out] at ho56 | (simp only [Int.reduceToNat] at ho56; rw [← Ny206.out] at ho56)); have n0_ := Aside0.mk (Kd.R_elder' (R_a HO_3.out) (Kd.R_base ho56) hb); have HO208 := Aside0.mk (Kd.R_lower (Kd.R_new' ho56 (Kd.R_lt (R_a HO_3.out))) (below_size below_a)); replace HB := Aside0.mk (below_step below_a hb); replace HO_3 := n0_; clear n0_ hb ho56; obtain ⟨Ao58, co58, eo58⟩ := Kd.R_slice HO208.out; (first | subst eo58 | (injection eo58 with f1_ f2_ f3_; have f4_ := f1_.symm; have f5_ := f3_.symm; clear f1_ f2_ f3_; subst f4_; subst f5_)); refine hK.out _ _ ⟨((HB.out.cell (p := p) HLP.out).trans HXP_0.out), ((HB.out.cell (p := ⟨p.block, p.off + 1, none⟩) HLP.out).trans HXP_1.out), ((HB.out.cell (p := ⟨p.block, p.off + 2, none⟩) HLP.out).trans HXP_2.out), ((HB.out.cell (p := ⟨p.block, p.off + 3, none⟩) HLP.out).trans HXP_3.out), ((HB.out.cell (p := ⟨p.block, p.off + 4, none⟩) HLP.out).trans HXP_4.out), ((HB.out.cell (p := ⟨p.block, p.off + 5, none⟩) HLP.out).trans HXP_5.out), ((HB.out.cell (p := ⟨p.block, p.off + 6, none⟩) HLP.out).trans HXP_6.out), ((HB.out.cell (p := ⟨p.block, p.off + 7, none⟩) HLP.out).trans HXP_7.out), ((HB.out.cell (p := ⟨p.block, p.off + 8, none⟩) HLP.out).trans HXP_8.out), ((HB.out.cell (p := ⟨p.block, p.off + 9, none⟩) HLP.out).trans HXP_9.out)⟩ (fun hHeld => ?_); clear hK K; refine norm_ (a' := ?_) ?_ ?_; rotate_left
        ·
         show Act.put _ (some 86) _ = _; simp only [Act.put, List.setIfInBounds_toArray, List.set_cons_zero, List.set_cons_succ, i64_w, i32_w]; rfl
        refine one_ (i := 13) (N := some 87) #[Y',Y',Y',Y',Y',Y',Y',Y',Y',Y',Y',Y',Y',Y',Y',Y',Y',Y',Y',Z',Z'] rfl rfl (one_of HT_.out (by kernel_rfl)) (by decide) (fun K hK => ?_); refine Kd.R_append_rows_step (Kd.int .u8) (w0 := w) w.heap.size (by rfl) (.tmp 74) (.tmp 86) 30 5 (.int .u8 0) 1 rfl Try.underlying30 info5 rfl (by decide) (by omega) v162 y161 y206 _ _ _ (fun k_ => some k_ ≠ (.slice Ao58 y206.length co58 : Value).ownBlock) (fun _ => False) rfl rfl ?aO ?aR (fun _ _ h => h) (fun _ h => h.elim) ?aF ?aB ?aS ?aL ?_; (case aR => repeat (first | exact (Kd.R_reads' HO208.out).2.2 | (with_reducible refine Kd.C_alloc ?_ _) | (with_reducible refine Kd.C_drewN ?_ _) | (with_reducible refine Kd.C_drew ?_))); (case aB => exact below_a); (case aF => exact (fun k_ hk => Kd.fresh' (Kd.R_lt (R_a HO208.out)) k_ hk)); (case aO => exact (by (with_reducible repeat (first | apply Kd.R_alloc | apply Kd.R_drewN | apply Kd.R_drew)); exact Kd.R_mono HO_3.out (fun _ hk => hk.2))); (case aS => exact (below_size below_a)); (case aL => have := LMc52.out; omega); intro v210 w57 ho hb hg hat; rw [← Ny209.out] at ho; replace HO208 := Aside0.mk (Kd.R_after (ok := (fun _ => True)) (R_a HO208.out) hg hat); replace HB := Aside0.mk (hb); have HO211 := Aside0.mk (ho); clear HO_3 ho hb hg hat; refine hK.out _ _ ⟨((HB.out.cell (p := p) HLP.out).trans HXP_0.out), ((HB.out.cell (p := ⟨p.block, p.off + 1, none⟩) HLP.out).trans HXP_1.out), ((HB.out.cell (p := ⟨p.block, p.off + 2, none⟩) HLP.out).trans HXP_2.out), ((HB.out.cell (p := ⟨p.block, p.off + 3, none⟩) HLP.out).trans HXP_3.out), ((HB.out.cell (p := ⟨p.block, p.off + 4, none⟩) HLP.out).trans HXP_4.out), ((HB.out.cell (p := ⟨p.block, p.off + 5, none⟩) HLP.out).trans HXP_5.out), ((HB.out.cell (p := ⟨p.block, p.off + 6, none⟩) HLP.out).trans HXP_6.out), ((HB.out.cell (p := ⟨p.block, p.off + 7, none⟩) HLP.out).trans HXP_7.out), ((HB.out.cell (p := ⟨p.block, p.off + 8, none⟩) HLP.out).trans HXP_8.out), ((HB.out.cell (p := ⟨p.block, p.off + 9, none⟩) HLP.out).trans HXP_9.out)⟩ (fun hHeld => ?_); clear hK K; refine norm_ (a' := ?_) ?_ ?_; rotate_left
        ·
         show Act.put _ (some 87) _ = _; simp only [Act.put, List.setIfInBounds_toArray, List.set_cons_zero, List.set_cons_succ, i64_w, i32_w]; rfl
        refine one_ (i := 19) (N := some 93) #[Y',Y',Y',Y',Y',Y',Y',Y',Y',Y',Y',Y',Y',Y',Y',Y',Y',Y',Y',Y',Z'] rfl rfl (one_of HT_.out (by kernel_rfl)) (by decide) (fun K hK => ?_); refine Kd.R_append_rows_step (Kd.int .u8) (w0 := w) w.heap.size (by rfl) (.tmp 87) (.tmp 92) 30 5 (.int .u8 0) 1 rfl Try.underlying30 info5 rfl (by decide) (by omega) v210 y209 l0_9 _ _ _ (fun k_ => some k_ ≠ (.slice Ao58 y206.length co58 : Value).ownBlock) (fun _ => False) rfl rfl ?aO ?aR (fun _ _ h => h) (fun _ h => h.elim) ?aF ?aB ?aS ?aL ?_; (case aR => repeat (first | exact (Kd.C_below HR0_9.out HB.out) | (with_reducible refine Kd.C_alloc ?_ _) | (with_reducible refine Kd.C_drewN ?_ _) | (with_reducible refine Kd.C_drew ?_))); (case aB => exact below_a); (case aF => exact (fun k_ hk => Kd.fresh' (Kd.R_lt (R_a HO208.out)) k_ hk)); (case aO => exact (R_a HO211.out)); (case aS => exact (below_size below_a)); (case aL => have := LMc53.out; omega); intro v213 w59 ho hb hg hat; rw [← Ny212.out] at ho; replace HO208 := Aside0.mk (Kd.R_after (ok := (fun _ => True)) (R_a HO208.out) hg hat); replace HB := Aside0.mk (hb); have HO214 := Aside0.mk (ho); clear HO211 ho hb hg hat; refine hK.out _ _ ⟨((HB.out.cell (p := p) HLP.out).trans HXP_0.out), ((HB.out.cell (p := ⟨p.block, p.off + 1, none⟩) HLP.out).trans HXP_1.out), ((HB.out.cell (p := ⟨p.block, p.off + 2, none⟩) HLP.out).trans HXP_2.out), ((HB.out.cell (p := ⟨p.block, p.off + 3, none⟩) HLP.out).trans HXP_3.out), ((HB.out.cell (p := ⟨p.block, p.off + 4, none⟩) HLP.out).trans HXP_4.out), ((HB.out.cell (p := ⟨p.block, p.off + 5, none⟩) HLP.out).trans HXP_5.out), ((HB.out.cell (p := ⟨p.block, p.off + 6, none⟩) HLP.out).trans HXP_6.out), ((HB.out.cell (p := ⟨p.block, p.off + 7, none⟩) HLP.out).trans HXP_7.out), ((HB.out.cell (p := ⟨p.block, p.off + 8, none⟩) HLP.out).trans HXP_8.out), ((HB.out.cell (p := ⟨p.block, p.off + 9, none⟩) HLP.out).trans HXP_9.out)⟩ (fun hHeld => ?_); clear hK K; refine norm_ (a' := ?_) ?_ ?_; rotate_left
        ·
         show Act.put _ (some 93) _ = _; simp only [Act.put, List.setIfInBounds_toArray, List.set_cons_zero, List.set_cons_succ, i64_w, i32_w]; rfl
        refine pure_ (i := 20) (N := some 2) (v := ?_) (a' := ?_) #[Y',Y',Y',Y',Y',Y',Y',Y',Y',Y',Y',Y',Y',Y',Y',Y',Y',Y',Y',Y',Y'] rfl rfl (any_of HT_.out (by kernel_rfl)) (fun _ _ _ h => h) (Or.inl ⟨by rfl, ?_⟩) ?_ ?_; rotate_left
        ·
         intro w'
         go_simp
         with_reducible rfl
        rotate_left
        ·
         simp only [Act.put, List.setIfInBounds_toArray, List.set_cons_zero, List.set_cons_succ, i64_w, i32_w]; rfl
        refine done_ (done_of HT_.out (by kernel_rfl)) ?_
        try go_wp2
        go_ret
        exact ⟨_, eq_a, by (with_reducible repeat (first | apply Kd.R_alloc | apply Kd.R_drewN | apply Kd.R_drew)); exact Kd.R_mono HO214.out (fun _ hk => trivial), below_a⟩
       ·
        rw [if_neg c53] at H; exact absurd H (by simp)
      ·
       rw [if_neg c52] at H; exact absurd H (by simp)

/-! ### spec_EncodeMessage: function 18 -/
def spec_EncodeMessage.f (k : Nat) (a0_0 : Int) (a0_1 : Int) (a0_2 : Int) (a0_3 : Int) (a0_4 : Int) (a0_5 : Int) (a0_6 : Int) (a0_7 : Int) (a0_8 : Int) (l0_9 : List Int) : Option (Int × List Int) := (spec_MessageFault.f k a0_0 a0_1 a0_2 a0_3 a0_4 a0_5 a0_6 a0_7 a0_8 l0_9).bind fun t217 => (if t217 = 0 then ((spec_l7Encode.f k a0_0 a0_1 a0_2 a0_3 a0_4 a0_5 a0_6 a0_7 a0_8 l0_9).bind fun t218 => (some (0, t218))) else (some (t217, ([] : List Int))))
theorem spec_EncodeMessage.mono : ∀ a0 a1 a2 a3 a4 a5 a6 a7 a8 a9 k, LeO (spec_EncodeMessage.f k a0 a1 a2 a3 a4 a5 a6 a7 a8 a9) (spec_EncodeMessage.f (k + 1) a0 a1 a2 a3 a4 a5 a6 a7 a8 a9) := by
 intro a0 a1 a2 a3 a4 a5 a6 a7 a8 a9 k
 unfold spec_EncodeMessage.f
 repeat' first
   | (with_reducible exact spec_MessageFault.mono _ _ _ _ _ _ _ _ _ _ _)
   | (with_reducible exact spec_l7Encode.mono _ _ _ _ _ _ _ _ _ _ _)
   | (with_reducible exact LeO.refl _)
   | (with_reducible exact LeO.none _)
   | (with_reducible refine LeO.ite ?_ ?_)
   | (with_reducible refine LeO.bind ?_ (fun _ => ?_))
   | exact spec_MessageFault.mono _ _ _ _ _ _ _ _ _ _ _
   | exact spec_l7Encode.mono _ _ _ _ _ _ _ _ _ _ _
   | exact LeO.none _
   | refine LeO.ite ?_ ?_
   | refine LeO.bind ?_ (fun _ => ?_)
set_option maxHeartbeats 8000000 in
set_option maxRecDepth 100000 in
theorem spec_EncodeMessage.calls (k : Nat) (a0_0 : Int) (a0_1 : Int) (a0_2 : Int) (a0_3 : Int) (a0_4 : Int) (a0_5 : Int) (a0_6 : Int) (a0_7 : Int) (a0_8 : Int) (A0_9 : Option Addr) (c0_9 : Nat) (l0_9 : List Int) (r1 : Int) (r2 : List Int) (w : World) (hr0_9 : Kd.C (Kd.int .u8) w A0_9 l0_9.length l0_9) (hc0_9 : l0_9.length ≤ c0_9) (h : spec_EncodeMessage.f k a0_0 a0_1 a0_2 a0_3 a0_4 a0_5 a0_6 a0_7 a0_8 l0_9 = some (r1, r2)) :
  Calls Try.prog 18 #[.agg #[.int .i64 a0_0, .int .i64 a0_1, .int .i64 a0_2, .int .i64 a0_3, .int .i64 a0_4, .int .i64 a0_5, .int .i64 a0_6, .int .i64 a0_7, .int .i64 a0_8, .slice A0_9 l0_9.length c0_9]] w fun e w' => ∃ v1_ : Value, e = .returned (.agg #[.int .i64 r1, v1_]) ∧ Kd.R (Kd.int .u8) 5 w' w.heap.size (fun _ => True) v1_ r2 ∧ Below w.heap.size w w' := by
 have hu40 := Try.underlying40
 have hu45 := Try.underlying45
 have HR0_9 := Aside0.mk hr0_9
 have HC0_9 := Aside0.mk hc0_9
 clear hr0_9 hc0_9
 have HB := Aside0.mk (Below.refl w.heap.size w)
 have H : ((spec_MessageFault.f k a0_0 a0_1 a0_2 a0_3 a0_4 a0_5 a0_6 a0_7 a0_8 l0_9).bind fun t217 => (if t217 = 0 then ((spec_l7Encode.f k a0_0 a0_1 a0_2 a0_3 a0_4 a0_5 a0_6 a0_7 a0_8 l0_9).bind fun t218 => (some (0, t218))) else (some (t217, ([] : List Int))))) = some (r1, r2) := h
 clear h
 replace H := Option.bind_eq_some_iff.mp H
 obtain ⟨t217, A20, H⟩ := H
 replace H : (if t217 = 0 then ((spec_l7Encode.f k a0_0 a0_1 a0_2 a0_3 a0_4 a0_5 a0_6 a0_7 a0_8 l0_9).bind fun t218 => (some (0, t218))) else (some (t217, ([] : List Int)))) = some (r1, r2) := H
 have A2 := Aside0.mk A20
 clear A20
 by_cases c3 : t217 = 0
 ·
  rw [if_pos c3] at H; have c3b0 : (t217 == 0) = true := beq_iff_eq.mpr c3; have c3b1 : (t217 != 0) = false := bne_eq_false_iff_eq.mpr c3; clear c3; replace H := Option.bind_eq_some_iff.mp H; obtain ⟨t218, A40, H⟩ := H; replace H : (some (0, t218)) = some (r1, r2) := H; have A4 := Aside0.mk A40; clear A40; simp only [Option.some.injEq, Prod.mk.injEq] at H; obtain ⟨rfl, rfl⟩ := H
  go_enter Try.func18, Try.ntmps18
  go_wp2_with (first | ((with_reducible refine gate_dst (N := 1) rfl ?_); refine box_event ?hg (N := 1) ?hd (cs := #[.int .i64 a0_0, .int .i64 a0_1, .int .i64 a0_2, .int .i64 a0_3, .int .i64 a0_4, .int .i64 a0_5, .int .i64 a0_6, .int .i64 a0_7, .int .i64 a0_8, .slice A0_9 l0_9.length c0_9]) (t := 40) ?hr ?_; (case hd => rfl); (case hg => rfl); (case hr => first | (go_simp; done) | (go_simp; rfl)); intro gb215 hg w5 hbox hb; have n0_ := Aside0.mk (below_step below_a hb); have BK215 := Aside0.mk (hbox); have GW215 := Aside0.mk (bsz_ (w := w) hg); have GE215 := Aside0.mk (bsz_ (w := w) hg); replace HB := n0_; clear n0_; clear hb hbox hg) | ((with_reducible refine gate_dst (N := 2) rfl ?_); refine box_event ?hg (N := 2) ?hd (cs := #[.int .i64 0, .slice none 0 0]) (t := 45) ?hr ?_; (case hd => rfl); (case hg => rfl); (case hr => first | (go_simp; done) | (go_simp; rfl)); intro gb216 hg w6 hbox hb; have n0_ := Aside0.mk (blk_below (g := gb215) blk_c hb); have n1_ := Aside0.mk (below_step below_a hb); have BK216 := Aside0.mk (hbox); have GW216 := Aside0.mk (bsz_ (w := w) hg); have GE216 := Aside0.mk (bsz_ (w := w) hg); have NB215_216 := Aside0.mk (bne_ (g := gb215) hg); have NB216_215 := Aside0.mk (bne_ (g := gb215) hg).symm; replace BK215 := n0_; replace HB := n1_; clear n0_ n1_; clear hb hbox hg; have hnb7 := NB215_216.out; have hnc7 := NB216_215.out; have hcz8_0 : w6.cell? ⟨gb215, 0, none⟩ = some (.int .i64 a0_0) := (blk_cell BK215.out 0).trans rfl; have hcz8_1 : w6.cell? ⟨gb215, 1, none⟩ = some (.int .i64 a0_1) := (blk_cell BK215.out 1).trans rfl; have hcz8_2 : w6.cell? ⟨gb215, 2, none⟩ = some (.int .i64 a0_2) := (blk_cell BK215.out 2).trans rfl; have hcz8_3 : w6.cell? ⟨gb215, 3, none⟩ = some (.int .i64 a0_3) := (blk_cell BK215.out 3).trans rfl; have hcz8_4 : w6.cell? ⟨gb215, 4, none⟩ = some (.int .i64 a0_4) := (blk_cell BK215.out 4).trans rfl; have hcz8_5 : w6.cell? ⟨gb215, 5, none⟩ = some (.int .i64 a0_5) := (blk_cell BK215.out 5).trans rfl; have hcz8_6 : w6.cell? ⟨gb215, 6, none⟩ = some (.int .i64 a0_6) := (blk_cell BK215.out 6).trans rfl; have hcz8_7 : w6.cell? ⟨gb215, 7, none⟩ = some (.int .i64 a0_7) := (blk_cell BK215.out 7).trans rfl; have hcz8_8 : w6.cell? ⟨gb215, 8, none⟩ = some (.int .i64 a0_8) := (blk_cell BK215.out 8).trans rfl; have hcz8_9 : w6.cell? ⟨gb215, 9, none⟩ = some (.slice A0_9 l0_9.length c0_9) := (blk_cell BK215.out 9).trans rfl; have hfz8_0 := blk_frozen BK215.out 0; have hfz8_1 := blk_frozen BK215.out 1; have hfz8_2 := blk_frozen BK215.out 2; have hfz8_3 := blk_frozen BK215.out 3; have hfz8_4 := blk_frozen BK215.out 4; have hfz8_5 := blk_frozen BK215.out 5; have hfz8_6 := blk_frozen BK215.out 6; have hfz8_7 := blk_frozen BK215.out 7; have hfz8_8 := blk_frozen BK215.out 8; have hfz8_9 := blk_frozen BK215.out 9) | ((with_reducible refine gate_callee (f := 14) rfl ?_); refine goesL_ (some 5) rfl rfl Try.func14 (by kernel_rfl) rfl #[.agg #[.int .i64 a0_0, .int .i64 a0_1, .int .i64 a0_2, .int .i64 a0_3, .int .i64 a0_4, .int .i64 a0_5, .int .i64 a0_6, .int .i64 a0_7, .int .i64 a0_8, .slice A0_9 l0_9.length c0_9]] rfl args_a ?_; (with_reducible refine (spec_MessageFault.calls k a0_0 a0_1 a0_2 a0_3 a0_4 a0_5 a0_6 a0_7 a0_8 _ _ l0_9 t217 _ ?side1 ?side2 A2.out).mono ?_); (case side1 => repeat (first | exact (Kd.C_below HR0_9.out HB.out) | (with_reducible refine Kd.C_alloc ?_ _) | (with_reducible refine Kd.C_drewN ?_ _) | (with_reducible refine Kd.C_drew ?_))); (case side2 => exact HC0_9.out); rintro e w9 ⟨rfl, hb⟩; refine ⟨_, rfl, ?_⟩; replace BK215 := Aside0.mk (blk_below (g := gb215) blk_c hb); replace BK216 := Aside0.mk (blk_below (g := gb216) blk_c hb); replace HB := Aside0.mk (below_step below_a hb); (try clear hb); (try clear hb2); (try clear hk); (try clear hi)) | (go_at_call 52; (with_reducible refine (spec_l7Encode.calls k _ a0_0 a0_1 a0_2 a0_3 a0_4 a0_5 a0_6 a0_7 a0_8 A0_9 c0_9 l0_9 t218 _ ?side1 ?side2 ?side3 ?side4 ?side5 ?side6 ?side7 ?side8 ?side9 ?side10 ?side11 ?side12 A4.out).mono ?_); (case side1 => repeat (first | exact (Kd.C_below HR0_9.out HB.out) | (with_reducible refine Kd.C_alloc ?_ _) | (with_reducible refine Kd.C_drewN ?_ _) | (with_reducible refine Kd.C_drew ?_))); (case side2 => exact HC0_9.out); (case side3 => exact (blk_cell blk_a 0).trans rfl); (case side4 => exact (blk_cell blk_a 1).trans rfl); (case side5 => exact (blk_cell blk_a 2).trans rfl); (case side6 => exact (blk_cell blk_a 3).trans rfl); (case side7 => exact (blk_cell blk_a 4).trans rfl); (case side8 => exact (blk_cell blk_a 5).trans rfl); (case side9 => exact (blk_cell blk_a 6).trans rfl); (case side10 => exact (blk_cell blk_a 7).trans rfl); (case side11 => exact (blk_cell blk_a 8).trans rfl); (case side12 => exact (blk_cell blk_a 9).trans rfl); rintro e w10 ⟨v219, rfl, ho0, hb⟩; have HO220 := Aside0.mk (Kd.R_lower ho0 (below_size below_a)); replace BK215 := Aside0.mk (blk_below (g := gb215) blk_c hb); replace BK216 := Aside0.mk (blk_below (g := gb216) blk_c hb); replace HB := Aside0.mk (below_step below_a hb); (try clear hb); (try clear hb2); (try clear hk); (try clear hi); (try clear ho0); obtain ⟨Ao11, co11, eo11⟩ := Kd.R_slice HO220.out; subst eo11; obtain ⟨hcz12_0, hcz12_1, hfz12_0, hfz12_1⟩ := bc2_ BK216.out))
  refine bodyPost_ret (results_cell_row rfl _ _ gb216 45 #[.int .i64 0, .slice Ao11 t218.length co11] (0, 0) _ rfl blk_a Try.underlying45 rfl (by kernel_rfl)) rfl ?_; exact ⟨_, eq_a, by (with_reducible repeat (first | apply Kd.R_alloc | apply Kd.R_drewN | apply Kd.R_drew)); exact Kd.R_mono (Kd.R_far (p := ⟨gb216, 1, none⟩) (Kd.R_far (p := ⟨gb216, 0, none⟩) (Kd.R_types HO220.out BK216.out (by decide)) (fun _ hk => hk.2) (.int .i64 0)) (fun _ hk => hk.2) (.slice Ao11 t218.length co11)) (fun _ hk => trivial), below_a⟩
 ·
  rw [if_neg c3] at H; have c3b0 : (t217 == 0) = false := beq_eq_false_iff_ne.mpr c3; have c3b1 : (t217 != 0) = true := bne_iff_ne.mpr c3; simp only [Option.some.injEq, Prod.mk.injEq] at H; obtain ⟨rfl, rfl⟩ := H
  go_enter Try.func18, Try.ntmps18
  go_wp2_with (first | ((with_reducible refine gate_dst (N := 1) rfl ?_); refine box_event ?hg (N := 1) ?hd (cs := #[.int .i64 a0_0, .int .i64 a0_1, .int .i64 a0_2, .int .i64 a0_3, .int .i64 a0_4, .int .i64 a0_5, .int .i64 a0_6, .int .i64 a0_7, .int .i64 a0_8, .slice A0_9 l0_9.length c0_9]) (t := 40) ?hr ?_; (case hd => rfl); (case hg => rfl); (case hr => first | (go_simp; done) | (go_simp; rfl)); intro gb215 hg w13 hbox hb; have n0_ := Aside0.mk (below_step below_a hb); have BK215 := Aside0.mk (hbox); have GW215 := Aside0.mk (bsz_ (w := w) hg); have GE215 := Aside0.mk (bsz_ (w := w) hg); replace HB := n0_; clear n0_; clear hb hbox hg) | ((with_reducible refine gate_dst (N := 2) rfl ?_); refine box_event ?hg (N := 2) ?hd (cs := #[.int .i64 0, .slice none 0 0]) (t := 45) ?hr ?_; (case hd => rfl); (case hg => rfl); (case hr => first | (go_simp; done) | (go_simp; rfl)); intro gb216 hg w14 hbox hb; have n0_ := Aside0.mk (blk_below (g := gb215) blk_c hb); have n1_ := Aside0.mk (below_step below_a hb); have BK216 := Aside0.mk (hbox); have GW216 := Aside0.mk (bsz_ (w := w) hg); have GE216 := Aside0.mk (bsz_ (w := w) hg); have NB215_216 := Aside0.mk (bne_ (g := gb215) hg); have NB216_215 := Aside0.mk (bne_ (g := gb215) hg).symm; replace BK215 := n0_; replace HB := n1_; clear n0_ n1_; clear hb hbox hg; have hnb15 := NB215_216.out; have hnc15 := NB216_215.out; have hcz16_0 : w14.cell? ⟨gb215, 0, none⟩ = some (.int .i64 a0_0) := (blk_cell BK215.out 0).trans rfl; have hcz16_1 : w14.cell? ⟨gb215, 1, none⟩ = some (.int .i64 a0_1) := (blk_cell BK215.out 1).trans rfl; have hcz16_2 : w14.cell? ⟨gb215, 2, none⟩ = some (.int .i64 a0_2) := (blk_cell BK215.out 2).trans rfl; have hcz16_3 : w14.cell? ⟨gb215, 3, none⟩ = some (.int .i64 a0_3) := (blk_cell BK215.out 3).trans rfl; have hcz16_4 : w14.cell? ⟨gb215, 4, none⟩ = some (.int .i64 a0_4) := (blk_cell BK215.out 4).trans rfl; have hcz16_5 : w14.cell? ⟨gb215, 5, none⟩ = some (.int .i64 a0_5) := (blk_cell BK215.out 5).trans rfl; have hcz16_6 : w14.cell? ⟨gb215, 6, none⟩ = some (.int .i64 a0_6) := (blk_cell BK215.out 6).trans rfl; have hcz16_7 : w14.cell? ⟨gb215, 7, none⟩ = some (.int .i64 a0_7) := (blk_cell BK215.out 7).trans rfl; have hcz16_8 : w14.cell? ⟨gb215, 8, none⟩ = some (.int .i64 a0_8) := (blk_cell BK215.out 8).trans rfl; have hcz16_9 : w14.cell? ⟨gb215, 9, none⟩ = some (.slice A0_9 l0_9.length c0_9) := (blk_cell BK215.out 9).trans rfl; have hfz16_0 := blk_frozen BK215.out 0; have hfz16_1 := blk_frozen BK215.out 1; have hfz16_2 := blk_frozen BK215.out 2; have hfz16_3 := blk_frozen BK215.out 3; have hfz16_4 := blk_frozen BK215.out 4; have hfz16_5 := blk_frozen BK215.out 5; have hfz16_6 := blk_frozen BK215.out 6; have hfz16_7 := blk_frozen BK215.out 7; have hfz16_8 := blk_frozen BK215.out 8; have hfz16_9 := blk_frozen BK215.out 9) | ((with_reducible refine gate_callee (f := 14) rfl ?_); refine goesL_ (some 5) rfl rfl Try.func14 (by kernel_rfl) rfl #[.agg #[.int .i64 a0_0, .int .i64 a0_1, .int .i64 a0_2, .int .i64 a0_3, .int .i64 a0_4, .int .i64 a0_5, .int .i64 a0_6, .int .i64 a0_7, .int .i64 a0_8, .slice A0_9 l0_9.length c0_9]] rfl args_a ?_; (with_reducible refine (spec_MessageFault.calls k a0_0 a0_1 a0_2 a0_3 a0_4 a0_5 a0_6 a0_7 a0_8 _ _ l0_9 t217 _ ?side1 ?side2 A2.out).mono ?_); (case side1 => repeat (first | exact (Kd.C_below HR0_9.out HB.out) | (with_reducible refine Kd.C_alloc ?_ _) | (with_reducible refine Kd.C_drewN ?_ _) | (with_reducible refine Kd.C_drew ?_))); (case side2 => exact HC0_9.out); rintro e w17 ⟨rfl, hb⟩; refine ⟨_, rfl, ?_⟩; replace BK215 := Aside0.mk (blk_below (g := gb215) blk_c hb); replace BK216 := Aside0.mk (blk_below (g := gb216) blk_c hb); replace HB := Aside0.mk (below_step below_a hb); (try clear hb); (try clear hb2); (try clear hk); (try clear hi); obtain ⟨hcz18_0, hcz18_1, hfz18_0, hfz18_1⟩ := bc2_ BK216.out))
  refine bodyPost_ret (results_cell_row rfl _ _ gb216 45 #[.int .i64 t217, .slice none 0 0] (0, 0) _ rfl blk_a Try.underlying45 rfl (by kernel_rfl)) rfl ?_; exact ⟨_, eq_a, by first | exact Kd.R_nil _ _ _ _ _ | exact Kd.N_nil _ _ _ _ _ | exact Kd.V_nil _ _ _ _ _ | exact Kd.Q_nil _ _ _ _ _ | exact Kd.S_nil _ _ _ _ _, below_a⟩

end Go.Proofs.Ytpjelfgeohklkaa.MFnExactEncodeMessage
