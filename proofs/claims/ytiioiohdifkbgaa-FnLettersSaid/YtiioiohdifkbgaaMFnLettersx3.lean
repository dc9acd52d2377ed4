-- Laid by a program of this session (the kit's print, turned where it falls short; the texts of functions that it does not take are proved by hand).
import Derived.Test.YtiioiohdifkbgaaMFnLettersx2
namespace Go.Proofs.Ytiioiohdifkbgaa.MFnLetters
open Go.RowKit Go.Proofs.YtiioiohdifkbgaaW.PrintWords Go.Proofs.YtiioiohdifkbgaaW.PrintLast Go.Proofs.YtiioiohdifkbgaaW.PrintMore
set_option maxHeartbeats 80000000
set_option maxRecDepth 100000
attribute [local go_sem] max2_int min2_int max_two min_two max_three min_three max_four min_four   -- for this text's walks alone
set_option linter.unusedVariables false
set_option linter.unusedSimpArgs false
attribute [local go_sem] isSome_setCell
def spec_l1Copy.f (l0 : List Int) : Option (List Int) := (some (([] : List Int) : List Int)).bind fun y121 => (if y121.length + l0.length < 140737488355328 then (some (y121 ++ l0)) else (none))
theorem spec_l1Copy.calls (A0 : Option Addr) (c0 : Nat) (l0 : List Int) (r : List Int) (w : World) (Aj : Kd.C (Kd.int .u8) w A0 l0.length l0) (Ak : l0.length ≤ c0) (h : spec_l1Copy.f l0 = some r) :
  Calls Try.prog 63 #[.slice A0 l0.length c0] w fun e w' => ∃ v0_ : Value, e = .returned (v0_) ∧ Kd.R (Kd.int .u8) 5 w' w.heap.size (fun _ => True) v0_ r ∧ Below w.heap.size w w' := by
 have Al := A_ Aj
 have Ao := A_ Ak
 clear Aj Ak
 have HB := A_ (Below.refl w.heap.size w)
 unfold spec_l1Copy.f at h; have H := h; clear h
 obtain ⟨Ac, Aa⟩ : ∃ y_ : List Int, y_ = (([] : List Int)) := ⟨_, rfl⟩
 replace H : (if Ac.length + l0.length < 140737488355328 then (some (Ac ++ l0)) else (none)) = some r := by first | (rw [Aa]; with_reducible exact H) | (have H2_ := os_ H; rw [Aa]; with_reducible exact H2_) | (have H2_ := os_ H; with_reducible exact H2_) | with_reducible exact H | (rw [Aa]; exact H) | exact H
 have Ad := A_ Aa
 clear Aa
 obtain ⟨c2, H⟩ := iq_ H; have LMc2 := A_ c2; clear c2; obtain ⟨Am, Ab⟩ := ey_ (Ac ++ l0 : List Int); (try (with_reducible replace H := os_ H)); (try dsimp only at H); (try rw [← Ab] at H)
 have Af := A_ Ab; clear Ab; obtain rfl := Option.some.inj H
 go_enter Try.func63, Try.ntmps63
 go_wp2_with (first | ((with_reducible refine d1_ 3 ?_); refine Kd.R_lit (Kd.int .u8) _ 5 ?hg (N := 3) ?hd (xs := ([] : List Int)) (inner := []) (ok := fun _ => True) (okp := fun _ => True) ?hr ?hp (fun _ hk => hk) trivial (Below.refl _ _) (Nat.le_refl _) (by simp) ?_; (case hd => rfl); (case hg => rfl); (case hr => go_simp <;> rfl); (case hp => exact (Reps.none _ _)); intro Ai w3 Ag hb hg_ hnew_; clear hg_ hnew_; (first | rw [← Ad.out] at Ag | (simp only [Int.reduceToNat] at Ag; rw [← Ad.out] at Ag)); have Ae := A_ (Kd.R_lower Ag (below_size below_a)); replace HB := bs_ hb; clear hb Ag) | ((with_reducible refine gate_builtin (b := .append) (xs := #[.tmp 3, .tmp 4]) rfl ?_); at_builtin; refine Kd.R_append_rows (Kd.int .u8) (w0 := w) w.heap.size rfl (.tmp 3) (.tmp 4) 25 5 (.int .u8 0) 1 rfl Try.underlying25 info5 rfl (by decide) (by omega) Ai Ac l0 _ _ _ (fun _ => True) (fun _ => False) rfl rfl ?aO ?aR (fun _ _ h => h) (fun _ h => h.elim) ?aF ?aB ?aS ?aL ?_; (case aR => exact ca_ (Kd.C_below Al.out HB.out)); (case aB => exact below_a); (case aF => exact (fun _ _ => trivial)); (case aO => exact (R_a Ae.out)); (case aS => exact (below_size below_a)); (case aL => have := LMc2.out; omega); intro An w5 ho hb hg hat; rw [← Af.out] at ho; replace HB := A_ (hb); have Ah := A_ (ho); clear Ae; clear ho hb hg hat))
 go_ret
 exact ⟨_, eq_a, R_a Ah.out, below_a⟩
def spec_l3First.f (l0 : List Int) : Option (List Int) := (spec_l1Copy.f l0).bind fun t127 => ((some (([0, 0, 0, 1] : List Int) : List Int)).bind fun y130 => (if t127.length + y130.length < 140737488355328 then (some (t127 ++ y130)) else (none)))
theorem spec_l3First.calls (A0 : Option Addr) (c0 : Nat) (l0 : List Int) (r : List Int) (w : World) (Al : Kd.C (Kd.int .u8) w A0 l0.length l0) (Am : l0.length ≤ c0) (h : spec_l3First.f l0 = some r) :
  Calls Try.prog 78 #[.slice A0 l0.length c0] w fun e w' => ∃ v0_ : Value, e = .returned (v0_) ∧ Kd.R (Kd.int .u8) 5 w' w.heap.size (fun _ => True) v0_ r ∧ Below w.heap.size w w' := by
 have Ap := A_ Al
 have Aq := A_ Am
 clear Al Am
 have HB := A_ (Below.refl w.heap.size w)
 unfold spec_l3First.f at h; have H := h; clear h
 obtain ⟨Ad, An, H⟩ := bi_ H
 (try dsimp only at H)
 have A2 := A_ An
 clear An
 obtain ⟨Ae, Aa⟩ : ∃ y_ : List Int, y_ = (([0, 0, 0, 1] : List Int)) := ⟨_, rfl⟩
 replace H : (if Ad.length + Ae.length < 140737488355328 then (some (Ad ++ Ae)) else (none)) = some r := by first | (rw [Aa]; with_reducible exact H) | (have H2_ := os_ H; rw [Aa]; with_reducible exact H2_) | (have H2_ := os_ H; with_reducible exact H2_) | with_reducible exact H | (rw [Aa]; exact H) | exact H
 have Ag := A_ Aa
 clear Aa
 obtain ⟨c3, H⟩ := iq_ H; have LMc3 := A_ c3; clear c3; obtain ⟨Ar, Af⟩ := ey_ (Ad ++ Ae : List Int); (try (with_reducible replace H := os_ H)); (try dsimp only at H); (try rw [← Af] at H)
 have Ai := A_ Af; clear Af; obtain rfl := Option.some.inj H
 go_enter Try.func78, Try.ntmps78
 go_wp2_with (first | ((with_reducible refine f1_ 63 ?_); refine gl_ (some 4) Try.func63 #[.slice A0 l0.length c0] ?_; (with_reducible refine (spec_l1Copy.calls _ _ l0 Ad _ ?_ ?_ A2.out).mono ?_); exact ca_ Ap.out; exact Aq.out; rintro e w4 ⟨Ak, rfl, Ao, hb⟩; refine ⟨_, rfl, ?_⟩; have Ab := A_ (Kd.R_lower Ao (below_size below_a)); replace HB := bs_ hb; (try clear hb Ao)) | ((with_reducible refine d1_ 5 ?_); refine Kd.R_lit (Kd.int .u8) _ 5 ?hg (N := 5) ?hd (xs := ([0, 0, 0, 1] : List Int)) (inner := [.int .u8 0, .int .u8 0, .int .u8 0, .int .u8 1]) (ok := fun _ => True) (okp := fun _ => True) ?hr ?hp (fun _ hk => hk) trivial (Below.refl _ _) (Nat.le_refl _) (by simp) ?_; (case hd => rfl); (case hg => rfl); (case hr => go_simp <;> rfl); (case hp => exact (Reps.one (show Kd.M (Kd.int .u8) _ _ _ 0 [.int .u8 0] from rfl) (Reps.one (show Kd.M (Kd.int .u8) _ _ _ 0 [.int .u8 0] from rfl) (Reps.one (show Kd.M (Kd.int .u8) _ _ _ 0 [.int .u8 0] from rfl) (Reps.one (show Kd.M (Kd.int .u8) _ _ _ 1 [.int .u8 1] from rfl) (Reps.none _ _)))))); intro As w5 Ah hb hg_ hnew_; clear hg_ hnew_; (first | rw [← Ag.out] at Ah | (simp only [Int.reduceToNat] at Ah; rw [← Ag.out] at Ah)); have n0_ := re_ Ab hb (Kd.R_base Ah); have Ac := A_ (Kd.R_lower (Kd.R_new' Ah (Kd.R_lt (R_a Ab.out))) (below_size below_a)); replace HB := bs_ hb; replace Ab := n0_; clear n0_; clear hb Ah; obtain ⟨Au, Av, Aw⟩ := Kd.R_slice Ac.out; subst Aw) | ((with_reducible refine gate_builtin (b := .append) (xs := #[.tmp 4, .tmp 5]) rfl ?_); at_builtin; refine Kd.R_append_rows (Kd.int .u8) (w0 := w) w.heap.size rfl (.tmp 4) (.tmp 5) 25 5 (.int .u8 0) 1 rfl Try.underlying25 info5 rfl (by decide) (by omega) Ak Ad Ae _ _ _ (fun k_ => some k_ ≠ (.slice Au Ae.length Av : Value).ownBlock) (fun _ => False) rfl rfl ?aO ?aR (fun _ _ h => h) (fun _ h => h.elim) ?aF ?aB ?aS ?aL ?_; (case aR => exact cr_ Ac); (case aB => exact below_a); (case aF => exact (fun k_ hk => Kd.fresh' (Kd.R_lt (R_a Ac.out)) k_ hk)); (case aO => exact (rp_ Ab)); (case aS => exact (below_size below_a)); (case aL => have := LMc3.out; omega); intro Ax w7 ho hb hg hat; rw [← Ai.out] at ho; replace Ac := A_ (Kd.R_after (ok := (fun _ => True)) (R_a Ac.out) hg hat); replace HB := A_ (hb); have Aj := A_ (ho); clear Ab; clear ho hb hg hat))
 go_ret
 exact ⟨_, eq_a, rp_ Aj, below_a⟩
def spec_l1Pack.l0 : Nat → Int → List Int → Int → Option (List Int)
 | 0, _, _, _ => none
 | k + 1, x0, x5, x6 => if x6 ≥ 0 then (if 0 ≤ x6 then (if x6 < (x5.length : Int) then (spec_l1Pack.l0 k (wrap64 (Int.tdiv x0 256)) (x5.set (x6 : Int).toNat ((Int.tmod x0 256) % 256)) (wrap64 (x6 - 1))) else (none)) else (none)) else (some x5)
def spec_l1Pack.f (k : Nat) (a0 : Int) (a1 : Int) : Option (List Int) := if 0 ≤ a1 then (if (a1 : Int).toNat ≤ 281474976710656 then (spec_l1Pack.l0 k a0 (List.replicate (a1 : Int).toNat 0) (wrap64 (a1 - 1))) else (none)) else (none)
theorem spec_l1Pack.calls (k : Nat) (a0 : Int) (a1 : Int) (r : List Int) (w : World) (h : spec_l1Pack.f k a0 a1 = some r) :
  Calls Try.prog 79 #[.int .i64 a0, .int .i64 a1] w fun e w' => ∃ v0_ : Value, e = .returned (v0_) ∧ Kd.R (Kd.int .u8) 5 w' w.heap.size (fun _ => True) v0_ r ∧ Below w.heap.size w w' := by
 have HB := A_ (Below.refl w.heap.size w)
 unfold spec_l1Pack.f at h; have H := h; clear h
 obtain ⟨c3, H⟩ := iq_ H; have Ap := eq_true c3; have Aq : decide (0 ≤ a1) = true := decide_eq_true c3; clear c3
 obtain ⟨c4, H⟩ := iq_ H; have Ar := eq_true c4; have As : decide ((a1 : Int).toNat ≤ 281474976710656) = true := decide_eq_true c4; clear c4; obtain ⟨Au, Ae⟩ := ey_ (List.replicate (a1 : Int).toNat 0 : List Int); (try (with_reducible replace H := os_ H)); (try dsimp only at H); (try rw [← Ae] at H)
 have Ag := A_ Ae; clear Ae; have H' := A_ H; clear H
 go_enter Try.func79, Try.ntmps79
 go_wp2_with (first | ((with_reducible refine d1_ 8 ?_); refine Kd.R_make (Kd.int .u8) _ 5 rfl (N := 8) rfl 25 _ _ rfl a1 rfl rfl Try.underlying25 (.int .u8 0) 1 info5 rfl (by decide) (by omega) 0 (ok := fun _ => True) (okp := fun _ => True) rfl (fun _ hk => hk) trivial od_ (Nat.le_trans (Nat.mul_le_mul_right _ (od_ : a1.toNat ≤ 281474976710656)) (by omega)) (Below.refl _ _) (Nat.le_refl _) ?_; intro Av w5 Aj hb hg_ hnew_; clear hg_ hnew_; (first | rw [← Ag.out] at Aj | (simp only [Int.reduceToNat] at Aj; rw [← Ag.out] at Aj)); have Ak := A_ (Kd.R_lower Aj (below_size below_a)); replace HB := bs_ hb; clear hb Aj))
 go_loopg [0, 6] k (fun kq v0 v6 w' => ∃ (Ab : Int) (Ac : List Int) (Aa : Int), v0 = .int .i64 Ab ∧ v6 = .int .i64 Aa ∧ Aside0 (spec_l1Pack.l0 kq Ab Ac Aa = some r) ∧ Aside0 (kq ≤ k) ∧ Aside0 (Kd.R (Kd.int .u8) 5 w' w.heap.size (fun _ => True) Av Ac) ∧ Aside0 (Below w.heap.size w w'))
 case atStart => exact ⟨(a0), (Au), (wrap64 (a1 - 1)), eq_b, eq_b, H', ⟨Nat.le_refl _⟩, ⟨R_a Ak.out⟩, ⟨below_a⟩⟩
 case round =>
  clear H'
  try clear p2
  try clear c3 Ap Aq
  try clear c4 Ar As
  try clear p6
  obtain ⟨Ab, Ac, Aa, rfl, rfl, HA, HK1, Ad, HB⟩ := hrel
  cases gk with
  | zero => exact absurd HA.out (by simp [spec_l1Pack.l0])
  | succ k1 =>
   have H := HA.out; clear HA; simp only [spec_l1Pack.l0] at H
   by_cases c7 : Aa ≥ 0
   ·
    rw [if_pos c7] at H; have Aw : decide (0 ≤ Aa) = true := decide_eq_true c7; clear c7
    obtain ⟨c8, H⟩ := iq_ H; have A5 := decide_eq_true c8; clear c8
    obtain ⟨c9, H⟩ := iq_ H; have A6 := decide_eq_true c9; clear c9; obtain ⟨Al, Af⟩ := ey_ (Ac.set (Aa : Int).toNat ((Int.tmod Ab 256) % 256)); (try (with_reducible replace H := os_ H)); (try dsimp only at H); (try rw [← Af] at H)
    have Am := A_ Af; clear Af; have H' := A_ H; clear H; have Ax : 0 ≤ (Aa : Int) := od_; have Ay : (Aa : Int) < ((Ac.length : Int) : Int) := od_; obtain ⟨Ah, Az, An, Ao, gl10, A7, HG10⟩ := Kd.R_form Ad.out (by omega); (first | cases An | (injection An with ea_ en_ ec_; (first | subst ea_ | (injection ea_ with ea_; subst ea_)); subst ec_; clear en_)); have A0 := A_ Ao; have A8 := A_ HG10; clear Ao gl10 HG10; obtain ⟨A1, A3⟩ := Kd.R_celln 0 Ad.out (Aa : Int) Ax Ay; replace Ax := eq_true Ax; replace Ay := eq_true Ay; have Ai := Kd.R_putg Ad.out (Aa : Int) ((Int.tmod Ab 256) % 256)
    go_wp2_with (first | ((with_reducible refine s1_ 5 20 ?_); refine store_event (t := 5) (p := 20) (v := ?vo_w12) (w1 := (wr.setCell ⟨Ah, (Aa : Int).toNat, none⟩ (.int .u8 ((Int.tmod Ab 256) % 256)))) ?hg ?ho ?hn ?hr ?_; (case ho => rfl); (case hg => rfl); (case hn => rfl); (case hr => go_simp <;> rfl); intro A4 hw; have hg : wr.grownBy A4 (some Ah) := (by rw [hw]; exact Ai.2); have hp_ : Kd.R (Kd.int .u8) 5 A4 w.heap.size (fun _ => True) (.slice (some ⟨Ah, 0, none⟩) Ac.length Az) Al := (by rw [hw, Am.out]; exact Ai.1); clear Ai; replace Ad := A_ (hp_); replace HB := A_ ((by rw [hw]; exact below_set (HB.out) A0.out : Below w.heap.size w A4)); clear hg hw hp_))
    go_roundg k1
    case measure => have := HK1.out; omega
    case rel => exact ⟨(wrap64 (Int.tdiv Ab 256)), (Al), (wrap64 (Aa - 1)), eq_b, eq_b, H', ⟨by have := HK1.out; omega⟩, ⟨R_a Ad.out⟩, ⟨below_a⟩⟩
   rw [if_neg c7] at H; have Aw : decide (0 ≤ Aa) = false := decide_eq_false c7; clear c7; obtain rfl := Option.some.inj H
   go_wp2
   go_ret
   exact ⟨_, eq_a, R_a Ad.out, below_a⟩
theorem hi112 : (Try.prog.info? 112).map (·.size) = some 16 := by kernel_rfl
def syf (x : List Int) : Nat → Int := fun j => sbx (rd x (((j : Int) + 4 * ((j : Int) % 4)) % 16))
def syv (x : List Int) : List Int := (List.range 16).map (syf x)
def nxf (ks y : List Int) (r : Int) : Nat → Int := fun j => let c := (j : Int) / 4 * 4; let i := (j : Int) % 4
  if r < 10 then xr (xr (xr (rd y j) (rd ks (16 * r + j))) (xr (xr (xr (rd y c) (rd y (c + 1))) (rd y (c + 2))) (rd y (c + 3)))) (dbl (xr (rd y j) (rd y (c + (i + 1) % 4)))) else xr (rd y j) (rd ks (16 * r + j))
theorem C_blk {W : World} {g t n : Nat} {l : List Int} (h : W.heap[g]? = some (.cells (ub l) t (0, 0))) (hn : l.length = n) (hm : n ≤ 9223372036854775807) : Kd.C (Kd.int .u8) W (some ⟨g, 0, none⟩) n l := by
  refine Kd.C_of_reads (d := (0 : Int)) ⟨hn, hm, fun _ => ⟨_, rfl, fun j hj => ?_⟩⟩
  have e : (Addr.add ⟨g, 0, none⟩ j) = ⟨g, j, none⟩ := by
    by_cases hj0 : j = 0
    · subst hj0; rfl
    · simp [Addr.add, hj0]
  rw [e, blk_cell h, ub_get _ _ (by omega), List.getD_eq_getElem?_getD, List.getElem?_eq_getElem (by omega)]
  rfl
theorem R_blk0 {w : World} {g base : Nat} {ok : Nat → Prop} (h : w.heap[g]? = some (.cells (ub []) 5 (0, 0))) (hb : base ≤ g) (hok : ok g) : Kd.R (Kd.int .u8) 5 w base ok (.slice (some ⟨g, 0, none⟩) 0 0) [] := by
  refine Kd.R_of_own ?_ (fun k hk => ?_)
  · exact ⟨rfl, .inr ⟨g, 0, ub [], rfl, hb, h, Nat.le_refl _, Nat.zero_le _, rfl, rfl⟩⟩
  · injection hk with hk
    subst hk
    exact hok
theorem set_cell {W : World} {g t i : Nat} {l : List Int} {v : Int} (h : W.heap[g]? = some (.cells (ub (l.set i v)) t (0, 0))) (hi : i < l.length) : W.cell? ⟨g, i, none⟩ = some (.int .u8 v) := by
  rw [blk_cell h, ub_get _ _ (by rw [List.length_set]; exact hi), List.getElem_set_self]
theorem mix_cast {W : World} {g t i i' : Nat} {f : Nat → Int} {X L : List Int} {v : Int} (h : W.heap[g]? = some (.cells (ub (L.set i v)) t (0, 0))) (hi : i < X.length) (he : i' = i + 1) (hv : f i = v) (hL : L = mixTo f X i ∨ ∃ u, L = (mixTo f X i).set i u) : W.heap[g]? = some (.cells (ub (mixTo f X i')) t (0, 0)) := by
  subst he
  rw [← mix_succ f X i hi, hv]
  rcases hL with rfl | ⟨u, rfl⟩
  · exact h
  · rwa [List.set_set] at h
theorem nxf_at (ks y : List Int) (r c : Int) (h0 : 0 ≤ c) (h4 : c % 4 = 0) (i : Int) (Aa : 0 ≤ i) (hi : i < 4) : nxf ks y r (c + i).toNat = if r < 10 then xr (xr (xr (rd y (c + i)) (rd ks (16 * r + c + i))) (xr (xr (xr (rd y c) (rd y (c + 1))) (rd y (c + 2))) (rd y (c + 3)))) (dbl (xr (rd y (c + i)) (rd y (c + (i + 1) % 4)))) else xr (rd y (c + i)) (rd ks (16 * r + c + i)) := by
  have e0 : (((c + i).toNat : Nat) : Int) = c + i := by omega
  have e1 : (c + i) / 4 * 4 = c := by omega
  have e2 : (c + i) % 4 = i := by omega
  simp only [nxf, e0, e1, e2, ← Int.add_assoc]
def nxv (ks y : List Int) (r : Int) : List Int := (List.range 16).map (nxf ks y r)
def sencr (ks l : List Int) : Nat → List Int
  | 0 => addv ks l 0
  | n + 1 => nxv ks (syv (sencr ks l n)) ((n + 1 : Nat) : Int)
def sencv (ks l : List Int) : List Int := sencr ks l 10
theorem syv_len (x : List Int) : (syv x).length = 16 := by simp [syv]
theorem sencr_len (ks l : List Int) (n : Nat) : (sencr ks l n).length = 16 := by cases n <;> simp [sencr, addv, nxv]
theorem nxv_byte (ks y : List Int) (r : Int) : ∀ x ∈ nxv ks y r, 0 ≤ x ∧ x ≤ 255 := by
  intro x hx
  obtain ⟨j, _, rfl⟩ := List.mem_map.1 hx
  unfold nxf
  dsimp only
  split <;> exact xr_byte _ _
theorem sencr_byte (ks l : List Int) (n : Nat) : ∀ x ∈ sencr ks l n, 0 ≤ x ∧ x ≤ 255 := by
  cases n
  · exact addv_byte _ _ _
  · exact nxv_byte _ _ _
theorem senc99 (A : Option Addr) (c : Nat) (A2 : Option Addr) (c2 : Nat) (ks l : List Int) (w : World) (hr : Kd.C (Kd.int .u8) w A ks.length ks) (Ar : Kd.C (Kd.int .u8) w A2 l.length l) (hk : ks.length = 176) (hl : l.length = 16) : Calls Try.prog 99 #[.slice A ks.length c, .slice A2 l.length c2] w fun e w' => ∃ v, e = .returned v ∧ Kd.R (Kd.int .u8) 5 w' w.heap.size (fun _ => True) v (sencv ks l) ∧ Below w.heap.size w w' := by
  have hu25 := Try.underlying25
  have hu112 := Try.underlying112
  have hz5 := Try.sizeOf5
  have HR := A_ hr
  have Av := A_ Ar
  have HK := A_ hk
  have HL := A_ hl
  have HB := A_ (Below.refl w.heap.size w)
  clear hr Ar hl hk
  go_enter Try.func99, Try.ntmps99
  go_wp2_with (first | ((with_reducible refine d1_ 13 ?_); refine val_event rfl (.agg (ub (List.replicate 16 0))) ?hr ?_; (case hr => go_simp <;> rfl)) | ((with_reducible refine d1_ 5 ?_); refine bx_ 5 (ub (List.replicate 16 0)) 112 rfl rfl ?hr ?_; (case hr => have hz := Try.zeroValue112; go_simp <;> rfl); intro Af hg wb5 hbox hb; have Ag := gw_ (w := w) hg; replace HB := hb2_ hb; have Aa := A_ (hbox); clear hb hbox hg) | ((with_reducible refine s1_ 112 5 ?_); refine arr_store (cs' := ub (List.replicate 16 0)) rfl rfl rfl rfl rfl Aa.out (hi112.trans (by rw [ub_size, List.length_replicate])) (by rw [ub_size]) (ub_one _) ?_; intro Ai hbs hgs; replace HB := hb6_ HB hgs Ag; replace Aa := A_ hbs; clear hbs hgs) | ((with_reducible refine d1_ 14 ?_); refine val_event rfl (.agg (ub (List.replicate 16 0))) ?hr ?_; (case hr => go_simp <;> rfl)) | ((with_reducible refine d1_ 6 ?_); refine bx_ 6 (ub (List.replicate 16 0)) 112 rfl rfl ?hr ?_; (case hr => have hz := Try.zeroValue112; go_simp <;> rfl); intro Ae hg wb6 hbox hb; have As := gw_ (w := w) hg; have NE5_6 := hb3_ Aa hg; replace Aa := hb1_ Aa hb; replace HB := hb2_ hb; have Ab := A_ (hbox); clear hb hbox hg) | ((with_reducible refine s1_ 112 6 ?_); refine arr_store (cs' := ub (List.replicate 16 0)) rfl rfl rfl rfl rfl Ab.out (hi112.trans (by rw [ub_size, List.length_replicate])) (by rw [ub_size]) (ub_one _) ?_; intro Aj hbs hgs; replace Aa := hb4_ Aa hgs NE5_6; replace HB := hb6_ HB hgs As; replace Ab := A_ hbs; clear hbs hgs))
  go_loopg [7] 16 (fun kq v7 w' => ∃ (x : Int), v7 = .int .i64 x ∧ Aside0 (0 ≤ x ∧ x ≤ 16) ∧ Aside0 (kq = 16 - x.toNat) ∧ Aside0 (w'.heap[Af]? = some (.cells (ub (mixTo (addf ks l 0) (List.replicate 16 0) x.toNat)) 112 (0, 0))) ∧ Aside0 (w'.heap[Ae]? = some (.cells (ub (List.replicate 16 0)) 112 (0, 0))) ∧ Aside0 (Below w.heap.size w w'))
  case atStart => exact ⟨0, eq_b, ⟨by omega⟩, ⟨rfl⟩, ⟨by rw [show (0 : Int).toNat = 0 from rfl, mix_zero]; exact Aa.out⟩, Ab, HB⟩
  case round =>
    clear Aa Ab HB
    obtain ⟨x, rfl, HI, HK1, Aa, Ab, HB⟩ := hrel
    by_cases c4 : x < 16
    · have Ak : decide (x < 16) = true := decide_eq_true c4
      have Au := A_ c4
      obtain ⟨k1, rfl⟩ : ∃ k1, gk = k1 + 1 := ⟨gk - 1, by have := HK1.out; have := HI.out; omega⟩
      obtain ⟨ad, ea, hka⟩ := Kd.at_int (Kd.C_below HR.out HB.out) x HI.out.1 (by have := HK.out; omega)
      obtain ⟨A7, ea2, hka2⟩ := Kd.at_int (Kd.C_below Av.out HB.out) x HI.out.1 (by have := HL.out; omega)
      obtain ⟨v0, hlw⟩ : ∃ v0, wr.cell? ⟨Af, x.toNat, none⟩ = some (.int .u8 v0) := ⟨_, blk_ub Aa.out x HI.out.1 (by rw [mix_len, List.length_replicate]; exact c4)⟩
      have hfr : wr.frozen? ⟨Af, x.toNat, none⟩ = false := blk_frozen Aa.out _
      subst ea ea2
      have p1 : (0 ≤ x) = True := eq_true HI.out.1
      have q1 : (x < 16) = True := eq_true c4
      have q2 : (x < (ks.length : Int)) = True := eq_true (by have := HK.out; omega)
      have q3 : (x < (l.length : Int)) = True := eq_true (by have := HL.out; omega)
      clear c4
      go_wp2
      refine still_tail_at 11 (by kernel_rfl) (by kernel_rfl) ?_
      intro wq ewq
      have hh : wq.heap = wr.heap := by rw [ewq]; rfl
      replace hka := (cell_of hh _).trans hka
      replace hka2 := (cell_of hh _).trans hka2
      replace hlw := (cell_of hh _).trans hlw
      replace hfr := (frozen_of hh _).trans hfr
      replace HB : Aside0 (Below w.heap.size w wq) := ⟨by rw [ewq]; exact HB.out.drew⟩
      replace Aa := A_ (heap_of hh Aa.out)
      replace Ab := A_ (heap_of hh Ab.out)
      clear ewq hh
      simp only [List.take_succ_cons, List.take_zero, List.drop_succ_cons, List.drop_zero]
      repeat still_step
      try refine wpStill_nil ?_
      go_wp2
      go_roundg k1
      case measure => have := HK1.out; omega
      case rel =>
        refine ⟨x + 1, ?_, ⟨?_⟩, ⟨?_⟩, ⟨?_⟩, ⟨?_⟩, ⟨?_⟩⟩
        · have := HI.out; rw [show wrap64 (x + 1) = x + 1 by unfold wrap64; omega]
        · have := HI.out; have := Au.out; omega
        · have := HK1.out; have := HI.out; omega
        · exact mix_putw Aa.out (by rw [List.length_replicate]; have := HI.out; have := Au.out; omega) (by have := HI.out; omega) (by rw [addf, show ((x.toNat : Nat) : Int) = x by have := HI.out; omega, show 16 * (0 : Int) + x = x by omega])
        · exact blk_far Ab.out (Ne.symm NE5_6.out) _
        · exact below_set HB.out Ag.out
    · have Ak : decide (x < 16) = false := decide_eq_false c4
      have hx : x = 16 := by have := HI.out; omega
      subst hx
      replace Aa := A_ (show wr.heap[Af]? = some (.cells (ub (sencr ks l 0)) 112 (0, 0)) from (by have := Aa.out; rwa [mix_all (addf ks l 0) _ (16 : Int).toNat (by rw [List.length_replicate]; rfl)] at this))
      clear c4
      go_wp2
      go_loopg [8] 10 (fun kq v8 w' => ∃ (r : Int) (yl : List Int), v8 = .int .i64 r ∧ Aside0 (1 ≤ r ∧ r ≤ 11) ∧ Aside0 (kq = 11 - r.toNat) ∧ Aside0 (yl.length = 16) ∧ Aside0 (w'.heap[Af]? = some (.cells (ub (sencr ks l (r.toNat - 1))) 112 (0, 0))) ∧ Aside0 (w'.heap[Ae]? = some (.cells (ub yl) 112 (0, 0))) ∧ Aside0 (Below w.heap.size w w'))
      case atStart => exact ⟨1, _, eq_b, ⟨by omega⟩, ⟨rfl⟩, ⟨rfl⟩, Aa, Ab, HB⟩
      case round =>
        clear Aa Ab HB
        obtain ⟨r, yl, rfl, Ad, HK2, HYL, Aa, Ab, HB⟩ := hrel
        by_cases c5 : r ≤ 10
        · have Al : decide (r ≤ 10) = true := decide_eq_true c5
          have Ah := A_ c5
          have HXL := A_ (sencr_len ks l (r.toNat - 1))
          have HXY := A_ (sencr_byte ks l (r.toNat - 1))
          have HNX := A_ (show nxv ks (syv (sencr ks l (r.toNat - 1))) r = sencr ks l r.toNat by
            obtain ⟨n, hn⟩ : ∃ n, r.toNat = n + 1 := ⟨r.toNat - 1, by have := Ad.out; omega⟩
            rw [hn, Nat.add_sub_cancel, sencr, ← hn, Int.toNat_of_nonneg (by have := Ad.out; omega)])
          generalize sencr ks l (r.toNat - 1) = X at Aa HXL HXY HNX
          obtain ⟨k2, rfl⟩ : ∃ k2, gk = k2 + 1 := ⟨gk - 1, by have := HK2.out; have := Ad.out; have := Ah.out; omega⟩
          clear c5
          go_wp2
          go_loopg [9] 16 (fun kq v9 w' => ∃ (i : Int), v9 = .int .i64 i ∧ Aside0 (0 ≤ i ∧ i ≤ 16) ∧ Aside0 (kq = 16 - i.toNat) ∧ Aside0 (w'.heap[Ae]? = some (.cells (ub (mixTo (syf X) yl i.toNat)) 112 (0, 0))) ∧ Aside0 (w'.heap[Af]? = some (.cells (ub X) 112 (0, 0))) ∧ Aside0 (Below w.heap.size w w'))
          case atStart => exact ⟨0, eq_b, ⟨by omega⟩, ⟨rfl⟩, ⟨by rw [show (0 : Int).toNat = 0 from rfl, mix_zero]; exact Ab.out⟩, Aa, HB⟩
          case round =>
            clear Aa Ab HB
            obtain ⟨i, rfl, HI, HK3, Ab, Aa, HB⟩ := hrel
            by_cases c6 : i < 16
            · have Am : decide (i < 16) = true := decide_eq_true c6
              have Aw := A_ c6
              obtain ⟨k3, rfl⟩ : ∃ k3, gk = k3 + 1 := ⟨gk - 1, by have := HK3.out; have := HI.out; omega⟩
              have hlx : wr.cell? ⟨Af, ((i + 4 * (i % 4)) % 16).toNat, none⟩ = some (.int .u8 (rd X ((i + 4 * (i % 4)) % 16))) := blk_ub Aa.out _ (by omega) (by rw [HXL.out]; omega)
              have hbx := A_ (rd_byte HXY.out ((i + 4 * (i % 4)) % 16) (by omega) (by rw [HXL.out]; omega))
              have HST := A_ (show syf X i.toNat = sbx (rd X ((i + 4 * (i % 4)) % 16)) by rw [syf, show ((i.toNat : Nat) : Int) = i by have := HI.out; omega])
              have HLT := A_ (show i.toNat < yl.length by rw [HYL.out]; have := HI.out; omega)
              have p1 : (0 ≤ i) = True := eq_true HI.out.1
              have q1 : (i < 16) = True := eq_true c6
              have p2 : (0 ≤ (i + 4 * (i % 4)) % 16) = True := eq_true (by omega)
              have q2 : ((i + 4 * (i % 4)) % 16 < 16) = True := eq_true (by omega)
              have hw := A_ (show wrap64 (i + 1) = i + 1 by have := HI.out; unfold wrap64; omega)
              have e1 : i.tmod 4 = i % 4 := Int.tmod_eq_emod_of_nonneg HI.out.1
              have e4 : (i + 4 * (i % 4)).tmod 16 = (i + 4 * (i % 4)) % 16 := Int.tmod_eq_emod_of_nonneg (by have := HI.out; omega)
              have e2 : wrap64 (4 * (i % 4)) = 4 * (i % 4) := by unfold wrap64; omega
              have e3 : wrap64 (i + 4 * (i % 4)) = i + 4 * (i % 4) := by have := HI.out; unfold wrap64; omega
              clear c6
              go_wp2_with (first | (go_at_call 97; (with_reducible refine (sub97_same _ hbx.out.1 hbx.out.2 _).mono ?_); rintro e ws ⟨rfl, rfl⟩) | ((with_reducible refine s1_ 5 48 ?_); refine el_store rfl rfl rfl rfl rfl Ab.out (by rw [mix_len]; exact HLT.out) ?_; intro we6 hbs hgs; replace Aa := hb4_ Aa hgs NE5_6; replace HB := hb6_ HB hgs As; replace Ab := A_ hbs; clear hbs hgs))
              go_roundg k3
              case measure => have := HK3.out; omega
              case rel =>
                refine ⟨i + 1, ?_, ⟨?_⟩, ⟨?_⟩, ⟨?_⟩, Aa, HB⟩
                · rw [hw.out]
                · have := HI.out; have := Aw.out; omega
                · have := HK3.out; have := HI.out; omega
                · rw [show (i + 1).toNat = i.toNat + 1 by have := HI.out; omega, ← mix_succ _ _ _ HLT.out, HST.out]
                  exact Ab.out
            · have Am : decide (i < 16) = false := decide_eq_false c6
              have hx : i = 16 := by have := HI.out; omega
              subst hx
              replace Ab := A_ (show wr.heap[Ae]? = some (.cells (ub (syv X)) 112 (0, 0)) from (by have := Ab.out; rwa [mix_all (syf X) _ (16 : Int).toNat HYL.out] at this))
              have HYY := A_ (syv_len X)
              clear c6
              generalize syv X = Y at Ab HNX HYY
              go_wp2
              go_loopg [10] 4 (fun kq Ax w' => ∃ (c0 : Int), Ax = .int .i64 c0 ∧ Aside0 (0 ≤ c0 ∧ c0 ≤ 16 ∧ c0 % 4 = 0) ∧ Aside0 (kq = 4 - (c0 / 4).toNat) ∧ Aside0 (w'.heap[Af]? = some (.cells (ub (mixTo (nxf ks Y r) X c0.toNat)) 112 (0, 0))) ∧ Aside0 (w'.heap[Ae]? = some (.cells (ub Y) 112 (0, 0))) ∧ Aside0 (Below w.heap.size w w'))
              case atStart => exact ⟨0, eq_b, ⟨by omega⟩, ⟨rfl⟩, ⟨by rw [show (0 : Int).toNat = 0 from rfl, mix_zero]; exact Aa.out⟩, Ab, HB⟩
              case round =>
                clear Aa Ab HB
                obtain ⟨c0, rfl, HC, HK4, Aa, Ab, HB⟩ := hrel
                by_cases c7 : c0 < 16
                · have An : decide (c0 < 16) = true := decide_eq_true c7
                  have Ac := A_ c7
                  obtain ⟨k4, rfl⟩ : ∃ k4, gk = k4 + 1 := ⟨gk - 1, by have := HK4.out; have := HC.out; have := Ac.out; omega⟩
                  clear c7
                  have y0 : wr.cell? ⟨Ae, (c0 + 0).toNat, none⟩ = some (.int .u8 (rd Y (c0 + 0))) := blk_ub Ab.out _ (by have := HC.out; omega) (by rw [HYY.out]; have := HC.out; have := Ac.out; omega)
                  have y1 : wr.cell? ⟨Ae, (c0 + 1).toNat, none⟩ = some (.int .u8 (rd Y (c0 + 1))) := blk_ub Ab.out _ (by have := HC.out; omega) (by rw [HYY.out]; have := HC.out; have := Ac.out; omega)
                  have y2 : wr.cell? ⟨Ae, (c0 + 2).toNat, none⟩ = some (.int .u8 (rd Y (c0 + 2))) := blk_ub Ab.out _ (by have := HC.out; omega) (by rw [HYY.out]; have := HC.out; have := Ac.out; omega)
                  have y3 : wr.cell? ⟨Ae, (c0 + 3).toNat, none⟩ = some (.int .u8 (rd Y (c0 + 3))) := blk_ub Ab.out _ (by have := HC.out; omega) (by rw [HYY.out]; have := HC.out; have := Ac.out; omega)
                  simp only [Int.add_zero] at y0
                  have w1 : wrap64 (c0 + 1) = c0 + 1 := by have := HC.out; unfold wrap64; omega
                  have j1 : IntKind.i64.wrap (c0 + 1) = c0 + 1 := by rw [IntKind.wrap_i64]; unfold wrap64 at w1; exact w1
                  have pp1 : (0 ≤ c0 + 1) = True := eq_true (by have := HC.out; omega)
                  have qq1 : (c0 + 1 < 16) = True := eq_true (by have := HC.out; have := Ac.out; omega)
                  have w2 : wrap64 (c0 + 2) = c0 + 2 := by have := HC.out; unfold wrap64; omega
                  have j2 : IntKind.i64.wrap (c0 + 2) = c0 + 2 := by rw [IntKind.wrap_i64]; unfold wrap64 at w2; exact w2
                  have pp2 : (0 ≤ c0 + 2) = True := eq_true (by have := HC.out; omega)
                  have qq2 : (c0 + 2 < 16) = True := eq_true (by have := HC.out; have := Ac.out; omega)
                  have w3 : wrap64 (c0 + 3) = c0 + 3 := by have := HC.out; unfold wrap64; omega
                  have j3 : IntKind.i64.wrap (c0 + 3) = c0 + 3 := by rw [IntKind.wrap_i64]; unfold wrap64 at w3; exact w3
                  have pp3 : (0 ≤ c0 + 3) = True := eq_true (by have := HC.out; omega)
                  have qq3 : (c0 + 3 < 16) = True := eq_true (by have := HC.out; have := Ac.out; omega)
                  have pp0 : (0 ≤ c0) = True := eq_true HC.out.1
                  have qq0 : (c0 < 16) = True := eq_true Ac.out
                  go_wp2
                  go_quiet (fail)
                  replace HB : Aside0 (Below w.heap.size w (wr.drewN nq)) := ⟨pw_below_drewN HB.out _⟩
                  replace Aa : Aside0 ((wr.drewN nq).heap[Af]? = _) := Aa
                  replace Ab : Aside0 ((wr.drewN nq).heap[Ae]? = _) := Ab
                  generalize wr.drewN nq = wq at HB Aa Ab ⊢
                  clear w1 w2 w3 j1 j2 j3 y0 y1 y2 y3 pp0 pp1 pp2 pp3 qq0 qq1 qq2 qq3
                  go_wp2
                  go_loopg [12] 4 (fun kq Ay w' => ∃ (i : Int), Ay = .int .i64 i ∧ Aside0 (0 ≤ i ∧ i ≤ 4) ∧ Aside0 (kq = 4 - i.toNat) ∧ Aside0 (w'.heap[Af]? = some (.cells (ub (mixTo (nxf ks Y r) X (c0 + i).toNat)) 112 (0, 0))) ∧ Aside0 (w'.heap[Ae]? = some (.cells (ub Y) 112 (0, 0))) ∧ Aside0 (Below w.heap.size w w'))
                  case atStart => exact ⟨0, eq_b, ⟨by omega⟩, ⟨rfl⟩, ⟨by rw [Int.add_zero]; exact Aa.out⟩, Ab, HB⟩
                  case round =>
                    clear Aa Ab HB
                    obtain ⟨i, rfl, HJ, HK5, Aa, Ab, HB⟩ := hrel
                    by_cases c8 : i < 4
                    · have Az := A_ c8
                      obtain ⟨k5, rfl⟩ : ∃ k5, gk = k5 + 1 := ⟨gk - 1, by have := HK5.out; have := HJ.out; have := Az.out; omega⟩
                      obtain ⟨ad, ea, hka⟩ := Kd.at_int (Kd.C_below HR.out HB.out) (16 * r + c0 + i) (by have := Ad.out; have := HC.out; have := HJ.out; omega) (by have := HK.out; have := Ad.out; have := HC.out; have := Ac.out; have := Ah.out; omega)
                      subst ea
                      obtain ⟨v0, hlw⟩ : ∃ v0, wr.cell? ⟨Af, (c0 + i).toNat, none⟩ = some (.int .u8 v0) := ⟨_, blk_ub Aa.out (c0 + i) (by have := HC.out; have := HJ.out; omega) (by rw [mix_len, HXL.out]; have := HC.out; have := Ac.out; omega)⟩
                      have hfr : wr.frozen? ⟨Af, (c0 + i).toNat, none⟩ = false := blk_frozen Aa.out _
                      have y0 : wr.cell? ⟨Ae, (c0 + 0).toNat, none⟩ = some (.int .u8 (rd Y (c0 + 0))) := blk_ub Ab.out _ (by have := HC.out; omega) (by rw [HYY.out]; have := HC.out; have := Ac.out; omega)
                      have y1 : wr.cell? ⟨Ae, (c0 + 1).toNat, none⟩ = some (.int .u8 (rd Y (c0 + 1))) := blk_ub Ab.out _ (by have := HC.out; omega) (by rw [HYY.out]; have := HC.out; have := Ac.out; omega)
                      have y2 : wr.cell? ⟨Ae, (c0 + 2).toNat, none⟩ = some (.int .u8 (rd Y (c0 + 2))) := blk_ub Ab.out _ (by have := HC.out; omega) (by rw [HYY.out]; have := HC.out; have := Ac.out; omega)
                      have y3 : wr.cell? ⟨Ae, (c0 + 3).toNat, none⟩ = some (.int .u8 (rd Y (c0 + 3))) := blk_ub Ab.out _ (by have := HC.out; omega) (by rw [HYY.out]; have := HC.out; have := Ac.out; omega)
                      have HJJ := A_ (show (c0 + i).toNat < X.length by rw [HXL.out]; have := HC.out; have := Ac.out; have := HJ.out; omega)
                      have HF := A_ (nxf_at ks Y r c0 HC.out.1 HC.out.2.2 i HJ.out.1 c8)
                      have g0 : IntKind.i64.wrap c0 = c0 := by rw [IntKind.wrap_i64]; have := HC.out; omega
                      have g1 : IntKind.i64.wrap (c0 + 1) = c0 + 1 := by rw [IntKind.wrap_i64]; have := HC.out; omega
                      have g2 : IntKind.i64.wrap (c0 + 2) = c0 + 2 := by rw [IntKind.wrap_i64]; have := HC.out; omega
                      have g3 : IntKind.i64.wrap (c0 + 3) = c0 + 3 := by rw [IntKind.wrap_i64]; have := HC.out; omega
                      have g4 : IntKind.i64.wrap (16 * r) = 16 * r := by rw [IntKind.wrap_i64]; have := Ad.out; omega
                      have g5 : IntKind.i64.wrap (16 * r + c0) = 16 * r + c0 := by rw [IntKind.wrap_i64]; have := Ad.out; have := HC.out; omega
                      have g6 : IntKind.i64.wrap (16 * r + c0 + i) = 16 * r + c0 + i := by rw [IntKind.wrap_i64]; have := Ad.out; have := HC.out; have := HJ.out; omega
                      have p0 : (0 ≤ c0) = True := eq_true HC.out.1
                      have p1 : (0 ≤ c0 + 1) = True := eq_true (by have := HC.out; omega)
                      have p2 : (0 ≤ c0 + 2) = True := eq_true (by have := HC.out; omega)
                      have p3 : (0 ≤ c0 + 3) = True := eq_true (by have := HC.out; omega)
                      have q0 : (c0 < 16) = True := eq_true Ac.out
                      have q1 : (c0 + 1 < 16) = True := eq_true (by have := HC.out; have := Ac.out; omega)
                      have q2 : (c0 + 2 < 16) = True := eq_true (by have := HC.out; have := Ac.out; omega)
                      have q3 : (c0 + 3 < 16) = True := eq_true (by have := HC.out; have := Ac.out; omega)
                      have p4 : (0 ≤ 16 * r + c0 + i) = True := eq_true (by have := Ad.out; have := HC.out; have := HJ.out; omega)
                      have q4 : (16 * r + c0 + i < (ks.length : Int)) = True := eq_true (by have := HK.out; have := Ad.out; have := HC.out; have := Ac.out; have := Ah.out; omega)
                      have kk1 : IntKind.i64.wrap 1 = 1 := by rw [IntKind.wrap_i64]; rfl
                      have kk2 : IntKind.i64.wrap 2 = 2 := by rw [IntKind.wrap_i64]; rfl
                      have kk3 : IntKind.i64.wrap 3 = 3 := by rw [IntKind.wrap_i64]; rfl
                      have kk4 : IntKind.i64.wrap 4 = 4 := by rw [IntKind.wrap_i64]; rfl
                      have his : i = 0 ∨ i = 1 ∨ i = 2 ∨ i = 3 := by have := HJ.out; omega
                      clear c8
                      rcases his with rfl | rfl | rfl | rfl
                      all_goals (
                        simp only [Int.add_zero, Int.zero_add, Int.reduceAdd, Int.reduceMod] at hka hlw hfr y0 g6 p4 q4 HF HJJ Aa
                        go_wp2
                        refine still_tail_at 19 (by kernel_rfl) (by kernel_rfl) ?_
                        intro wq ewq
                        have hh : wq.heap = wr.heap := by rw [ewq]; rfl
                        replace hka := (cell_of hh _).trans hka
                        replace hlw := (cell_of hh _).trans hlw
                        replace hfr := (frozen_of hh _).trans hfr
                        replace y0 := (cell_of hh _).trans y0
                        replace y1 := (cell_of hh _).trans y1
                        replace y2 := (cell_of hh _).trans y2
                        replace y3 := (cell_of hh _).trans y3
                        replace HB : Aside0 (Below w.heap.size w wq) := ⟨by rw [ewq]; exact HB.out.drew⟩
                        replace Aa := A_ (heap_of hh Aa.out)
                        replace Ab := A_ (heap_of hh Ab.out)
                        clear ewq hh
                        simp only [List.take_succ_cons, List.take_zero, List.drop_succ_cons, List.drop_zero]
                        repeat still_step
                        try refine wpStill_nil ?_
                        clear g0 g1 g2 g3 g4 g5 g6 hka hlw hfr y0 y1 y2 y3
                        by_cases c9 : r < 10
                        · have Ao : decide (r < 10) = true := decide_eq_true c9
                          replace HF := A_ (HF.out.trans (if_pos c9))
                          have A0 := A_ c9
                          clear c9
                          go_wp2_with (first | ((with_reducible refine s1_ 5 93 ?_); refine el_store rfl rfl rfl rfl rfl Aa.out (by rw [mix_len]; exact HJJ.out) ?_; intro we5 hbs hgs; replace Ab := hb5_ Ab hgs NE5_6; replace HB := hb6_ HB hgs Ag; replace Aa := A_ hbs; clear hbs hgs))
                          have hlw := set_cell Aa.out (by rw [mix_len]; exact HJJ.out)
                          have y0 := blk_ub Ab.out c0 HC.out.1 (by rw [HYY.out]; exact Ac.out)
                          have y1 := blk_ub Ab.out (c0 + 1) (by have := HC.out; omega) (by rw [HYY.out]; have := HC.out; have := Ac.out; omega)
                          have y2 := blk_ub Ab.out (c0 + 2) (by have := HC.out; omega) (by rw [HYY.out]; have := HC.out; have := Ac.out; omega)
                          have y3 := blk_ub Ab.out (c0 + 3) (by have := HC.out; omega) (by rw [HYY.out]; have := HC.out; have := Ac.out; omega)
                          refine still_tail_at 26 (by kernel_rfl) (by kernel_rfl) ?_
                          intro wq2 ewq
                          have hh : wq2.heap = we5.heap := by rw [ewq]; rfl
                          replace hlw := (cell_of hh _).trans hlw
                          replace y0 := (cell_of hh _).trans y0
                          replace y1 := (cell_of hh _).trans y1
                          replace y2 := (cell_of hh _).trans y2
                          replace y3 := (cell_of hh _).trans y3
                          replace HB : Aside0 (Below w.heap.size w wq2) := ⟨by rw [ewq]; exact HB.out.drew⟩
                          replace Aa := A_ (heap_of hh Aa.out)
                          replace Ab := A_ (heap_of hh Ab.out)
                          clear ewq hh
                          have g0 : IntKind.i64.wrap c0 = c0 := by rw [IntKind.wrap_i64]; have := HC.out; omega
                          have g1 : IntKind.i64.wrap (c0 + 1) = c0 + 1 := by rw [IntKind.wrap_i64]; have := HC.out; omega
                          have g2 : IntKind.i64.wrap (c0 + 2) = c0 + 2 := by rw [IntKind.wrap_i64]; have := HC.out; omega
                          have g3 : IntKind.i64.wrap (c0 + 3) = c0 + 3 := by rw [IntKind.wrap_i64]; have := HC.out; omega
                          simp only [List.take_succ_cons, List.take_zero, List.drop_succ_cons, List.drop_zero]
                          repeat (first | still_step | still_call (dbl110_same _ _))
                          try refine wpStill_nil ?_
                          clear g0 g1 g2 g3 hlw y0 y1 y2 y3
                          go_wp2_with (first | ((with_reducible refine s1_ 5 121 ?_); refine el_store rfl rfl rfl rfl rfl Aa.out (by rw [List.length_set, mix_len]; exact HJJ.out) ?_; intro we5 hbs hgs; replace Ab := hb5_ Ab hgs NE5_6; replace HB := hb6_ HB hgs Ag; replace Aa := A_ hbs; clear hbs hgs))
                          go_roundg k5
                          case measure => have := HK5.out; omega
                          case rel =>
                            refine ⟨_, rfl, ⟨by decide⟩, ⟨?_⟩, ⟨?_⟩, Ab, HB⟩
                            · have := HK5.out; omega
                            · refine mix_cast Aa.out HJJ.out (by have := HC.out; omega) HF.out (.inr ⟨_, rfl⟩)
                        · have Ao : decide (r < 10) = false := decide_eq_false c9
                          replace HF := A_ (HF.out.trans (if_neg c9))
                          clear c9
                          go_wp2_with (first | ((with_reducible refine s1_ 5 93 ?_); refine el_store rfl rfl rfl rfl rfl Aa.out (by rw [mix_len]; exact HJJ.out) ?_; intro we5 hbs hgs; replace Ab := hb5_ Ab hgs NE5_6; replace HB := hb6_ HB hgs Ag; replace Aa := A_ hbs; clear hbs hgs))
                          go_roundg k5
                          case measure => have := HK5.out; omega
                          case rel =>
                            refine ⟨_, rfl, ⟨by decide⟩, ⟨?_⟩, ⟨?_⟩, Ab, HB⟩
                            · have := HK5.out; omega
                            · refine mix_cast Aa.out HJJ.out (by have := HC.out; omega) HF.out (.inl rfl)
                        )
                    · have A1 : decide (i < 4) = false := decide_eq_false c8
                      have A3 : i = 4 := by have := HJ.out; omega
                      subst A3
                      have hw := A_ (show wrap64 (c0 + 4) = c0 + 4 by have := HC.out; unfold wrap64; omega)
                      clear c8
                      go_wp2
                      go_roundg k4
                      case measure => have := HK4.out; have := HC.out; omega
                      case rel =>
                        refine ⟨c0 + 4, ?_, ⟨?_⟩, ⟨?_⟩, Aa, Ab, HB⟩
                        · rw [hw.out]
                        · have := HC.out; have := Ac.out; omega
                        · have := HK4.out; have := HC.out; have := Ac.out; omega
                · have An : decide (c0 < 16) = false := decide_eq_false c7
                  have Ap : c0 = 16 := by have := HC.out; omega
                  subst Ap
                  replace Aa := A_ (show wr.heap[Af]? = some (.cells (ub (sencr ks l r.toNat)) 112 (0, 0)) from (by have := Aa.out; rwa [mix_all (nxf ks Y r) _ (16 : Int).toNat HXL.out, show (List.range (16 : Int).toNat).map (nxf ks Y r) = nxv ks Y r from rfl, HNX.out] at this))
                  have hw := A_ (show wrap64 (r + 1) = r + 1 by have := Ad.out; unfold wrap64; omega)
                  clear c7
                  go_wp2
                  go_roundg k2
                  case measure => have := HK2.out; have := Ad.out; omega
                  case rel =>
                    refine ⟨r + 1, Y, ?_, ⟨?_⟩, ⟨?_⟩, HYY, ⟨?_⟩, Ab, HB⟩
                    · rw [hw.out]
                    · have := Ad.out; have := Ah.out; omega
                    · have := HK2.out; have := Ad.out; have := Ah.out; omega
                    · rw [show (r + 1).toNat - 1 = r.toNat by have := Ad.out; omega]
                      exact Aa.out
        · have Al : decide (r ≤ 10) = false := decide_eq_false c5
          have Aq : r = 11 := by have := Ad.out; omega
          subst Aq
          replace Aa := A_ (show wr.heap[Af]? = some (.cells (ub (sencv ks l)) 112 (0, 0)) from Aa.out)
          clear c5
          have hsl := A_ (show (sencv ks l).length = 16 from sencr_len ks l 10)
          generalize hS : sencv ks l = S at Aa hsl
          go_wp2_with (first | ((with_reducible refine d1_ 122 ?_); refine sl_event ?hg (N := 122) ?hd (cs := ub []) (t := 5) (n := 0) ?hr ?_; (case hd => rfl); (case hg => rfl); (case hr => go_simp <;> rfl); intro A4 hg wb7 hbox hb; have A5 := gw_ (w := w) hg; have NE5_7 := hb3_ Aa hg; have NE6_7 := hb3_ Ab hg; replace Aa := hb1_ Aa hb; replace Ab := hb1_ Ab hb; replace HB := hb2_ hb; have A6 := A_ (hbox); clear hb hbox hg) | (at_builtin; refine Kd.R_append_rows (Kd.int .u8) (w0 := w) w.heap.size rfl (.tmp 122) (.tmp 123) 25 5 (.int .u8 0) 1 rfl Try.underlying25 info5 rfl (by decide) (by omega) (.slice (some ⟨A4, 0, none⟩) 0 0) ([] : List Int) S _ _ _ (fun _ => True) (fun _ => False) rfl rfl ?aO ?aR (fun _ _ h => h) (fun _ h => h.elim) ?aF ?aB ?aS ?aL ?_; (case aR => exact C_blk Aa.out hsl.out (by decide)); (case aB => exact HB.out); (case aF => exact (fun _ _ => trivial)); (case aO => exact (R_blk0 A6.out A5.out trivial)); (case aS => exact HB.out.size); (case aL => simp only [List.length_nil]; omega); intro v7 w7 ho hb hg hat; clear HB hg hat; have HO := A_ ho; have HB := A_ hb; clear ho hb))
          go_ret
          exact ⟨v7, rfl, by rw [hS]; exact HO.out, HB.out⟩
def spec_l2Encrypt.f (l0 : List Int) (l1 : List Int) : Option (List Int) := if l0.length = 176 ∧ l1.length = 16 then some (sencv l0 l1) else none
theorem spec_l2Encrypt.calls (A0 : Option Addr) (c0 : Nat) (l0 : List Int) (A1 : Option Addr) (c1 : Nat) (l1 : List Int) (r : List Int) (w : World) (Aa : Kd.C (Kd.int .u8) w A0 l0.length l0) (Ac : l0.length ≤ c0) (Ab : Kd.C (Kd.int .u8) w A1 l1.length l1) (Ad : l1.length ≤ c1) (h : spec_l2Encrypt.f l0 l1 = some r) :
    Calls Try.prog 99 #[.slice A0 l0.length c0, .slice A1 l1.length c1] w fun e w' => ∃ v0_ : Value, e = .returned (v0_) ∧ Kd.R (Kd.int .u8) 5 w' w.heap.size (fun _ => True) v0_ r ∧ Below w.heap.size w w' := by
  unfold spec_l2Encrypt.f at h
  by_cases hn : l0.length = 176 ∧ l1.length = 16
  · rw [if_pos hn] at h
    obtain rfl := Option.some.inj h
    exact senc99 A0 c0 A1 c1 l0 l1 w Aa Ab hn.1 hn.2
  · rw [if_neg hn] at h
    cases h
def spec_l3Whole.l0 : Nat → List Int → Option (List Int)
 | 0, _ => none
 | k + 1, x3 => if ((x3.length : Int) % 16) = 0 then (some x3) else (if x3.length < 140737488355328 then (spec_l3Whole.l0 k (x3 ++ [0])) else (none))
def spec_l3Whole.f (k : Nat) (l0 : List Int) : Option (List Int) := (spec_l1Copy.f l0).bind fun t140 => (spec_l3Whole.l0 k t140)
theorem spec_l3Whole.calls (k : Nat) (A0 : Option Addr) (c0 : Nat) (l0 : List Int) (r : List Int) (w : World) (Ak : Kd.C (Kd.int .u8) w A0 l0.length l0) (Al : l0.length ≤ c0) (h : spec_l3Whole.f k l0 = some r) :
  Calls Try.prog 100 #[.slice A0 l0.length c0] w fun e w' => ∃ v0_ : Value, e = .returned (v0_) ∧ Kd.R (Kd.int .u8) 5 w' w.heap.size (fun _ => True) v0_ r ∧ Below w.heap.size w w' := by
 have Ao := A_ Ak
 have Ap := A_ Al
 clear Ak Al
 have HB := A_ (Below.refl w.heap.size w)
 unfold spec_l3Whole.f at h; have H := h; clear h
 obtain ⟨Ad, Am, H⟩ := bi_ H
 (try dsimp only at H)
 have A2 := A_ Am
 clear Am
 have H' := A_ H
 clear H
 go_enter Try.func100, Try.ntmps100
 go_wp2_with (first | ((with_reducible refine f1_ 63 ?_); refine gl_ (some 5) Try.func63 #[.slice A0 l0.length c0] ?_; (with_reducible refine (spec_l1Copy.calls _ _ l0 Ad _ ?_ ?_ A2.out).mono ?_); exact ca_ Ao.out; exact Ap.out; rintro e w3 ⟨Aq, rfl, An, hb⟩; refine ⟨_, rfl, ?_⟩; have Ae := A_ (Kd.R_lower An (below_size below_a)); replace HB := bs_ hb; (try clear hb An)))
 go_loopg [3] k (fun kq v3 w' => ∃ (Aa : List Int), Aside0 (spec_l3Whole.l0 kq Aa = some r) ∧ Aside0 (kq ≤ k) ∧ Aside0 (Kd.R (Kd.int .u8) 5 w' w.heap.size (fun _ => True) v3 Aa) ∧ Aside0 (Below w.heap.size w w'))
 case atStart => exact ⟨(Ad), H', ⟨Nat.le_refl _⟩, ⟨R_a Ae.out⟩, ⟨below_a⟩⟩
 case round =>
  clear H'
  try clear c1
  try clear p2
  obtain ⟨Aa, HA, HK1, Ab, HB⟩ := hrel
  cases gk with
  | zero => exact absurd HA.out (by simp [spec_l3Whole.l0])
  | succ k1 =>
   have H := HA.out; clear HA; simp only [spec_l3Whole.l0] at H
   by_cases c4 : ((Aa.length : Int) % 16) = 0
   ·
    rw [if_pos c4] at H; obtain ⟨Ah, Ai⟩ := be_ c4; clear c4; obtain rfl := Option.some.inj H; obtain ⟨Av, Aw, rfl⟩ := Kd.R_slice Ab.out
    go_wp2
    go_ret
    exact ⟨_, eq_a, R_a Ab.out, below_a⟩
   rw [if_neg c4] at H; have Ah : (((Aa.length : Int) % 16) == 0) = false := beq_eq_false_iff_ne.mpr c4; have Ai : (((Aa.length : Int) % 16) != 0) = true := bne_iff_ne.mpr c4
   obtain ⟨c6, H⟩ := iq_ H; have LMc6 := A_ c6; clear c6; obtain ⟨Aj, Ac⟩ := ey_ (Aa ++ [0] : List Int); (try (with_reducible replace H := os_ H)); (try dsimp only at H); (try rw [← Ac] at H)
   have Af := A_ Ac; clear Ac; have H' := A_ H; clear H; obtain ⟨Ar, As, rfl⟩ := Kd.R_slice Ab.out
   go_wp2_with (first | ((with_reducible refine gate_builtin (b := .append) (xs := #[.tmp 10, .tmp 11]) rfl ?_); at_builtin; refine Kd.R_append (Kd.int .u8) (w0 := w) w.heap.size rfl (.tmp 10) (.tmp 11) 25 5 (.int .u8 0) 1 rfl Try.underlying25 info5 rfl (by decide) (by omega) (.slice Ar Aa.length As) Aa 0 [.int .u8 0] (fun _ => True) (fun _ => False) rfl rfl ?aP (fun _ hk => hk.elim) ?aF ?aO ?aB ?aS ?aL ?_; (case aP => exact rfl); (case aB => exact below_a); (case aF => exact (fun _ _ => trivial)); (case aO => exact (R_a Ab.out)); (case aS => exact (below_size below_a)); (case aL => have := LMc6.out; omega); intro Au w8 ho hb hg hat; rw [← Af.out] at ho; replace HB := A_ (hb); have Ag := A_ (ho); clear Ab; clear ho hb hg hat))
   go_roundg k1
   case measure => have := HK1.out; omega
   case rel => exact ⟨(Aj), H', ⟨by have := HK1.out; omega⟩, ⟨R_a Ag.out⟩, ⟨below_a⟩⟩
def spec_l1Xor.l0 : Nat → List Int → List Int → List Int → Int → Option (List Int)
 | 0, _, _, _, _ => none
 | k + 1, x0, x1, x5, x6 => if x6 < (x0.length : Int) then (if 0 ≤ x6 then (if x6 < (x1.length : Int) then (if x5.length < 140737488355328 then (spec_l1Xor.l0 k x0 x1 (x5 ++ [Go.bits .xor .u8 (rd x0 x6) (rd x1 x6)]) (wrap64 (x6 + 1))) else (none)) else (none)) else (none)) else (some x5)
def spec_l1Xor.f (k : Nat) (l0 : List Int) (l1 : List Int) : Option (List Int) := spec_l1Xor.l0 k l0 l1 (([] : List Int)) 0
def spec_l1Xor.T5 : Bool × List (List Nat × List Nat) := (true, [([], []), ([], []), ([], []), ([1, 2], [1, 2]), ([3], [3]), ([], []), ([], []), ([5, 6], [5, 6]), ([7], [7]), ([4, 8], [4, 8]), ([9], [9]), ([0, 10], [0, 10]), ([11, 11, 0, 1, 2, 3, 4, 5, 6, 7, 8, 9, 10, 11], [0, 11])])
def spec_l1Xor.B5 : List Nat := [0, 0, 0, 6, 14, 0, 0, 96, 224, 510, 1022, 2047, 4095]
theorem spec_l1Xor.tab5 : rtab .any (opsOf Try.f101 5) = spec_l1Xor.T5 := by kernel_rfl
theorem spec_l1Xor.bits5 : waitsOk spec_l1Xor.T5.2 spec_l1Xor.B5 = true := by kernel_rfl
theorem spec_l1Xor.calls (k : Nat) (A0 : Option Addr) (c0 : Nat) (l0 : List Int) (A1 : Option Addr) (c1 : Nat) (l1 : List Int) (r : List Int) (w : World) (A3 : Kd.C (Kd.int .u8) w A0 l0.length l0) (A4 : l0.length ≤ c0) (A5 : Kd.C (Kd.int .u8) w A1 l1.length l1) (A6 : l1.length ≤ c1) (h : spec_l1Xor.f k l0 l1 = some r) :
  Calls Try.prog 101 #[.slice A0 l0.length c0, .slice A1 l1.length c1] w fun e w' => ∃ v0_ : Value, e = .returned (v0_) ∧ Kd.R (Kd.int .u8) 5 w' w.heap.size (fun _ => True) v0_ r ∧ Below w.heap.size w w' := by
 have A7 := A_ A3
 have Bd := A_ A4
 clear A3 A4
 have A8 := A_ A5
 have Be := A_ A6
 clear A5 A6
 have HB := A_ (Below.refl w.heap.size w)
 unfold spec_l1Xor.f at h; have H := h; clear h
 obtain ⟨Ao, Af⟩ : ∃ y_ : List Int, y_ = (([] : List Int)) := ⟨_, rfl⟩
 replace H : (spec_l1Xor.l0 k l0 l1 Ao 0) = some r := by first | (rw [Af]; with_reducible exact H) | (have H2_ := os_ H; rw [Af]; with_reducible exact H2_) | (have H2_ := os_ H; with_reducible exact H2_) | with_reducible exact H | (rw [Af]; exact H) | exact H
 have Aj := A_ Af
 clear Af
 have H' := A_ H
 clear H
 go_enter Try.func101, Try.ntmps101
 go_wp2_with (first | ((with_reducible refine d1_ 7 ?_); refine Kd.R_lit (Kd.int .u8) _ 5 ?hg (N := 7) ?hd (xs := ([] : List Int)) (inner := []) (ok := fun _ => True) (okp := fun _ => True) ?hr ?hp (fun _ hk => hk) trivial (Below.refl _ _) (Nat.le_refl _) (by simp) ?_; (case hd => rfl); (case hg => rfl); (case hr => go_simp <;> rfl); (case hp => exact (Reps.none _ _)); intro A9 w3 Ap hb hg_ hnew_; clear hg_ hnew_; (first | rw [← Aj.out] at Ap | (simp only [Int.reduceToNat] at Ap; rw [← Aj.out] at Ap)); have Aq := A_ (Kd.R_lower Ap (below_size below_a)); replace HB := bs_ hb; clear hb Ap))
 go_loopg [5, 6] k (fun kq v5 v6 w' => ∃ (Ah : List Int) (Ac : Int), v6 = .int .i64 Ac ∧ Aside0 (spec_l1Xor.l0 kq l0 l1 Ah Ac = some r) ∧ Aside0 (kq ≤ k) ∧ Aside0 (Kd.R (Kd.int .u8) 5 w' w.heap.size (fun _ => True) v5 Ah) ∧ Aside0 (Below w.heap.size w w'))
 case atStart => exact ⟨(Ao), (0), eq_b, H', ⟨Nat.le_refl _⟩, ⟨R_a Aq.out⟩, ⟨below_a⟩⟩
 case round =>
  clear H'
  try clear c1
  try clear p2
  obtain ⟨Ah, Ac, rfl, HA, HK1, Ag, HB⟩ := hrel
  cases gk with
  | zero => exact absurd HA.out (by simp [spec_l1Xor.l0])
  | succ k1 =>
   have H := HA.out; clear HA; simp only [spec_l1Xor.l0] at H
   by_cases c5 : Ac < (l0.length : Int)
   ·
    rw [if_pos c5] at H; have Aw := decide_eq_true c5; clear c5
    obtain ⟨c6, H⟩ := iq_ H; have Ba := decide_eq_true c6; clear c6
    obtain ⟨c7, H⟩ := iq_ H; have Bb := decide_eq_true c7; clear c7
    obtain ⟨c8, H⟩ := iq_ H; have LMc8 := A_ c8; clear c8; obtain ⟨Ax, Ai⟩ := ey_ (Ah ++ [Go.bits .xor .u8 (rd l0 Ac) (rd l1 Ac)] : List Int); (try (with_reducible replace H := os_ H)); (try dsimp only at H); (try rw [← Ai] at H)
    have Ar := A_ Ai; clear Ai; have H' := A_ H; clear H
    try go_wp2
    replace Ag := hd_ Ag; replace HB := A_ (below_drew1 HB.out); have Ak : 0 ≤ (Ac : Int) := od_; have Al : Ac < (l0.length : Int) := od_; obtain ⟨As, Ay, Ad⟩ := Kd.at_int A7.out Ac Ak Al; have Aa := Ad
    cases Ay
    replace Ad := hc_ HB Ad; replace Ak := eq_true Ak; replace Al := eq_true Al; have Am : 0 ≤ (Ac : Int) := od_; have An : Ac < (l1.length : Int) := od_; obtain ⟨Au, Az, Ae⟩ := Kd.at_int A8.out Ac Am An; have Ab := Ae
    cases Az
    replace Ae := hc_ HB Ae; replace Am := eq_true Am; replace An := eq_true An; refine start_ (n := 13) (S := fun w' => w'.cell? (As.add (Ac).toNat) = some (.int .u8 (rd l0 Ac)) ∧ w'.cell? (Au.add (Ac).toNat) = some (.int .u8 (rd l1 Ac))) (ds := []) (rl_ [0, 13]) (by kernel_rfl) rfl rfl ⟨((HB.out.cell (World.block_lt_of_cell? w _ Aa)).trans Aa), ((HB.out.cell (World.block_lt_of_cell? w _ Ab)).trans Ab)⟩ (fun hHeld => ?_); refine with_tabW spec_l1Xor.tab5 spec_l1Xor.bits5 (fun HT_ HW_ => ?_); generalize wr.drew = w9 at Ag HB Ad Ae hHeld ⊢; refine p1_ 0 (rl_ [1, 12]) HT_ ?_
    refine p1_ 1 (rl_ [2, 11]) HT_ ?_
    refine p1_ 2 (rl_ [3, 10]) HT_ ?_
    refine p1_ 3 (rl_ [4, 9]) HT_ ?_
    refine p1_ 5 (rl_ [4, 1, 1, 7]) HT_ ?_
    refine p1_ 6 (rl_ [4, 1, 2, 6]) HT_ ?_
    refine p1_ 7 (rl_ [4, 1, 3, 5]) HT_ ?_
    refine t1_ 4 (rl_ [8, 5]) HT_ HW_ hHeld ?_
    refine t1_ 8 (rl_ [9, 4]) HT_ HW_ hHeld ?_
    refine p1_ 9 (rl_ [10, 3]) HT_ ?_
    refine o1_ 10 (rl_ [11, 2]) HT_ fun K hK => ?_; refine value_ (w1 := ?_) (v := ?_) (by rfl) rfl ?_ ?_; rotate_left 2
    ·
     go_simp
     constructor
     ·
      rfl
     rfl
    refine k1_ hK ⟨(World.cell?_alloc_lt _ _ _ (World.block_lt_of_cell? _ _ (((HB.out.cell (World.block_lt_of_cell? w _ Aa)).trans Aa)))).trans (((HB.out.cell (World.block_lt_of_cell? w _ Aa)).trans Aa)), (World.cell?_alloc_lt _ _ _ (World.block_lt_of_cell? _ _ (((HB.out.cell (World.block_lt_of_cell? w _ Ab)).trans Ab)))).trans (((HB.out.cell (World.block_lt_of_cell? w _ Ab)).trans Ab))⟩ (fun hHeld => ?_); clear hK K; refine o1_ 11 (rl_ [12, 1]) HT_ fun K hK => ?_; refine Kd.R_append_step (Kd.int .u8) (w0 := w) w.heap.size (by rfl) (.tmp 14) (.tmp 24) 25 5 (.int .u8 0) 1 rfl Try.underlying25 info5 rfl (by decide) (by omega) u5 Ah (Go.bits .xor .u8 (rd l0 Ac) (rd l1 Ac)) [.int .u8 (Go.bits .xor .u8 (rd l0 Ac) (rd l1 Ac))] (fun _ => True) (fun _ => False) rfl rfl ?aP (fun _ hk => hk.elim) ?aF ?aO ?aB ?aS ?aL ?_; (case aP => exact rfl); (case aB => exact below_a); (case aF => exact (fun _ _ => trivial)); (case aO => exact (R_a Ag.out)); (case aS => exact (below_size below_a)); (case aL => have := LMc8.out; omega); intro Bc Bf ho hb hg hat; rw [← Ar.out] at ho; replace HB := A_ (hb); have Av := A_ (ho); clear Ag ho hb hg hat; refine k1_ hK ⟨((HB.out.cell (World.block_lt_of_cell? w _ Aa)).trans Aa), ((HB.out.cell (World.block_lt_of_cell? w _ Ab)).trans Ab)⟩ (fun hHeld => ?_); clear hK K; refine p1_ 12 (rl_ [13]) HT_ ?_
    refine done_ (done_of HT_.out (by kernel_rfl)) ?_
    try go_wp2
    go_roundg k1
    case measure => have := HK1.out; omega
    case rel => exact ⟨(Ax), (wrap64 (Ac + 1)), eq_b, H', ⟨by have := HK1.out; omega⟩, ⟨R_a Av.out⟩, ⟨below_a⟩⟩
   rw [if_neg c5] at H; have Aw := decide_eq_false c5; clear c5; obtain rfl := Option.some.inj H
   go_wp2
   go_ret
   exact ⟨_, eq_a, R_a Ag.out, below_a⟩
def spec_l3Half.l0 : Nat → List Int → Int → Int → Option (Int)
 | 0, _, _, _ => none
 | k + 1, x0, x3, x4 => if x4 < 8 then (if 0 ≤ x4 then (if x4 < (x0.length : Int) then (spec_l3Half.l0 k x0 (IntKind.u64.wrap ((IntKind.u64.wrap (x3 * 256)) + (IntKind.u64.wrap (rd x0 x4)))) (wrap64 (x4 + 1))) else (none)) else (none)) else (some x3)
def spec_l3Half.f (k : Nat) (l0 : List Int) : Option (Int) := spec_l3Half.l0 k l0 0 0
theorem spec_l3Half.calls (k : Nat) (A0 : Option Addr) (c0 : Nat) (l0 : List Int) (r : Int) (w : World) (Ah : Kd.C (Kd.int .u8) w A0 l0.length l0) (Ai : l0.length ≤ c0) (h : spec_l3Half.f k l0 = some r) :
  Calls Try.prog 122 #[.slice A0 l0.length c0] w fun e w' => e = .returned (.int .u64 r) ∧ Drawn0 w w' := by
 have Ak := A_ Ah
 have An := A_ Ai
 clear Ah Ai
 unfold spec_l3Half.f at h; have H := h; clear h
 have H' := A_ H
 clear H
 go_enter Try.func122, Try.ntmps122
 go_wp2
 go_loopg [3, 4] k (fun kq v3 v4 w' => ∃ (Ab : Int) (Aa : Int), v3 = .int .u64 Ab ∧ v4 = .int .i64 Aa ∧ Aside0 (spec_l3Half.l0 kq l0 Ab Aa = some r) ∧ Aside0 (kq ≤ k) ∧ Drawn0 w w')
 case atStart => exact ⟨(0), (0), eq_b, eq_b, H', ⟨Nat.le_refl _⟩, by repeat (first | exact Drawn0.refl _ | apply Drawn0.step)⟩
 case round =>
  clear H'
  try clear c1
  obtain ⟨Ab, Aa, rfl, rfl, HA, HK1, ⟨m1, rfl⟩⟩ := hrel
  cases gk with
  | zero => exact absurd HA.out (by simp [spec_l3Half.l0])
  | succ k1 =>
   have H := HA.out; clear HA; simp only [spec_l3Half.l0] at H
   by_cases c2 : Aa < 8
   ·
    rw [if_pos c2] at H; have Af := decide_eq_true c2; clear c2
    obtain ⟨c3, H⟩ := iq_ H; have Al := decide_eq_true c3; clear c3
    obtain ⟨c4, H⟩ := iq_ H; have Am := decide_eq_true c4; clear c4; have H' := A_ H; clear H; have Ac : 0 ≤ (Aa : Int) := od_; have Ad : Aa < (l0.length : Int) := od_; obtain ⟨Aj, Ag, Ae⟩ := Kd.at_int Ak.out Aa Ac Ad
    cases Ag
    replace Ac := eq_true Ac; replace Ad := eq_true Ad
    go_wp2
    go_roundg k1
    case measure => have := HK1.out; omega
    case rel => exact ⟨(IntKind.u64.wrap ((IntKind.u64.wrap (Ab * 256)) + (IntKind.u64.wrap (rd l0 Aa)))), (wrap64 (Aa + 1)), eq_b, eq_b, H', ⟨by have := HK1.out; omega⟩, by repeat (first | exact Drawn0.refl _ | apply Drawn0.step)⟩
   rw [if_neg c2] at H; have Af := decide_eq_false c2; clear c2; obtain rfl := Option.some.inj H
   go_wp2
   go_ret
   exact ⟨eq_b, by repeat (first | exact Drawn0.refl _ | apply Drawn0.step)⟩
end Go.Proofs.Ytiioiohdifkbgaa.MFnLetters
