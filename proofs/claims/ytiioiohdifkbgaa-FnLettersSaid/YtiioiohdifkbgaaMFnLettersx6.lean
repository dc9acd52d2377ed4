-- Laid by a program of this session (the kit's print, turned where it falls short; the texts of functions that it does not take are proved by hand).
import Derived.Test.YtiioiohdifkbgaaMFnLettersx5
namespace Go.Proofs.Ytiioiohdifkbgaa.MFnLetters
open Go.RowKit Go.Proofs.YtiioiohdifkbgaaW.PrintWords Go.Proofs.YtiioiohdifkbgaaW.PrintLast Go.Proofs.YtiioiohdifkbgaaW.PrintMore
set_option maxHeartbeats 80000000
set_option maxRecDepth 100000
attribute [local go_sem] max2_int min2_int max_two min_two max_three min_three max_four min_four   -- for this text's walks alone
set_option linter.unusedVariables false
set_option linter.unusedSimpArgs false
attribute [local go_sem] isSome_setCell
def ixk : List S59 → Int → Int → Int
  | [], _, _ => -1
  | x :: t, a, i => if x.f0 = a then i else ixk t a (i + 1)
theorem clo104 (a x : Int) (u : Value) (hu : u.oneCell' = true) (p : Addr) (W : World) (hc : W.cell? p = some (.int .i64 a)) :
    Calls Try.prog 104 #[.agg #[.int .i64 x, u], .pointer (some p)] W fun e w' => e = .returned (.bool (x == a)) ∧ Below W.heap.size W w' := by
  have hu59 := Try.underlying59
  have HB := A_ (Below.refl W.heap.size W)
  have HC := A_ hc
  clear hc
  go_enter Try.func104, Try.ntmps104
  go_wp2_with (first | ((with_reducible refine d1_ 2 ?_); refine by_ 2 (#[.int .i64 x, u]) 59 ?_; intro Ab hg w5 hbox hb; have hcp := (hb.cell (World.block_lt_of_cell? _ _ HC.out)).trans HC.out; replace HB := hb2_ hb; have Aa := A_ (hbox); clear hb hbox hg; have := bc2_ Aa.out))
  go_ret
  exact ⟨by simp, below_a⟩
theorem ixk_drop (l : List S59) (a : Int) (i : Nat) (h : i < l.length) : ixk (l.drop i) a i = if (rd_T59 l i).f0 = a then (i : Int) else ixk (l.drop (i + 1)) a ((i + 1 : Nat) : Int) := by
  have e : rd_T59 l (i : Int) = l[i] := by simp [rd_T59, List.getD_eq_getElem?_getD, h]
  rw [e, List.drop_eq_getElem_cons h]
  rfl
theorem ixf103 (A0 : Option Addr) (c0 : Nat) (l0 : List S59) (a : Int) (p : Addr) (w : World) (Aj : Kd.C k59 w A0 l0.length l0) (Ak : l0.length ≤ c0) (hn : l0.length ≤ 9223372036854775807) (hp : w.cell? p = some (.int .i64 a)) :
    Calls Try.prog 103 #[.slice A0 l0.length c0, .func (.func 104) #[] #[.pointer (some p)]] w fun e w' => e = .returned (.int .i64 (ixk l0 a 0)) ∧ Below w.heap.size w w' := by
  have hu59 := Try.underlying59
  have Am := A_ Aj
  have Ao := A_ Ak
  have HP := A_ hp
  have HN := A_ hn
  have HB := A_ (Below.refl w.heap.size w)
  clear Aj Ak hp hn
  go_enter Try.func103, Try.ntmps103
  go_wp2
  go_loopg [8] l0.length (fun kq v8 w' => ∃ (x : Int), v8 = .int .i64 x ∧ Aside0 (0 ≤ x ∧ x ≤ (l0.length : Int)) ∧ Aside0 (kq = l0.length - x.toNat) ∧ Aside0 (ixk (l0.drop x.toNat) a x = ixk l0 a 0) ∧ Aside0 (Below w.heap.size w w'))
  case atStart => exact ⟨0, eq_b, ⟨by omega⟩, ⟨rfl⟩, ⟨rfl⟩, ⟨below_a⟩⟩
  case round =>
    obtain ⟨x, rfl, HI, HK1, HX, HB⟩ := hrel
    by_cases c4 : x < (l0.length : Int)
    · have Ah : decide (x < (l0.length : Int)) = true := decide_eq_true c4
      obtain ⟨k1, rfl⟩ : ∃ k1, gk = k1 + 1 := ⟨gk - 1, by have := HK1.out; have := HI.out; omega⟩
      have Ag : 0 ≤ (x : Int) := HI.out.1
      obtain ⟨Al, Ac, Ad, Ai, Aa, Ab, Ae, Af⟩ := at_T59 Am.out x Ag c4
      cases Ai
      replace Aa := hc_ HB Aa
      replace Ab := hc_ HB Ab
      clear Af Ae
      have hstep := ixk_drop l0 a x.toNat (by omega)
      rw [show ((x.toNat : Nat) : Int) = x by omega, show ((x.toNat + 1 : Nat) : Int) = x + 1 by omega, HX.out] at hstep
      have HWR : Aside0 (wrap64 (x + 1) = x + 1) := ⟨by have := HI.out; have := HN.out; unfold wrap64; omega⟩
      have HT : Aside0 ((x + 1).toNat = x.toNat + 1) := ⟨by omega⟩
      have HL : Aside0 (x < (l0.length : Int)) := ⟨c4⟩
      replace Ag := eq_true Ag
      have An := eq_true c4
      clear c4
      by_cases c5 : (rd_T59 l0 x).f0 = a
      · rw [if_pos c5] at hstep
        have HS := A_ hstep
        have c5b : ((rd_T59 l0 x).f0 == a) = true := by simp [c5]
        clear hstep c5
        go_wp2_with (go_at_call 104; (refine (clo104 a ((rd_T59 l0 x).f0) (.slice Ac (rd_T59 l0 x).f1.length Ad) rfl p _ ?sc).mono ?_); (case sc => exact (HB.out.cell (World.block_lt_of_cell? _ _ HP.out)).trans HP.out); rintro e w8 ⟨rfl, hb⟩; replace HB := hb2_ hb; clear hb)
        go_ret
        exact ⟨by rw [HS.out]; rfl, below_a⟩
      · rw [if_neg c5] at hstep
        have HS := A_ hstep
        have c5b : ((rd_T59 l0 x).f0 == a) = false := by simpa using c5
        clear hstep c5
        go_wp2_with (go_at_call 104; (refine (clo104 a ((rd_T59 l0 x).f0) (.slice Ac (rd_T59 l0 x).f1.length Ad) rfl p _ ?sc).mono ?_); (case sc => exact (HB.out.cell (World.block_lt_of_cell? _ _ HP.out)).trans HP.out); rintro e w8 ⟨rfl, hb⟩; replace HB := hb2_ hb; clear hb)
        go_roundg k1
        case measure => have := HK1.out; omega
        case rel => exact ⟨x + 1, by rw [HWR.out], ⟨by have := HI.out; have := HL.out; omega⟩, ⟨by rw [HT.out]; have := HK1.out; omega⟩, ⟨by rw [HT.out]; exact HS.out.symm⟩, ⟨below_a⟩⟩
    · have hge : x = l0.length := by have := HI.out; omega
      have Ah : decide (x < (l0.length : Int)) = false := decide_eq_false c4
      have HS := A_ (show ixk l0 a 0 = -1 from by rw [← HX.out, hge, Int.toNat_natCast, List.drop_length]; rfl)
      clear c4 hge
      go_wp2
      go_ret
      exact ⟨by rw [HS.out]; rfl, below_a⟩
theorem place82 (Af : Int) (Ab : Option Addr) (Ac : Nat) (Aa : List (S59)) (a1 : Int) (w : World) (Ad : Kd.C k59 w Ab Aa.length Aa) (Ae : Aa.length ≤ Ac) (hn : Aa.length ≤ 9223372036854775807) :
    Calls Try.prog 82 #[.agg #[.int .i64 Af, .slice Ab Aa.length Ac], .int .i64 a1] w fun e w' => e = .returned (.int .i64 (ixk Aa a1 0)) ∧ Below w.heap.size w w' := by
  have hu34 := Try.underlying34
  have HR := A_ Ad
  have HC := A_ Ae
  have HN := A_ hn
  have HB := A_ (Below.refl w.heap.size w)
  clear Ad Ae hn
  have hmf : ∀ (fn : Fn) (first cap : Array Value) (w : World), (Instr.makeFunc fn first cap).run Try.prog w = .ok (.func fn first cap) w := fun _ _ _ _ => rfl
  go_enter Try.func82, Try.ntmps82
  go_wp2_with (first | ((with_reducible refine d1_ 2 ?_); refine by_ 2 (#[.int .i64 Af, .slice Ab Aa.length Ac]) 34 ?_; intro Ah hg w5 hbox hb; replace HB := hb2_ hb; have Ag := A_ (hbox); clear hb hbox hg; have := bc2_ Ag.out) | ((with_reducible refine d1_ 3 ?_); refine by_ 3 (#[.int .i64 a1]) 2 ?_; intro Ai hg w7 hbox hb; replace Ag := bw_ Ah hb; replace HB := hb2_ hb; have Aj := A_ (hbox); clear hb hbox hg; have := bc2_ Ag.out) | (go_at_call 103; (refine (ixf103 Ab Ac Aa a1 ⟨Ai, 0, none⟩ _ ?s1 HC.out HN.out ?s2).mono ?_); (case s1 => exact Kd.C_below HR.out below_a); (case s2 => exact (blk_cell Aj.out 0).trans rfl); rintro e w8 ⟨rfl, hb⟩; replace HB := hb2_ hb; clear hb))
  go_ret
  exact ⟨rfl, below_a⟩
def impl_Ring_place.f (a0_0 : Int) (l0_1 : List (S59)) (a1 : Int) : Option Int := if l0_1.length ≤ 9223372036854775807 then some (ixk l0_1 a1 0) else none
theorem impl_Ring_place.calls (Ab : Int) (Ac : Option Addr) (Ad : Nat) (Aa : List (S59)) (a1 : Int) (r : Int) (w : World) (Ae : Kd.C k59 w Ac Aa.length Aa) (Af : Aa.length ≤ Ad) (h : impl_Ring_place.f Ab Aa a1 = some r) :
    Calls Try.prog 82 #[.agg #[.int .i64 Ab, .slice Ac Aa.length Ad], .int .i64 a1] w fun e w' => e = .returned (.int .i64 r) ∧ Below w.heap.size w w' := by
  unfold impl_Ring_place.f at h
  by_cases hn : Aa.length ≤ 9223372036854775807
  · rw [if_pos hn] at h
    obtain rfl := Option.some.inj h
    exact place82 Ab Ac Ad Aa a1 w Ae Af hn
  · rw [if_neg hn] at h
    cases h
mutual
def impl_RingFault.l0 : Nat → List (S59) → Int → Int → Int → List (S59) → Option (Int)
 | 0, _, _, _, _, _ => none
 | k + 1, Ae, Af, Ac, Aa, Ab => if Ac < Af then (if 0 ≤ Ac then (if Ac < (Ae.length : Int) then ((impl_Key_fault.f ((rd_T59 Ae Ac).f0) ((rd_T59 Ae Ac).f1)).bind fun Ad => (if Ad = 0 then (impl_RingFault.l0 k Ae Af (wrap64 (Ac + 1)) Aa Ab) else (some Ad))) else (none)) else (none)) else (impl_RingFault.l1 k 1 Aa Ab)
def impl_RingFault.l1 : Nat → Int → Int → List (S59) → Option (Int)
 | 0, _, _, _ => none
 | k + 1, x6, Ab, Aa => if x6 < (Aa.length : Int) then (if 0 ≤ (wrap64 (x6 - 1)) then (if (wrap64 (x6 - 1)) < (Aa.length : Int) then (if 0 ≤ x6 then (if ((rd_T59 Aa (wrap64 (x6 - 1))).f0) ≥ ((rd_T59 Aa x6).f0) then (some 1) else (impl_RingFault.l1 k (wrap64 (x6 + 1)) Ab Aa)) else (none)) else (none)) else (none)) else ((impl_Ring_place.f Ab Aa Ab).bind fun Ac => (if Ac < 0 then (some 4) else (some 0)))
end
def impl_RingFault.f (k : Nat) (a0_0 : Int) (l0_1 : List (S59)) : Option (Int) := (impl_in.f (l0_1.length : Int) 1 3).bind fun t330 => (if t330 = true then (impl_RingFault.l0 k l0_1 (l0_1.length : Int) 0 a0_0 l0_1) else (some 2))
theorem impl_RingFault.calls (k : Nat) (Ag : Int) (A1 : Option Addr) (A3 : Nat) (Aa : List (S59)) (r : Int) (w : World) (Bo : Kd.C k59 w A1 Aa.length Aa) (Bp : Aa.length ≤ A3) (h : impl_RingFault.f k Ag Aa = some r) :
  Calls Try.prog 40 #[.agg #[.int .i64 Ag, .slice A1 Aa.length A3]] w fun e w' => e = .returned (.int .i64 r) ∧ Below w.heap.size w w' := by
 have hu34 := Try.underlying34
 have hu59 := Try.underlying59
 have Ap := A_ Bo
 have Bc := A_ Bp
 clear Bo Bp
 have HB := A_ (Below.refl w.heap.size w)
 unfold impl_RingFault.f at h; have H := h; clear h
 obtain ⟨Bf, Cm, H⟩ := bi_ H
 (try dsimp only at H)
 have A2 := A_ Cm
 clear Cm
 have Cn := A_ H
 clear H
 go_enter Try.func40, Try.ntmps40
 go_upto_if 11 with (first | ((with_reducible refine d1_ 1 ?_); refine by_ 1 (#[.int .i64 Ag, .slice A1 Aa.length A3]) 34 ?_; intro Ad hg w4 hbox hb; have Ab := A_ (hbox); have Bq := gw_ (w := w) hg; replace HB := bs_ hb; clear hb hbox hg; obtain ⟨hcz5_0, hcz5_1, hfz5_0, hfz5_1⟩ := bc2_ Ab.out) | (go_at_call 68; (with_reducible refine (impl_in.calls (Aa.length : Int) 1 3 Bf _ A2.out).mono ?_); rintro e w' ⟨rfl, ⟨nd, rfl⟩⟩; (try first | exact ⟨rfl, _, World.drewN_drewN _ _ _⟩ | exact ⟨rfl, _, Eq.trans (World.drewN_drewN _ _ _) (congrArg (World.drewN _) (Nat.add_assoc _ _ _))⟩)))
 repeat (go_quiet (first | ((with_reducible refine d1_ 1 ?_); refine by_ 1 (#[.int .i64 Ag, .slice A1 Aa.length A3]) 34 ?_; intro Ad hg w4 hbox hb; have Ab := A_ (hbox); have Bq := gw_ (w := w) hg; replace HB := bs_ hb; clear hb hbox hg; obtain ⟨hcz5_0, hcz5_1, hfz5_0, hfz5_1⟩ := bc2_ Ab.out) | (go_at_call 68; (with_reducible refine (impl_in.calls (Aa.length : Int) 1 3 Bf _ A2.out).mono ?_); rintro e w' ⟨rfl, ⟨nd, rfl⟩⟩; (try first | exact ⟨rfl, _, World.drewN_drewN _ _ _⟩ | exact ⟨rfl, _, Eq.trans (World.drewN_drewN _ _ _) (congrArg (World.drewN _) (Nat.add_assoc _ _ _))⟩))); go_upto_if 11 with (first | ((with_reducible refine d1_ 1 ?_); refine by_ 1 (#[.int .i64 Ag, .slice A1 Aa.length A3]) 34 ?_; intro Ad hg w4 hbox hb; have Ab := A_ (hbox); have Bq := gw_ (w := w) hg; replace HB := bs_ hb; clear hb hbox hg; obtain ⟨hcz5_0, hcz5_1, hfz5_0, hfz5_1⟩ := bc2_ Ab.out) | (go_at_call 68; (with_reducible refine (impl_in.calls (Aa.length : Int) 1 3 Bf _ A2.out).mono ?_); rintro e w' ⟨rfl, ⟨nd, rfl⟩⟩; (try first | exact ⟨rfl, _, World.drewN_drewN _ _ _⟩ | exact ⟨rfl, _, Eq.trans (World.drewN_drewN _ _ _) (congrArg (World.drewN _) (Nat.add_assoc _ _ _))⟩))))
 (try simp only [P4_])
 have H := Cn.out
 clear Cn
 by_cases c6 : Bf = true
 ·
  subst c6; rw [if_pos rfl] at H; have H' := A_ H; clear H; obtain ⟨hcz7_0, hcz7_1, hfz7_0, hfz7_1⟩ := bc2_ Ab.out
  go_wp2
  repeat (go_quiet (fail); try go_wp2)
  go_loopg [15] k (fun kq Cy w' => ∃ (Ac : Int), Cy = .int .i64 Ac ∧ Aside0 (impl_RingFault.l0 kq Aa (Aa.length : Int) Ac Ag Aa = some r) ∧ Aside0 (kq ≤ k) ∧ Aside0 (w'.heap[Ad]? = some (.cells #[.int .i64 Ag, (.slice A1 Aa.length A3)] 34 (0, 0))) ∧ Aside0 (Below w.heap.size w w'))
  case atStart => exact ⟨(0), eq_b, H', ⟨Nat.le_refl _⟩, ⟨blk_a⟩, ⟨below_a⟩⟩
  case round =>
   clear H'
   try clear p2
   try clear c4
   try clear c6
   try clear hcz5_0 hcz5_1
   try clear hcz7_0 hcz7_1
   try clear hfz5_0 hfz5_1
   try clear hfz7_0 hfz7_1
   obtain ⟨Ac, rfl, HA, HK1, Ab, HB⟩ := hrel
   cases gk with
   | zero => exact absurd HA.out (by simp [impl_RingFault.l0])
   | succ k1 =>
    have H := HA.out; clear HA; simp only [impl_RingFault.l0] at H
    by_cases c8 : Ac < (Aa.length : Int)
    ·
     rw [if_pos c8] at H; have Cb := decide_eq_true c8; clear c8
     obtain ⟨c9, H⟩ := iq_ H; have Ch := decide_eq_true c9; clear c9
     obtain ⟨Ci, H⟩ := iq_ H; have Cc := decide_eq_true Ci; clear Ci; obtain ⟨Bg, Cj, H⟩ := bj_ H; (try dsimp only at H); have Cd := A_ H; clear H; have Bh : 0 ≤ (Ac : Int) := od_; have Bi : Ac < (Aa.length : Int) := od_; obtain ⟨Co, A4, A5, Ck, Av, Aw, Ba, Bb⟩ := at_T59 Ap.out Ac Bh Bi
     cases Ck
     replace Av := hc_ HB Av; replace Aw := hc_ HB Aw; have Ax := A_ Bb; have Ay := A_ Ba; clear Bb Ba; replace Bh := eq_true Bh; replace Bi := eq_true Bi
     go_upto_if 22 with (first | ((with_reducible refine d1_ 4 ?_); refine by_ 4 (#[.int .i64 0, .slice none 0 0]) 59 ?_; intro Az hg Cp hbox hb; have Aq := A_ (hbox); have Br := gw_ (w := w) hg; obtain ⟨As, Ae⟩ := bu_ Ad hg; replace Ab := bw_ Ad hb; replace HB := bs_ hb; clear hb hbox hg; have := nn_ Ae; obtain ⟨hcz15_0, hcz15_1, hfz15_0, hfz15_1⟩ := bc2_ Aq.out) | (go_at_call 81; (with_reducible refine (impl_Key_fault.calls ((rd_T59 Aa Ac).f0) _ _ ((rd_T59 Aa Ac).f1) Bg _ ?_ ?_ Cj.out).mono ?_); exact Kd.C_below Ax.out below_a; exact Ay.out; rintro e Cq ⟨rfl, hb⟩; replace Ab := bw_ Ad hb; replace Aq := A_ (blk_below (g := Az) (o := .cells #[.int .i64 ((rd_T59 Aa Ac).f0), .slice A4 ((rd_T59 Aa Ac).f1).length A5] 59 (0, 0)) blk_a hb); replace HB := bs_ hb; (try clear hb)))
     repeat (go_quiet (first | ((with_reducible refine d1_ 4 ?_); refine by_ 4 (#[.int .i64 0, .slice none 0 0]) 59 ?_; intro Az hg Cp hbox hb; have Aq := A_ (hbox); have Br := gw_ (w := w) hg; obtain ⟨As, Ae⟩ := bu_ Ad hg; replace Ab := bw_ Ad hb; replace HB := bs_ hb; clear hb hbox hg; have := nn_ Ae; obtain ⟨hcz15_0, hcz15_1, hfz15_0, hfz15_1⟩ := bc2_ Aq.out) | (go_at_call 81; (with_reducible refine (impl_Key_fault.calls ((rd_T59 Aa Ac).f0) _ _ ((rd_T59 Aa Ac).f1) Bg _ ?_ ?_ Cj.out).mono ?_); exact Kd.C_below Ax.out below_a; exact Ay.out; rintro e Cq ⟨rfl, hb⟩; replace Ab := bw_ Ad hb; replace Aq := A_ (blk_below (g := Az) (o := .cells #[.int .i64 ((rd_T59 Aa Ac).f0), .slice A4 ((rd_T59 Aa Ac).f1).length A5] 59 (0, 0)) blk_a hb); replace HB := bs_ hb; (try clear hb))); go_upto_if 22 with (first | ((with_reducible refine d1_ 4 ?_); refine by_ 4 (#[.int .i64 0, .slice none 0 0]) 59 ?_; intro Az hg Cp hbox hb; have Aq := A_ (hbox); have Br := gw_ (w := w) hg; obtain ⟨As, Ae⟩ := bu_ Ad hg; replace Ab := bw_ Ad hb; replace HB := bs_ hb; clear hb hbox hg; have := nn_ Ae; obtain ⟨hcz15_0, hcz15_1, hfz15_0, hfz15_1⟩ := bc2_ Aq.out) | (go_at_call 81; (with_reducible refine (impl_Key_fault.calls ((rd_T59 Aa Ac).f0) _ _ ((rd_T59 Aa Ac).f1) Bg _ ?_ ?_ Cj.out).mono ?_); exact Kd.C_below Ax.out below_a; exact Ay.out; rintro e Cq ⟨rfl, hb⟩; replace Ab := bw_ Ad hb; replace Aq := A_ (blk_below (g := Az) (o := .cells #[.int .i64 ((rd_T59 Aa Ac).f0), .slice A4 ((rd_T59 Aa Ac).f1).length A5] 59 (0, 0)) blk_a hb); replace HB := bs_ hb; (try clear hb))))
     (try simp only [P4_]); have H := Cd.out; clear Cd
     by_cases B0 : Bg = 0
     ·
      rw [if_pos B0] at H; obtain ⟨Au, Bs⟩ := be_ B0; clear B0; (first | rw [Au] | (simp only [i64_w, i32_w]; rw [Au]) | skip); have H' := A_ H; clear H
      go_wp2
      repeat (go_quiet (fail); try go_wp2)
      go_roundg k1
      case measure => have := HK1.out; omega
      case rel => exact ⟨(wrap64 (Ac + 1)), eq_b, H', ⟨by have := HK1.out; omega⟩, ⟨blk_a⟩, ⟨below_a⟩⟩
     rw [if_neg B0] at H; obtain ⟨Au, Bs⟩ := nb_ B0; (first | rw [Au] | (simp only [i64_w, i32_w]; rw [Au]) | skip); obtain rfl := Option.some.inj H
     go_wp2
     repeat (go_quiet (fail); try go_wp2)
     go_ret
     exact ⟨eq_a, below_a⟩
    rw [if_neg c8] at H; have Cb := decide_eq_false c8; clear c8; have H' := A_ H; clear H
    go_wp2
    repeat (go_quiet (fail); try go_wp2)
    go_loopg [6] k1 (fun kq v6 w' => ∃ (Af : Int), v6 = .int .i64 Af ∧ Aside0 (impl_RingFault.l1 kq Af Ag Aa = some r) ∧ Aside0 (kq ≤ k1) ∧ Aside0 (w'.heap[Ad]? = some (.cells #[.int .i64 Ag, (.slice A1 Aa.length A3)] 34 (0, 0))) ∧ Aside0 (Below w.heap.size w w'))
    case atStart => exact ⟨(1), eq_b, H', ⟨Nat.le_refl _⟩, ⟨blk_a⟩, ⟨below_a⟩⟩
    case round =>
     clear H'
     try clear c1
     try clear p2 p2
     try clear c3
     try clear p3
     try clear q3
     try clear Cz
     try clear c4
     try clear c6
     try clear p6
     try clear c8 Cb
     try clear c9 Ch
     try clear Ci Cc
     try clear C0
     try clear B0 Au Bs
     try clear hcz15_0 hcz15_1
     try clear hcz5_0 hcz5_1
     try clear hcz7_0 hcz7_1
     try clear hfz15_0 hfz15_1
     try clear hfz5_0 hfz5_1
     try clear hfz7_0 hfz7_1
     try clear Av Aw
     try clear Bh
     try clear Bi
     obtain ⟨Af, rfl, HA, HK2, Ab, HB⟩ := hrel
     cases gk with
     | zero => exact absurd HA.out (by simp [impl_RingFault.l1])
     | succ k2 =>
      have H := HA.out; clear HA; simp only [impl_RingFault.l1] at H
      by_cases B3 : Af < (Aa.length : Int)
      ·
       rw [if_pos B3] at H; have Ce := decide_eq_true B3; clear B3; obtain ⟨Ar, hji19⟩ : ∃ j_ : Int, (wrap64 (Af - 1)) = j_ := ⟨_, rfl⟩; first | rw [hji19] at H | simp only [hji19] at H
       have hji19w : (IntKind.i64.wrap (Af - 1)) = Ar := (i64_w _).trans hji19
       obtain ⟨Cr, H⟩ := iq_ H; have Cs := decide_eq_true Cr; clear Cr
       obtain ⟨Ct, H⟩ := iq_ H; have Cu := decide_eq_true Ct; clear Ct
       obtain ⟨Cv, H⟩ := iq_ H; have Cw := decide_eq_true Cv; clear Cv
       by_cases B4 : ((rd_T59 Aa (Ar)).f0) ≥ ((rd_T59 Aa Af).f0)
       ·
        rw [if_pos B4] at H; have Cf : decide (((rd_T59 Aa Af).f0) ≤ ((rd_T59 Aa (Ar)).f0)) = true := decide_eq_true B4; clear B4; obtain rfl := Option.some.inj H; have := bc2_ Ab.out; have A6 : 0 ≤ ((Ar) : Int) := od_; have A7 : (Ar) < (Aa.length : Int) := od_; obtain ⟨Bd, Bt, Bu, Bv, Ah, Ai, Aj, Ak⟩ := at_T59 Ap.out (Ar) A6 A7
        cases Bv
        replace Ah := hc_ HB Ah; replace Ai := hc_ HB Ai; have Bj := A_ Ak; have Bk := A_ Aj; clear Ak Aj; replace A6 := eq_true A6; replace A7 := eq_true A7; have A8 : 0 ≤ (Af : Int) := od_; have A9 : Af < (Aa.length : Int) := od_; obtain ⟨Be, Bw, Bx, Bz, Al, Am, An, Ao⟩ := at_T59 Ap.out Af A8 A9; obtain rfl : Bd = Be := (by injection Bz); replace Al := hc_ HB Al; replace Am := hc_ HB Am; have Bl := A_ Ao; have Bm := A_ An; clear Ao An; replace A8 := eq_true A8; replace A9 := eq_true A9
        go_wp2
        repeat (go_quiet (fail); try go_wp2)
        go_ret
        exact ⟨by first | rfl | (simp [errW_none, errW_some] <;> rfl) | (simp only [← hji19]; first | rfl | (simp [errW_none, errW_some] <;> rfl)) | (simp [*, errW_none, errW_some] <;> rfl), below_a⟩
       rw [if_neg B4] at H; have Cf : decide (((rd_T59 Aa Af).f0) ≤ ((rd_T59 Aa (Ar)).f0)) = false := decide_eq_false B4; clear B4; have H' := A_ H; clear H; have := bc2_ Ab.out; have A6 : 0 ≤ ((Ar) : Int) := od_; have A7 : (Ar) < (Aa.length : Int) := od_; obtain ⟨Bd, Bt, Bu, Bv, Ah, Ai, Aj, Ak⟩ := at_T59 Ap.out (Ar) A6 A7
       cases Bv
       replace Ah := hc_ HB Ah; replace Ai := hc_ HB Ai; have Bj := A_ Ak; have Bk := A_ Aj; clear Ak Aj; replace A6 := eq_true A6; replace A7 := eq_true A7; have A8 : 0 ≤ (Af : Int) := od_; have A9 : Af < (Aa.length : Int) := od_; obtain ⟨Be, Bw, Bx, Bz, Al, Am, An, Ao⟩ := at_T59 Ap.out Af A8 A9; obtain rfl : Bd = Be := (by injection Bz); replace Al := hc_ HB Al; replace Am := hc_ HB Am; have Bl := A_ Ao; have Bm := A_ An; clear Ao An; replace A8 := eq_true A8; replace A9 := eq_true A9
       go_wp2
       repeat (go_quiet (fail); try go_wp2)
       go_roundg k2
       case measure => have := HK1.out; have := HK2.out; omega
       case rel => exact ⟨(wrap64 (Af + 1)), eq_b, H', ⟨by have := HK1.out; have := HK2.out; omega⟩, ⟨blk_a⟩, ⟨below_a⟩⟩
      rw [if_neg B3] at H; have Ce := decide_eq_false B3; clear B3; obtain ⟨Bn, Cl, H⟩ := bj_ H; (try dsimp only at H); have Cg := A_ H; clear H; have := bc2_ Ab.out
      go_upto_if 50 with (first | (go_at_call 82; (with_reducible refine (impl_Ring_place.calls Ag _ _ Aa Ag Bn _ ?_ ?_ Cl.out).mono ?_); exact ca_ (Kd.C_below Ap.out HB.out); exact Bc.out; rintro e Cx ⟨rfl, hb⟩; replace Ab := bw_ Ad hb; replace HB := bs_ hb; (try clear hb)))
      repeat (go_quiet (first | (go_at_call 82; (with_reducible refine (impl_Ring_place.calls Ag _ _ Aa Ag Bn _ ?_ ?_ Cl.out).mono ?_); exact ca_ (Kd.C_below Ap.out HB.out); exact Bc.out; rintro e Cx ⟨rfl, hb⟩; replace Ab := bw_ Ad hb; replace HB := bs_ hb; (try clear hb))); go_upto_if 50 with (first | (go_at_call 82; (with_reducible refine (impl_Ring_place.calls Ag _ _ Aa Ag Bn _ ?_ ?_ Cl.out).mono ?_); exact ca_ (Kd.C_below Ap.out HB.out); exact Bc.out; rintro e Cx ⟨rfl, hb⟩; replace Ab := bw_ Ad hb; replace HB := bs_ hb; (try clear hb))))
      (try simp only [P4_]); have H := Cg.out; clear Cg
      by_cases Ca : Bn < 0
      ·
       rw [if_pos Ca] at H; have A0 := decide_eq_true Ca; clear Ca; (first | rw [A0] | (simp only [i64_w, i32_w]; rw [A0]) | skip); obtain rfl := Option.some.inj H
       go_wp2
       repeat (go_quiet (fail); try go_wp2)
       go_ret
       exact ⟨eq_a, below_a⟩
      rw [if_neg Ca] at H; have A0 := decide_eq_false Ca; clear Ca; (first | rw [A0] | (simp only [i64_w, i32_w]; rw [A0]) | skip); obtain rfl := Option.some.inj H
      go_wp2
      repeat (go_quiet (fail); try go_wp2)
      go_ret
      exact ⟨eq_a, below_a⟩
 replace c6 := Bool.eq_false_iff.mpr c6; subst c6; rw [if_neg ff_] at H; obtain rfl := Option.some.inj H
 go_wp2
 repeat (go_quiet (fail); try go_wp2)
 go_ret
 exact ⟨eq_a, below_a⟩
def bytes_Clone.f (l0 : List Int) : Option (List Int) := if l0.length < 140737488355328 then some l0 else none
theorem bytes_Clone.calls (A0 : Option Addr) (c0 : Nat) (l0 : List Int) (r : List Int) (w : World) (Aa : Kd.C (Kd.int .u8) w A0 l0.length l0) (Ab : l0.length ≤ c0) (h : bytes_Clone.f l0 = some r) :
    Calls Try.prog 105 #[.slice A0 l0.length c0] w fun e w' => ∃ v0_ : Value, e = .returned (v0_) ∧ Kd.R (Kd.int .u8) 5 w' w.heap.size (fun _ => True) v0_ r ∧ Below w.heap.size w w' := by
  have qnil : ∀ (w : World) (a : Option Addr) (n c n' c' : Nat), (binOp .eql 25 (.slice a n c) (.slice none n' c')).run Try.prog w = .ok (.bool a.isNone) w := fun w a n c n' c' => Lib.run_eql_slice_nil w _ _ a n c n' c' Try.underlying25
  unfold bytes_Clone.f at h
  by_cases c1 : l0.length < 140737488355328
  rotate_left
  · rw [if_neg c1] at h; exact absurd h (by simp)
  rw [if_pos c1] at h
  obtain rfl := Option.some.inj h
  clear h
  cases A0 with
  | none =>
    have hl : l0 = [] := by
      cases l0 with
      | nil => rfl
      | cons x t =>
        obtain ⟨ad, h1, _⟩ := Aa.2.2 (by simp)
        cases h1
    subst hl
    have HC := A_ Ab
    clear c1 Aa Ab
    by_cases hz : c0 = 0
    · subst hz
      go_enter Try.func105, Try.ntmps105
      go_wp2
      go_ret
      exact ⟨_, rfl, Kd.R_nil _ _ _ _ _, Below.refl _ _⟩
    · go_enter Try.func105, Try.ntmps105
      go_wp2
      go_ret
      exact ⟨_, rfl, Kd.R_nil _ _ _ _ _, Below.refl _ _⟩
  | some ad =>
    have Ac := A_ Aa
    have HL := A_ c1
    clear Aa Ab c1
    go_enter Try.func105, Try.ntmps105
    go_wp2_with (first
      | ((with_reducible refine d1_ 5 ?_); refine Kd.R_lit (Kd.int .u8) _ 5 ?hg (N := 5) ?hd (xs := ([] : List Int)) (inner := []) (ok := fun _ => True) (okp := fun _ => True) ?hr ?hp (fun _ hk => hk) trivial (Below.refl _ _) (Nat.le_refl _) (by simp) ?_; (case hd => rfl); (case hg => rfl); (case hr => go_simp <;> rfl); (case hp => exact (Reps.none _ _)); intro v5 w5 ho hb hg_ hnew_; clear hg_ hnew_; have HO := A_ ho; have HB := A_ hb; clear ho hb)
      | ((with_reducible refine gate_builtin (b := .append) (xs := #[.tmp 5, .tmp 6]) rfl ?_); at_builtin; refine Kd.R_append_rows (Kd.int .u8) (w0 := w) w.heap.size rfl (.tmp 5) (.tmp 6) 25 5 (.int .u8 0) 1 rfl Try.underlying25 info5 rfl (by decide) (by omega) v5 ([] : List Int) l0 _ _ _ (fun _ => True) (fun _ => False) rfl rfl ?aO ?aR (fun _ _ h => h) (fun _ h => h.elim) ?aF ?aB ?aS ?aL ?_; (case aR => exact Kd.C_below Ac.out HB.out); (case aB => exact HB.out); (case aF => exact (fun _ _ => trivial)); (case aO => exact HO.out); (case aS => exact HB.out.size); (case aL => have := HL.out; simp only [List.length_nil]; omega); intro v7 w7 ho hb hg hat; clear HO HB hg hat; have HO := A_ ho; have HB := A_ hb; clear ho hb))
    go_ret
    exact ⟨_, rfl, HO.out, HB.out⟩
def impl_ownKey.f (a0_0 : Int) (l0_1 : List Int) : Option (Int × List Int) := (bytes_Clone.f l0_1).bind fun t339 => (some (a0_0, t339))
theorem impl_ownKey.calls (Ah : Int) (Ai : Option Addr) (Aj : Nat) (Af : List Int) (r1 : Int) (r2 : List Int) (w : World) (Ak : Kd.C (Kd.int .u8) w Ai Af.length Af) (Al : Af.length ≤ Aj) (h : impl_ownKey.f Ah Af = some (r1, r2)) :
  Calls Try.prog 83 #[.agg #[.int .i64 Ah, .slice Ai Af.length Aj]] w fun e w' => ∃ v1_ : Value, e = .returned (.agg #[.int .i64 r1, v1_]) ∧ Kd.R (Kd.int .u8) 5 w' w.heap.size (fun _ => True) v1_ r2 ∧ Below w.heap.size w w' := by
 have hu59 := Try.underlying59
 have An := A_ Ak
 have Ao := A_ Al
 clear Ak Al
 have HB := A_ (Below.refl w.heap.size w)
 unfold impl_ownKey.f at h; have H := h; clear h
 obtain ⟨Ap, Aq, H⟩ := bi_ H
 (try dsimp only at H)
 have A2 := A_ Aq
 clear Aq
 simp only [Option.some.injEq, Prod.mk.injEq] at H
 obtain ⟨rfl, rfl⟩ := H
 go_enter Try.func83, Try.ntmps83
 try go_wp2_with (first | ((with_reducible refine d1_ 1 ?_); refine by_ 1 (#[.int .i64 Ah, .slice Ai Af.length Aj]) 59 ?_; intro Ag hg w3 hbox hb; have Ad := A_ (hbox); have Ar := gw_ (w := w) hg; replace HB := bs_ hb; clear hb hbox hg) | ((with_reducible refine d1_ 2 ?_); refine by_ 2 (#[.int .i64 0, .slice none 0 0]) 59 ?_; intro Ab hg w4 hbox hb; have Ac := A_ (hbox); have As := gw_ (w := w) hg; obtain ⟨Aa, Ae⟩ := bu_ Ag hg; replace Ad := bw_ Ag hb; replace HB := bs_ hb; clear hb hbox hg))
 replace Ad := bd_ Ad
 replace Ac := bd_ Ac
 replace HB := A_ (below_drew1 HB.out)
 refine start_ (n := 7) (S := fun w' => w'.cell? ⟨Ag, 0, none⟩ = some (.int .i64 Ah) ∧ w'.cell? ⟨Ag, 1, none⟩ = some (.slice Ai Af.length Aj)) (ds := []) #[Z',Z',Z',Z',Z',Z',Z'] (by kernel_rfl) rfl rfl (bz2_ Ad.out) (fun hHeld => ?_)
 generalize w4.drew = w5 at Ad Ac HB hHeld ⊢
 refine pure_ (i := 0) (N := some 3) (v := ?_) (a' := ?_) #[Y',Z',Z',Z',Z',Z',Z'] rfl rfl (by kernel_rfl) (fun _ _ _ h => h) (Or.inl ⟨by rfl, ?_⟩) ?_ ?_
 rotate_left
 ·
  intro w'
  go_simp
  with_reducible rfl
 rotate_left
 ·
  simp only [P4_]; rfl
 refine pure_ (i := 2) (N := some 5) (v := ?_) (a' := ?_) #[Y',Z',Y',Z',Z',Z',Z'] rfl rfl (by kernel_rfl) (fun _ _ _ h => h) (Or.inl ⟨by rfl, ?_⟩) ?_ ?_
 rotate_left
 ·
  intro w'
  go_simp
  with_reducible rfl
 rotate_left
 ·
  simp only [P4_]; rfl
 refine take_ (i := 1) (N := some 4) (v := ?_) (a' := ?_) #[Y',Y',Y',Z',Z',Z',Z'] rfl rfl (by kernel_rfl) (fun _ _ _ h => h) (Or.inl ⟨by rfl, ?_⟩) hHeld ?_ ?_
 rotate_left
 ·
  rintro w' ⟨s0, s1⟩
  go_simp
  with_reducible rfl
 rotate_left
 ·
  simp only [P4_]; rfl
 refine take_ (i := 3) (N := some 6) (v := ?_) (a' := ?_) #[Y',Y',Y',Y',Z',Z',Z'] rfl rfl (by kernel_rfl) (fun _ _ _ h => h) (Or.inl ⟨by rfl, ?_⟩) hHeld ?_ ?_
 rotate_left
 ·
  rintro w' ⟨s0, s1⟩
  go_simp
  with_reducible rfl
 rotate_left
 ·
  simp only [P4_]; rfl
 refine one_ (i := 4) (N := some 7) #[Y',Y',Y',Y',Y',Z',Z'] rfl rfl (by kernel_rfl) (by decide) (fun K hK => ?_)
 refine gs_ Try.func105 #[.slice Ai Af.length Aj] ?_
 with_reducible refine (bytes_Clone.calls _ _ Af Ap _ ?side1 ?side2 A2.out).mono ?_
 (case side1 => exact ca_ (Kd.C_below An.out HB.out))
 (case side2 => exact Ao.out)
 rintro e w6 ⟨Aw, rfl, Au, hb⟩
 refine ⟨_, rfl, ?_⟩
 have Am := A_ (Kd.R_lower Au (below_size below_a))
 replace Ad := bw_ Ag hb
 replace Ac := bw_ Ab hb
 replace HB := bs_ hb
 (try clear hb)
 (try clear hb2)
 (try clear hk)
 (try clear hi)
 (try clear Au)
 obtain ⟨Ax, Ay, Av⟩ := Kd.R_slice Am.out
 (first | subst Av | (injection Av with f1_ f2_ f3_; have f4_ := f1_.symm; have f5_ := f3_.symm; clear f1_ f2_ f3_; subst f4_; subst f5_))
 refine hK.out _ _ (bz2_ Ad.out) (fun hHeld => ?_)
 clear hK K
 refine norm_ (a' := ?_) ?_ ?_
 rotate_left
 ·
  show Act.put _ (some 7) _ = _; simp only [P4_]; rfl
 refine pure_ (i := 5) (N := some 8) (v := ?_) (a' := ?_) #[Y',Y',Y',Y',Y',Y',Z'] rfl rfl (by kernel_rfl) (fun _ _ _ h => h) (Or.inl ⟨by rfl, ?_⟩) ?_ ?_
 rotate_left
 ·
  intro w'
  go_simp
  with_reducible rfl
 rotate_left
 ·
  simp only [P4_]; rfl
 refine one_ (i := 6) (N := none) #[Y',Y',Y',Y',Y',Y',Y'] rfl rfl (by kernel_rfl) (by decide) (fun K hK => ?_)
 have hs8 : w6.cell? ⟨Ab, 0, none⟩ = some (.int .i64 0) := (blk_cell Ac.out 0).trans rfl
 have hfs8 := blk_frozen Ac.out 0
 have hns8_0 := Aa.out
 have hms8_0 := Ae.out
 have hs9 : w6.cell? ⟨Ab, 1, none⟩ = some (.slice none 0 0) := (blk_cell Ac.out 1).trans rfl
 have hfs9 := blk_frozen Ac.out 1
 have hns9_0 := Aa.out
 have hms9_0 := Ae.out
 refine skip_ (w1 := ?_) (by rfl) rfl ?_ ?_
 rotate_left
 ·
  go_simp
  rfl
 refine hK.out _ _ ⟨((cell_far (p := ⟨Ab, _, none⟩) Aa.out _).trans (((cell_far (p := ⟨Ab, _, none⟩) Aa.out _).trans (hHeld.1)))), ((cell_far (p := ⟨Ab, _, none⟩) Aa.out _).trans (((cell_far (p := ⟨Ab, _, none⟩) Aa.out _).trans (hHeld.2))))⟩ (fun hHeld => ?_)
 clear hK K
 refine done_ (by kernel_rfl) ?_
 try go_wp2
 refine bodyPost_ret (results_cell_row rfl _ _ Ab 59 #[.int .i64 Ah, .slice Ax Ap.length Ay] (0, 0) _ rfl blk_a Try.underlying59 rfl (by kernel_rfl)) rfl ?_
 exact ⟨_, eq_a, rp_ Am, below_a⟩
def impl_FindKey.f (k : Nat) (Ad : Int) (Aa : List (S59)) (a1 : Int) : Option (Int × Int × List Int) := (impl_RingFault.f k Ad Aa).bind fun Ae => (if Ae = 0 then ((impl_Ring_place.f Ad Aa a1).bind fun Ab => (if Ab < 0 then (some (4, 0, ([] : List Int))) else (if 0 ≤ Ab then (if Ab < (Aa.length : Int) then ((impl_ownKey.f ((rd_T59 Aa Ab).f0) ((rd_T59 Aa Ab).f1)).bind fun Ac => (some (0, Ac.1, Ac.2))) else (none)) else (none)))) else (some (Ae, 0, ([] : List Int))))
theorem impl_FindKey.calls (k : Nat) (Ak : Int) (Ap : Option Addr) (Aq : Nat) (Aa : List (S59)) (a1 : Int) (r1 : Int) (r2 : Int) (r3 : List Int) (w : World) (Av : Kd.C k59 w Ap Aa.length Aa) (Aw : Aa.length ≤ Aq) (h : impl_FindKey.f k Ak Aa a1 = some (r1, r2, r3)) :
  Calls Try.prog 41 #[.agg #[.int .i64 Ak, .slice Ap Aa.length Aq], .int .i64 a1] w fun e w' => ∃ v2_ : Value, e = .returned (.agg #[.int .i64 r1, .int .i64 r2, v2_]) ∧ Kd.R (Kd.int .u8) 5 w' w.heap.size (fun _ => True) v2_ r3 ∧ Below w.heap.size w w' := by
 have hu34 := Try.underlying34
 have hu61 := Try.underlying61
 have hu59 := Try.underlying59
 have Ar := A_ Av
 have Ax := A_ Aw
 clear Av Aw
 have HB := A_ (Below.refl w.heap.size w)
 unfold impl_FindKey.f at h; have H := h; clear h
 obtain ⟨Az, Bf, H⟩ := bi_ H
 (try dsimp only at H)
 have A3 := A_ Bf
 clear Bf
 have Bg := A_ H
 clear H
 go_enter Try.func41, Try.ntmps41
 go_upto_if 10 with (first | ((with_reducible refine d1_ 2 ?_); refine by_ 2 (#[.int .i64 Ak, .slice Ap Aa.length Aq]) 34 ?_; intro Ah hg w5 hbox hb; have Ac := A_ (hbox); have Bh := gw_ (w := w) hg; replace HB := bs_ hb; clear hb hbox hg) | ((with_reducible refine d1_ 4 ?_); refine by_ 4 (#[.int .i64 0, .int .i64 0, .slice none 0 0]) 61 ?_; intro Ad hg w6 hbox hb; have Ae := A_ (hbox); have Bi := gw_ (w := w) hg; obtain ⟨Ab, Af⟩ := bu_ Ah hg; replace Ac := bw_ Ah hb; replace HB := bs_ hb; clear hb hbox hg; have := nn_ Ab; have := bc2_ Ac.out) | ((with_reducible refine f1_ 40 ?_); refine gl_ (some 8) Try.func40 #[.agg #[.int .i64 Ak, .slice Ap Aa.length Aq]] ?_; (with_reducible refine (impl_RingFault.calls k Ak _ _ Aa Az _ ?_ ?_ A3.out).mono ?_); exact ca_ (Kd.C_below Ar.out HB.out); exact Ax.out; rintro e w9 ⟨rfl, hb⟩; refine ⟨_, rfl, ?_⟩; replace Ac := bw_ Ah hb; replace Ae := bw_ Ad hb; replace HB := bs_ hb; (try clear hb)))
 (try simp only [P4_])
 have H := Bg.out
 clear Bg
 by_cases A7 : Az = 0
 ·
  rw [if_pos A7] at H; obtain ⟨Ai, A8⟩ := be_ A7; clear A7; (first | rw [Ai] | (simp only [i64_w, i32_w]; rw [Ai]) | skip); obtain ⟨Ag, Bp, H⟩ := bj_ H; (try dsimp only at H); have A9 := A_ H; clear H; have := nn_ Ab; have := bc2_ Ac.out
  go_upto_if 17 with (first | ((with_reducible refine f1_ 82 ?_); refine gl_ (some 15) Try.func82 #[.agg #[.int .i64 Ak, .slice Ap Aa.length Aq], .int .i64 a1] ?_; (with_reducible refine (impl_Ring_place.calls Ak _ _ Aa a1 Ag _ ?_ ?_ Bp.out).mono ?_); exact ca_ (Kd.C_below Ar.out HB.out); exact Ax.out; rintro e Bs ⟨rfl, hb⟩; refine ⟨_, rfl, ?_⟩; replace Ac := bw_ Ah hb; replace Ae := bw_ Ad hb; replace HB := bs_ hb; (try clear hb)))
  (try simp only [P4_]); have H := A9.out; clear A9
  by_cases A6 : Ag < 0
  ·
   rw [if_pos A6] at H; have Aj := decide_eq_true A6; clear A6; (first | rw [Aj] | (simp only [i64_w, i32_w]; rw [Aj]) | skip); obtain ⟨rfl, rfl, rfl⟩ := s3_ H; have := nn_ Af; have := bc3_ Ae.out
   go_wp2
   refine bodyPost_ret (v := .agg #[.int .i64 4, .int .i64 0, .slice none 0 0]) ?_ rfl ?_; exact rc_ Ad Try.underlying61; exact ⟨_, eq_a, by first | exact Kd.R_nil _ _ _ _ _ | exact Kd.N_nil _ _ _ _ _ | exact Kd.V_nil _ _ _ _ _ | exact Kd.Q_nil _ _ _ _ _ | exact Kd.S_nil _ _ _ _ _, below_a⟩
  rw [if_neg A6] at H; have Aj := decide_eq_false A6; clear A6; (first | rw [Aj] | (simp only [i64_w, i32_w]; rw [Aj]) | skip)
  obtain ⟨Bj, H⟩ := iq_ H; have Bk := decide_eq_true Bj; clear Bj
  obtain ⟨Bl, H⟩ := iq_ H; have Bm := decide_eq_true Bl; clear Bl; obtain ⟨⟨Ba, Bb⟩, Bq, H⟩ := bj_ H; (try dsimp only at H); obtain ⟨rfl, rfl, rfl⟩ := s3_ H; have := nn_ Ab; have := bc2_ Ac.out; have A0 : 0 ≤ (Ag : Int) := od_; have A1 : Ag < (Aa.length : Int) := od_; obtain ⟨Bn, A4, A5, Bc, Al, Am, An, Ao⟩ := at_T59 Ar.out Ag A0 A1
  cases Bc
  replace Al := hc_ HB Al; replace Am := hc_ HB Am; have As := A_ Ao; have Au := A_ An; clear Ao An; replace A0 := eq_true A0; replace A1 := eq_true A1
  go_wp2_with (first | ((with_reducible refine f1_ 83 ?_); refine gl_ (some 24) Try.func83 #[.agg #[.int .i64 ((rd_T59 Aa Ag).f0), .slice A4 ((rd_T59 Aa Ag).f1).length A5]] ?_; (with_reducible refine (impl_ownKey.calls ((rd_T59 Aa Ag).f0) _ _ ((rd_T59 Aa Ag).f1) Ba Bb _ ?_ ?_ Bq.out).mono ?_); exact ca_ (Kd.C_below As.out HB.out); exact Au.out; rintro e Bt ⟨Br, rfl, Bo, hb⟩; refine ⟨_, rfl, ?_⟩; have Ay := A_ (Kd.R_lower Bo (below_size below_a)); replace Ac := bw_ Ah hb; replace Ae := bw_ Ad hb; replace HB := bs_ hb; (try clear hb Bo); obtain ⟨Bd, Be, rfl⟩ := Kd.R_slice Ay.out; have := bc3_ Ae.out))
  refine bodyPost_ret (v := .agg #[.int .i64 0, .int .i64 Ba, .slice Bd Bb.length Be]) ?_ rfl ?_; exact rc_ Ad Try.underlying61; exact ⟨_, eq_a, rp_ Ay, below_a⟩
 rw [if_neg A7] at H; obtain ⟨Ai, A8⟩ := nb_ A7; (first | rw [Ai] | (simp only [i64_w, i32_w]; rw [Ai]) | skip); obtain ⟨rfl, rfl, rfl⟩ := s3_ H; have := nn_ Af; have := bc3_ Ae.out
 go_wp2
 refine bodyPost_ret (v := .agg #[.int .i64 Az, .int .i64 0, .slice none 0 0]) ?_ rfl ?_; exact rc_ Ad Try.underlying61; exact ⟨_, eq_a, by first | exact Kd.R_nil _ _ _ _ _ | exact Kd.N_nil _ _ _ _ _ | exact Kd.V_nil _ _ _ _ _ | exact Kd.Q_nil _ _ _ _ _ | exact Kd.S_nil _ _ _ _ _, below_a⟩
def impl_noBytes.f (a0 : Int) : Option (Int × List Int) := some (a0, ([] : List Int))
theorem impl_noBytes.calls (a0 : Int) (r1 : Int) (r2 : List Int) (w : World) (h : impl_noBytes.f a0 = some (r1, r2)) :
  Calls Try.prog 54 #[.int .i64 a0] w fun e w' => ∃ v1_ : Value, e = .returned (.agg #[.int .i64 r1, v1_]) ∧ Kd.R (Kd.int .u8) 5 w' w.heap.size (fun _ => True) v1_ r2 ∧ Below w.heap.size w w' := by
 have hu48 := Try.underlying48
 have HB := A_ (Below.refl w.heap.size w)
 unfold impl_noBytes.f at h; have H := h; clear h
 simp only [Option.some.injEq, Prod.mk.injEq] at H
 obtain ⟨rfl, rfl⟩ := H
 go_enter Try.func54, Try.ntmps54
 go_wp2_with (first | ((with_reducible refine d1_ 2 ?_); refine by_ 2 (#[.int .i64 0, .slice none 0 0]) 48 ?_; intro Aa hg w2 hbox hb; have Ab := A_ (hbox); have Ac := gw_ (w := w) hg; replace HB := bs_ hb; clear hb hbox hg; have := bc2_ Ab.out))
 refine bodyPost_ret (results_cell_row rfl _ _ Aa 48 #[.int .i64 a0, .slice none 0 0] (0, 0) _ rfl blk_a Try.underlying48 rfl (by kernel_rfl)) rfl ?_
 exact ⟨_, eq_a, by first | exact Kd.R_nil _ _ _ _ _ | exact Kd.N_nil _ _ _ _ _ | exact Kd.V_nil _ _ _ _ _ | exact Kd.Q_nil _ _ _ _ _ | exact Kd.S_nil _ _ _ _ _, below_a⟩
def bytes_Equal.f (l0 : List Int) (l1 : List Int) : Option (Bool) := some ((strOfNums l0).toList == (strOfNums l1).toList)
theorem bytes_Equal.calls (A0 : Option Addr) (c0 : Nat) (l0 : List Int) (A1 : Option Addr) (c1 : Nat) (l1 : List Int) (r : Bool) (w : World) (Aa : Kd.C (Kd.int .u8) w A0 l0.length l0) (Ab : l0.length ≤ c0) (Ac : Kd.C (Kd.int .u8) w A1 l1.length l1) (Ad : l1.length ≤ c1) (h : bytes_Equal.f l0 l1 = some r) :
  Calls Try.prog 69 #[.slice A0 l0.length c0, .slice A1 l1.length c1] w fun e w' => e = .returned (.bool r) ∧ Drawn0 w w' := by
 have Ae := A_ Aa
 have Ag := A_ Ab
 clear Aa Ab
 have Af := A_ Ac
 have Ah := A_ Ad
 clear Ac Ad
 unfold bytes_Equal.f at h; have H := h; clear h
 obtain rfl := Option.some.inj H
 have hcv3 := Kd.C_string (P := Try.prog) (A := A0) (c := c0) Try.underlying25 Try.underlying5 Try.underlying9 Ae.out
 have hcv4 := Kd.C_string (P := Try.prog) (A := A1) (c := c1) Try.underlying25 Try.underlying5 Try.underlying9 Af.out
 go_enter Try.func69, Try.ntmps69
 go_wp2
 go_ret
 exact ⟨eq_b, by repeat (first | exact Drawn0.refl _ | apply Drawn0.step)⟩
def slices_Grow_byte_byte.f (l0 : List Int) (a1 : Int) : Option (List Int) := if l0.length = 0 then (if 0 ≤ a1 then (if a1 < 140737488355328 then some [] else none) else none) else none
theorem slices_Grow_byte_byte.calls (A0 : Option Addr) (c0 : Nat) (l0 : List Int) (a1 : Int) (r : List Int) (w : World) (Ab : Kd.C (Kd.int .u8) w A0 l0.length l0) (Ac : l0.length ≤ c0) (hA0 : A0 = none) (hC0 : c0 = 0) (h : slices_Grow_byte_byte.f l0 a1 = some r) :
    Calls Try.prog 91 #[.slice A0 l0.length c0, .int .i64 a1] w fun e w' => ∃ v0_ : Value, e = .returned (v0_) ∧ Kd.R (Kd.int .u8) 5 w' w.heap.size (fun _ => True) v0_ r ∧ Below w.heap.size w w' := by
  subst hA0 hC0
  obtain rfl : l0 = [] := List.length_eq_zero_iff.1 (by omega)
  clear Ab Ac
  unfold slices_Grow_byte_byte.f at h
  rw [if_pos (show ([] : List Int).length = 0 from rfl)] at h
  by_cases c1 : 0 ≤ a1
  rotate_left
  · rw [if_neg c1] at h; exact absurd h (by simp)
  rw [if_pos c1] at h
  by_cases c2 : a1 < 140737488355328
  rotate_left
  · rw [if_neg c2] at h; exact absurd h (by simp)
  rw [if_pos c2] at h
  obtain rfl := Option.some.inj h
  clear h
  obtain ⟨n, rfl⟩ : ∃ n : Nat, a1 = (n : Int) := ⟨a1.toNat, by omega⟩
  obtain ⟨i0, Aa, hz0, hsz, hby⟩ := info_parts info5
  have h1 : ¬ ((n : Int) < 0) := by omega
  by_cases hn : n = 0
  · subst hn
    go_enter Try.func91, Try.ntmps91
    go_wp2
    go_ret
    exact ⟨_, rfl, Kd.R_nil _ _ _ _ _, Below.refl _ _⟩
  · have h4 : (n : Int) > 0 := by omega
    have hold : (Builtin.firstCells i0.size 0 (.slice none 0 0)).run Try.prog w.drew = .ok ([] : List Value).toArray w.drew := run_firstCells_none w.drew i0.size 0 0 0
    have hrz : ∀ ty, (Builtin.append_ #[25, 3] ty #[.slice none 0 0, .int .i64 (n : Int)]).run Try.prog w = _ := fun ty =>
      Lib.run_append_grow_zeros w 25 3 ty 5 i0 (.int .u8 0) .i64 .i64 Try.underlying25 Try.underlying3 Aa hz0 none 0 0 [] hold n (by omega) (by rw [hsz]; omega) (by omega) (by omega) (by rw [hby]; omega) (by rw [hby]; exact growslice_fits (by omega) (by omega))
    have hGn : 0 + n ≤ grownCap w (0 + n) 0 5 := grownCap_ge w _ _ _
    have hGm := grownCap_le_maxLen w (0 + n) 0 5 (by unfold maxLen; omega)
    obtain ⟨G, hG⟩ : ∃ G, G = grownCap w (0 + n) 0 5 := ⟨_, rfl⟩
    rw [← hG] at hrz hGn hGm
    have HG := A_ hGm
    have C2 := A_ c2
    clear hGm hold hG Aa hz0 hsz hby c2
    rw [Nat.zero_add] at hrz hGn
    have hw : wrap64 (n : Int) = (n : Int) := by have := C2.out; unfold wrap64; omega
    rw [← hw] at hrz
    have h5 : wrap64 (n : Int) > 0 := by rw [hw]; exact h4
    clear hw
    go_enter Try.func91, Try.ntmps91
    go_wp2_with (at_builtin; refine Lib.wpList_append_run _ rfl _ _ _ _ rfl _ _ rfl rfl _ _ (hrz _) ?_)
    go_ret
    refine ⟨_, rfl, ⟨fun _ _ => trivial, [], ⟨by simp, .inr ⟨w.heap.size, G, _, rfl, Nat.le_refl _, heap_alloc_new _ _, Nat.zero_le _, HG.out, ?_, by simp⟩⟩, Reps.none _ _⟩, ?_⟩
    · show _ = G * 1
      simp [Builtin.zeroCells, Value.cells]; omega
    · exact below_alloc (below_drew1 (Below.refl _ _)) _
mutual
def slices_Concat_byte_byte.l0 : Nat → List (List Int) → Int → List (List Int) → Int → Int → Option (List Int)
 | 0, _, _, _, _, _ => none
 | k + 1, x0, x3, x9, Ac, Aa => if Aa < Ac then (if 0 ≤ Aa then (if Aa < (x9.length : Int) then (if (wrap64 (x3 + ((rd_L2 x9 Aa).length : Int))) < 0 then (none) else (slices_Concat_byte_byte.l0 k x0 (wrap64 (x3 + ((rd_L2 x9 Aa).length : Int))) x9 Ac (wrap64 (Aa + 1)))) else (none)) else (none)) else ((slices_Grow_byte_byte.f ([] : List Int) x3).bind fun Ab => (slices_Concat_byte_byte.l1 k Ab x0 (x0.length : Int) 0))
def slices_Concat_byte_byte.l1 : Nat → List Int → List (List Int) → Int → Int → Option (List Int)
 | 0, _, _, _, _ => none
 | k + 1, x6, Ab, Ac, Aa => if Aa < Ac then (if 0 ≤ Aa then (if Aa < (Ab.length : Int) then (if x6.length + (rd_L2 Ab Aa).length < 140737488355328 then (slices_Concat_byte_byte.l1 k (x6 ++ (rd_L2 Ab Aa)) Ab Ac (wrap64 (Aa + 1))) else (none)) else (none)) else (none)) else (some x6)
end
def slices_Concat_byte_byte.f (k : Nat) (l0 : List (List Int)) : Option (List Int) := slices_Concat_byte_byte.l0 k l0 0 l0 (l0.length : Int) 0
theorem slices_Concat_byte_byte.calls (k : Nat) (A0 : Option Addr) (c0 : Nat) (l0 : List (List Int)) (r : List Int) (w : World) (Bf : Kd.C (Kd.slice 5 (Kd.int .u8)) w A0 l0.length l0) (Bg : l0.length ≤ c0) (h : slices_Concat_byte_byte.f k l0 = some r) :
  Calls Try.prog 56 #[.slice A0 l0.length c0] w fun e w' => ∃ v0_ : Value, e = .returned (v0_) ∧ Kd.R (Kd.int .u8) 5 w' w.heap.size (fun _ => True) v0_ r ∧ Below w.heap.size w w' := by
 have Bh := A_ Bf
 have Bt := A_ Bg
 clear Bf Bg
 have HB := A_ (Below.refl w.heap.size w)
 unfold slices_Concat_byte_byte.f at h; have H := h; clear h
 have H' := A_ H
 clear H
 go_enter Try.func56, Try.ntmps56
 go_wp2
 go_loopg [3, 11] k (fun kq v3 Bo w' => ∃ (Ad : Int) (Aa : Int), v3 = .int .i64 Ad ∧ Bo = .int .i64 Aa ∧ Aside0 (slices_Concat_byte_byte.l0 kq l0 Ad l0 (l0.length : Int) Aa = some r) ∧ Aside0 (kq ≤ k) ∧ Aside0 (Below w.heap.size w w'))
 case atStart => exact ⟨(0), (0), eq_b, eq_b, H', ⟨Nat.le_refl _⟩, ⟨below_a⟩⟩
 case round =>
  clear H'; obtain ⟨Ad, Aa, rfl, rfl, HA, HK1, HB⟩ := hrel
  cases gk with
  | zero => exact absurd HA.out (by simp [slices_Concat_byte_byte.l0])
  | succ k1 =>
   have H := HA.out; clear HA; simp only [slices_Concat_byte_byte.l0] at H
   by_cases c2 : Aa < (l0.length : Int)
   ·
    rw [if_pos c2] at H; have Ar := decide_eq_true c2; clear c2
    obtain ⟨c3, H⟩ := iq_ H; have A1 := decide_eq_true c3; clear c3
    obtain ⟨c4, H⟩ := iq_ H; have A3 := decide_eq_true c4; clear c4
    by_cases c5 : (wrap64 (Ad + ((rd_L2 l0 Aa).length : Int))) < 0
    ·
     rw [if_pos c5] at H; exact absurd H (by simp)
    rw [if_neg c5] at H; have A4 := decide_eq_false c5; (try (have A5 : decide ((IntKind.i64.wrap (Ad + ((rd_L2 l0 Aa).length : Int))) < 0) = false := by simp only [i64_w]; exact decide_eq_false c5)); clear c5; have H' := A_ H; clear H; have Al : 0 ≤ (Aa : Int) := od_; have Am : Aa < (l0.length : Int) := od_; obtain ⟨Bi, A7, A8, A9, Ac, Ae, Af⟩ := at_L2 Bh.out Aa Al Am
    cases A9
    replace Ac := hc_ HB Ac; have Ax := A_ Af; have Ay := A_ Ae; clear Af Ae; replace Al := eq_true Al; replace Am := eq_true Am
    go_wp2
    go_roundg k1
    case measure => have := HK1.out; omega
    case rel => exact ⟨(wrap64 (Ad + ((rd_L2 l0 Aa).length : Int))), (wrap64 (Aa + 1)), eq_b, eq_b, H', ⟨by have := HK1.out; omega⟩, ⟨below_a⟩⟩
   rw [if_neg c2] at H; have Ar := decide_eq_false c2; clear c2; obtain ⟨As, A6, H⟩ := bj_ H; (try dsimp only at H); have H' := A_ H; clear H
   go_wp2_with (first | ((with_reducible refine f1_ 91 ?_); refine gl_ (some 24) Try.func91 #[.slice none 0 0, .int .i64 Ad] ?_; (refine (slices_Grow_byte_byte.calls _ _ ([] : List Int) Ad As _ ?_ ?_ ?_ ?_ A6.out).mono ?_); exact Kd.C_nil _ _; exact Nat.le_refl _; exact rfl; exact rfl; rintro e w7 ⟨Bp, rfl, Bj, hb⟩; refine ⟨_, rfl, ?_⟩; have Au := A_ (Kd.R_lower Bj (below_size below_a)); replace HB := bs_ hb; (try clear hb Bj)))
   go_loopg [6, 27] k1 (fun kq v6 Bq w' => ∃ (Aj : List Int) (Ab : Int), Bq = .int .i64 Ab ∧ Aside0 (slices_Concat_byte_byte.l1 kq Aj l0 (l0.length : Int) Ab = some r) ∧ Aside0 (kq ≤ k1) ∧ Aside0 (Kd.R (Kd.int .u8) 5 w' w.heap.size (fun _ => True) v6 Aj) ∧ Aside0 (Below w.heap.size w w'))
   case atStart => exact ⟨(As), (0), eq_b, H', ⟨Nat.le_refl _⟩, ⟨R_a Au.out⟩, ⟨below_a⟩⟩
   case round =>
    clear H'
    try clear c2 Ar
    try clear p2
    try clear c3 A1
    try clear p3
    try clear q3
    try clear Bu
    try clear c4 A3
    try clear c5 A4 A5
    try clear p6
    try clear Ac
    try clear Al
    try clear Am
    obtain ⟨Aj, Ab, rfl, HA, HK2, Ao, HB⟩ := hrel
    cases gk with
    | zero => exact absurd HA.out (by simp [slices_Concat_byte_byte.l1])
    | succ k2 =>
     have H := HA.out; clear HA; simp only [slices_Concat_byte_byte.l1] at H
     by_cases c8 : Ab < (l0.length : Int)
     ·
      rw [if_pos c8] at H; have Ba := decide_eq_true c8; clear c8
      obtain ⟨c9, H⟩ := iq_ H; have Br := decide_eq_true c9; clear c9
      obtain ⟨Bk, H⟩ := iq_ H; have Bl := decide_eq_true Bk; clear Bk
      obtain ⟨Bm, H⟩ := iq_ H; have LMc11 := A_ Bm; clear Bm; obtain ⟨Bb, Ak⟩ := ey_ (Aj ++ (rd_L2 l0 Ab) : List Int); (try (with_reducible replace H := os_ H)); (try dsimp only at H); (try rw [← Ak] at H)
      have Av := A_ Ak; clear Ak; have H' := A_ H; clear H; have Ap : 0 ≤ (Ab : Int) := od_; have Aq : Ab < (l0.length : Int) := od_; obtain ⟨Bn, Bc, Bd, Be, Ag, Ah, Ai⟩ := at_L2 Bh.out Ab Ap Aq
      cases Be
      replace Ag := hc_ HB Ag; have An := A_ Ai; have Az := A_ Ah; clear Ai Ah; replace Ap := eq_true Ap; replace Aq := eq_true Aq
      go_wp2_with (first | ((with_reducible refine gate_builtin (b := .append) (xs := #[.tmp 31, .tmp 32]) rfl ?_); at_builtin; refine Kd.R_append_rows (Kd.int .u8) (w0 := w) w.heap.size rfl (.tmp 31) (.tmp 32) 25 5 (.int .u8 0) 1 rfl Try.underlying25 info5 rfl (by decide) (by omega) u6 Aj (rd_L2 l0 Ab) _ _ _ (fun _ => True) (fun _ => False) rfl rfl ?aO ?aR (fun _ _ h => h) (fun _ h => h.elim) ?aF ?aB ?aS ?aL ?_; (case aR => exact ca_ (Kd.C_below An.out HB.out)); (case aB => exact below_a); (case aF => exact (fun _ _ => trivial)); (case aO => exact (R_a Ao.out)); (case aS => exact (below_size below_a)); (case aL => have := LMc11.out; omega); intro Bs Bv ho hb hg hat; rw [← Av.out] at ho; replace HB := A_ (hb); have Aw := A_ (ho); clear Ao; clear ho hb hg hat))
      go_roundg k2
      case measure => have := HK1.out; have := HK2.out; omega
      case rel => exact ⟨(Bb), (wrap64 (Ab + 1)), eq_b, H', ⟨by have := HK1.out; have := HK2.out; omega⟩, ⟨R_a Aw.out⟩, ⟨below_a⟩⟩
     rw [if_neg c8] at H; have Ba := decide_eq_false c8; clear c8; obtain rfl := Option.some.inj H
     go_wp2
     go_ret
     exact ⟨_, eq_a, R_a Ao.out, below_a⟩
end Go.Proofs.Ytiioiohdifkbgaa.MFnLetters
