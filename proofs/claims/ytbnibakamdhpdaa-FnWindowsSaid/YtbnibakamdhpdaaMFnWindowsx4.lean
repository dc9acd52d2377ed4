-- Laid by a program of this session (the kit's print, turned where it falls short; the texts of functions that it does not take are proved by hand).
import Derived.Test.YtbnibakamdhpdaaMFnWindowsx0
import Derived.Test.YtbnibakamdhpdaaMFnWindowsx3
namespace Go.Proofs.Ytbnibakamdhpdaa.MFnWindows
open Go.RowKit Go.Proofs.YtbnibakamdhpdaaW.PrintWords Go.Proofs.YtbnibakamdhpdaaW.PrintLast Go.Proofs.YtbnibakamdhpdaaW.PrintMore
attribute [local go_sem] max2_int min2_int max_two min_two max_three min_three max_four min_four   -- for this text's walks alone
set_option linter.unusedVariables false
set_option linter.unusedSimpArgs false

attribute [local go_sem] isSome_setCell
/-! ### impl_WindowFault: function 16 -/
mutual
def impl_WindowFault.l0 : Nat → List Int → Int → Int → Int → List Int → Option (Int)
 | 0, _, _, _, _, _ => none
 | k + 1, x11, x12, x13, x194000, x194001 => if x13 < x12 then (if 0 ≤ x13 then (if x13 < (x11.length : Int) then ((impl_in.f (rd x11 x13) 0 x194000).bind fun t196 => (if t196 = true then (if (rd x11 x13) ≤ (wrap64 (x194000 - 16)) then (some 3) else (impl_WindowFault.l0 k x11 x12 (wrap64 (x13 + 1)) x194000 x194001)) else (some 3))) else (none)) else (none)) else (impl_WindowFault.l1 k 1 x194000 x194001)
def impl_WindowFault.l1 : Nat → Int → Int → List Int → Option (Int)
 | 0, _, _, _ => none
 | k + 1, x5, x194000, x194001 => if x5 < (x194001.length : Int) then (if 0 ≤ (wrap64 (x5 - 1)) then (if (wrap64 (x5 - 1)) < (x194001.length : Int) then (if 0 ≤ x5 then (if (rd x194001 (wrap64 (x5 - 1))) ≥ (rd x194001 x5) then (some 1) else (impl_WindowFault.l1 k (wrap64 (x5 + 1)) x194000 x194001)) else (none)) else (none)) else (none)) else (if x194000 = (-1) then (some 0) else (if (x194001.length : Int) = 0 then (some 8) else (if 0 ≤ (wrap64 ((x194001.length : Int) - 1)) then (if (wrap64 ((x194001.length : Int) - 1)) < (x194001.length : Int) then (if (rd x194001 (wrap64 ((x194001.length : Int) - 1))) = x194000 then (some 0) else (some 8)) else (none)) else (none))))
end
def impl_WindowFault.f (k : Nat) (a0_0 : Int) (l0_1 : List Int) : Option (Int) := (impl_in.f a0_0 (-1) 1000000000).bind fun t194 => (if t194 = true then (impl_WindowFault.l0 k l0_1 (l0_1.length : Int) 0 a0_0 l0_1) else (some 3))
theorem impl_WindowFault.mono_l : ∀ k, (∀ y0 y1 y2 y3 y4, LeO (impl_WindowFault.l0 k y0 y1 y2 y3 y4) (impl_WindowFault.l0 (k + 1) y0 y1 y2 y3 y4)) ∧ (∀ y0 y1 y2, LeO (impl_WindowFault.l1 k y0 y1 y2) (impl_WindowFault.l1 (k + 1) y0 y1 y2))
 | 0 => ⟨fun _ _ _ _ _ r h => by simp [impl_WindowFault.l0] at h, fun _ _ _ r h => by simp [impl_WindowFault.l1] at h⟩
 | k + 1 => by
  obtain ⟨ih0, ih1⟩ := impl_WindowFault.mono_l k; refine ⟨?_, ?_⟩
  ·
   intro y0 y1 y2 y3 y4
   unfold impl_WindowFault.l0
   repeat' first
   | (with_reducible exact ih0 _ _ _ _ _)
   | (with_reducible exact ih1 _ _ _)
   | (with_reducible exact LeO.refl _)
   | (with_reducible exact LeO.none _)
   | (with_reducible refine LeO.ite ?_ ?_)
   | (with_reducible refine LeO.bind ?_ (fun _ => ?_))
   | exact ih0 _ _ _ _ _
   | exact ih1 _ _ _
   | exact LeO.none _
   | refine LeO.ite ?_ ?_
   | refine LeO.bind ?_ (fun _ => ?_)
  ·
   intro y0 y1 y2
   unfold impl_WindowFault.l1
   repeat' first
   | (with_reducible exact ih0 _ _ _ _ _)
   | (with_reducible exact ih1 _ _ _)
   | (with_reducible exact LeO.refl _)
   | (with_reducible exact LeO.none _)
   | (with_reducible refine LeO.ite ?_ ?_)
   | (with_reducible refine LeO.bind ?_ (fun _ => ?_))
   | exact ih0 _ _ _ _ _
   | exact ih1 _ _ _
   | exact LeO.none _
   | refine LeO.ite ?_ ?_
   | refine LeO.bind ?_ (fun _ => ?_)
theorem impl_WindowFault.mono : ∀ a0 a1 k, LeO (impl_WindowFault.f k a0 a1) (impl_WindowFault.f (k + 1) a0 a1) := by
 intro a0 a1 k
 obtain ⟨ih0, ih1⟩ := impl_WindowFault.mono_l k
 unfold impl_WindowFault.f
 repeat' first
   | (with_reducible exact ih0 _ _ _ _ _)
   | (with_reducible exact ih1 _ _ _)
   | (with_reducible exact LeO.refl _)
   | (with_reducible exact LeO.none _)
   | (with_reducible refine LeO.ite ?_ ?_)
   | (with_reducible refine LeO.bind ?_ (fun _ => ?_))
   | exact ih0 _ _ _ _ _
   | exact ih1 _ _ _
   | exact LeO.none _
   | refine LeO.ite ?_ ?_
   | refine LeO.bind ?_ (fun _ => ?_)
set_option maxHeartbeats 8000000 in
set_option maxRecDepth 100000 in
theorem impl_WindowFault.calls (k : Nat) (a0_0 : Int) (A0_1 : Option Addr) (c0_1 : Nat) (l0_1 : List Int) (r : Int) (w : World) (hr0_1 : Kd.C (Kd.int .i64) w A0_1 l0_1.length l0_1) (hc0_1 : l0_1.length ≤ c0_1) (h : impl_WindowFault.f k a0_0 l0_1 = some r) :
  Calls Try.prog 16 #[.agg #[.int .i64 a0_0, .slice A0_1 l0_1.length c0_1]] w fun e w' => e = .returned (.int .i64 r) ∧ Below w.heap.size w w' := by
 have hu26 := Try.underlying26
 have HR0_1 := Aside0.mk hr0_1
 have HC0_1 := Aside0.mk hc0_1
 clear hr0_1 hc0_1
 have HB := Aside0.mk (Below.refl w.heap.size w)
 have H : ((impl_in.f a0_0 (-1) 1000000000).bind fun t194 => (if t194 = true then (impl_WindowFault.l0 k l0_1 (l0_1.length : Int) 0 a0_0 l0_1) else (some 3))) = some r := h
 clear h
 replace H := Option.bind_eq_some_iff.mp H
 obtain ⟨t194, A20, H⟩ := H
 replace H : (if t194 = true then (impl_WindowFault.l0 k l0_1 (l0_1.length : Int) 0 a0_0 l0_1) else (some 3)) = some r := H
 have A2 := Aside0.mk A20
 clear A20
 by_cases c3 : t194 = true
 ·
  subst c3; have H1 : (impl_WindowFault.l0 k l0_1 (l0_1.length : Int) 0 a0_0 l0_1) = some r := by rw [if_pos rfl] at H; exact H
  clear H; have H := H1; clear H1; have H' := Aside0.mk H; clear H
  go_enter Try.func16, Try.ntmps16
  go_wp2_with (first | ((with_reducible refine gate_dst (N := 1) rfl ?_); (try (refine gate_guard (by rfl) ?_; dsimp only)); refine box_event ?hg (N := 1) ?hd (cs := #[.int .i64 a0_0, .slice A0_1 l0_1.length c0_1]) (t := 26) ?hr ?_; (case hd => rfl); (case hg => rfl); (case hr => first | (go_simp; done) | (go_simp; rfl)); intro gb193 hg w4 hbox hb; have n0_ := Aside0.mk (below_step below_a hb); have BK193 := Aside0.mk (hbox); have GW193 := Aside0.mk (bsz_ (w := w) hg); have GE193 := Aside0.mk (bsz_ (w := w) hg); replace HB := n0_; clear n0_; clear hb hbox hg; obtain ⟨hcz5_0, hcz5_1, hfz5_0, hfz5_1⟩ := bc2_ BK193.out) | (go_at_call 40; (with_reducible refine (impl_in.calls a0_0 (-1) 1000000000 true _ A2.out).mono ?_); rintro e w' ⟨rfl, ⟨nd, rfl⟩⟩; (try first | exact ⟨rfl, _, World.drewN_drewN _ _ _⟩ | exact ⟨rfl, _, Eq.trans (World.drewN_drewN _ _ _) (congrArg (World.drewN _) (Nat.add_assoc _ _ _))⟩)))
  repeat (go_quiet (first | ((with_reducible refine gate_dst (N := 1) rfl ?_); (try (refine gate_guard (by rfl) ?_; dsimp only)); refine box_event ?hg (N := 1) ?hd (cs := #[.int .i64 a0_0, .slice A0_1 l0_1.length c0_1]) (t := 26) ?hr ?_; (case hd => rfl); (case hg => rfl); (case hr => first | (go_simp; done) | (go_simp; rfl)); intro gb193 hg w4 hbox hb; have n0_ := Aside0.mk (below_step below_a hb); have BK193 := Aside0.mk (hbox); have GW193 := Aside0.mk (bsz_ (w := w) hg); have GE193 := Aside0.mk (bsz_ (w := w) hg); replace HB := n0_; clear n0_; clear hb hbox hg; obtain ⟨hcz5_0, hcz5_1, hfz5_0, hfz5_1⟩ := bc2_ BK193.out) | (go_at_call 40; (with_reducible refine (impl_in.calls a0_0 (-1) 1000000000 true _ A2.out).mono ?_); rintro e w' ⟨rfl, ⟨nd, rfl⟩⟩; (try first | exact ⟨rfl, _, World.drewN_drewN _ _ _⟩ | exact ⟨rfl, _, Eq.trans (World.drewN_drewN _ _ _) (congrArg (World.drewN _) (Nat.add_assoc _ _ _))⟩))); try go_wp2_with (first | ((with_reducible refine gate_dst (N := 1) rfl ?_); (try (refine gate_guard (by rfl) ?_; dsimp only)); refine box_event ?hg (N := 1) ?hd (cs := #[.int .i64 a0_0, .slice A0_1 l0_1.length c0_1]) (t := 26) ?hr ?_; (case hd => rfl); (case hg => rfl); (case hr => first | (go_simp; done) | (go_simp; rfl)); intro gb193 hg w4 hbox hb; have n0_ := Aside0.mk (below_step below_a hb); have BK193 := Aside0.mk (hbox); have GW193 := Aside0.mk (bsz_ (w := w) hg); have GE193 := Aside0.mk (bsz_ (w := w) hg); replace HB := n0_; clear n0_; clear hb hbox hg; obtain ⟨hcz5_0, hcz5_1, hfz5_0, hfz5_1⟩ := bc2_ BK193.out) | (go_at_call 40; (with_reducible refine (impl_in.calls a0_0 (-1) 1000000000 true _ A2.out).mono ?_); rintro e w' ⟨rfl, ⟨nd, rfl⟩⟩; (try first | exact ⟨rfl, _, World.drewN_drewN _ _ _⟩ | exact ⟨rfl, _, Eq.trans (World.drewN_drewN _ _ _) (congrArg (World.drewN _) (Nat.add_assoc _ _ _))⟩))))
  go_loopg [13] k (fun kq v13 w' => ∃ (x13_1 : Int), v13 = .int .i64 x13_1 ∧ Aside0 (impl_WindowFault.l0 kq l0_1 (l0_1.length : Int) x13_1 a0_0 l0_1 = some r) ∧ Aside0 (kq ≤ k) ∧ Aside0 (w'.heap[gb193]? = some (.cells #[.int .i64 a0_0, (.slice A0_1 l0_1.length c0_1)] 26 (0, 0))) ∧ Aside0 (Below w.heap.size w w'))
  case atStart => exact ⟨(0), eq_b, H', ⟨Nat.le_refl _⟩, ⟨blk_a⟩, ⟨below_a⟩⟩
  case round =>
   clear H'
   try clear c1
   try clear p2
   try clear c3
   try clear hcz5_0 hcz5_1
   try clear hfz5_0 hfz5_1
   obtain ⟨x13_1, rfl, HA, HK1, BK193, HB⟩ := hrel
   cases gk with
   | zero => exact absurd HA.out (by simp [impl_WindowFault.l0])
   | succ k1 =>
    have H := HA.out; clear HA; simp only [impl_WindowFault.l0] at H
    by_cases c6 : x13_1 < (l0_1.length : Int)
    ·
     rw [if_pos c6] at H; have c6b0 : decide (x13_1 < (l0_1.length : Int)) = true := decide_eq_true c6; clear c6
     by_cases c7 : 0 ≤ x13_1
     ·
      rw [if_pos c7] at H; have c7b0 : decide (0 ≤ x13_1) = true := decide_eq_true c7; clear c7
      by_cases c8 : x13_1 < (l0_1.length : Int)
      ·
       rw [if_pos c8] at H; have c8b0 : decide (x13_1 < (l0_1.length : Int)) = true := decide_eq_true c8; clear c8; replace H := Option.bind_eq_some_iff.mp H; obtain ⟨t196, A90, H⟩ := H; replace H : (if t196 = true then (if (rd l0_1 x13_1) ≤ (wrap64 (a0_0 - 16)) then (some 3) else (impl_WindowFault.l0 k1 l0_1 (l0_1.length : Int) (wrap64 (x13_1 + 1)) a0_0 l0_1)) else (some 3)) = some r := H; have A9 := Aside0.mk A90; clear A90
       by_cases c10 : t196 = true
       ·
        subst c10; have H1 : (if (rd l0_1 x13_1) ≤ (wrap64 (a0_0 - 16)) then (some 3) else (impl_WindowFault.l0 k1 l0_1 (l0_1.length : Int) (wrap64 (x13_1 + 1)) a0_0 l0_1)) = some r := by rw [if_pos rfl] at H; exact H
        clear H; have H := H1; clear H1
        by_cases c11 : (rd l0_1 x13_1) ≤ (wrap64 (a0_0 - 16))
        ·
         rw [if_pos c11] at H; have c11b0 : decide ((rd l0_1 x13_1) ≤ (wrap64 (a0_0 - 16))) = true := decide_eq_true c11; (try (have c11b1 : decide ((rd l0_1 x13_1) ≤ (IntKind.i64.wrap (a0_0 - 16))) = true := by simp only [i64_w]; exact decide_eq_true c11)); clear c11; obtain rfl := Option.some.inj H; have p195 : 0 ≤ (x13_1 : Int) := of_decide_eq_true (by first | (with_reducible assumption) | assumption); have q195 : x13_1 < (l0_1.length : Int) := of_decide_eq_true (by first | (with_reducible assumption) | assumption); obtain ⟨ad195, e195, hx195_0⟩ := Kd.at_int HR0_1.out x13_1 p195 q195
         cases e195
         replace hx195_0 := (HB.out.cell (World.block_lt_of_cell? w _ hx195_0)).trans hx195_0; replace p195 := eq_true p195; replace q195 := eq_true q195; obtain ⟨hcz12_0, hcz12_1, hfz12_0, hfz12_1⟩ := bc2_ BK193.out
         go_wp2_with (first | (go_at_call 40; (with_reducible refine (impl_in.calls (rd l0_1 x13_1) 0 a0_0 true _ A9.out).mono ?_); rintro e w' ⟨rfl, ⟨nd, rfl⟩⟩; (try first | exact ⟨rfl, _, World.drewN_drewN _ _ _⟩ | exact ⟨rfl, _, Eq.trans (World.drewN_drewN _ _ _) (congrArg (World.drewN _) (Nat.add_assoc _ _ _))⟩)))
         repeat (go_quiet (first | (go_at_call 40; (with_reducible refine (impl_in.calls (rd l0_1 x13_1) 0 a0_0 true _ A9.out).mono ?_); rintro e w' ⟨rfl, ⟨nd, rfl⟩⟩; (try first | exact ⟨rfl, _, World.drewN_drewN _ _ _⟩ | exact ⟨rfl, _, Eq.trans (World.drewN_drewN _ _ _) (congrArg (World.drewN _) (Nat.add_assoc _ _ _))⟩))); try go_wp2_with (first | (go_at_call 40; (with_reducible refine (impl_in.calls (rd l0_1 x13_1) 0 a0_0 true _ A9.out).mono ?_); rintro e w' ⟨rfl, ⟨nd, rfl⟩⟩; (try first | exact ⟨rfl, _, World.drewN_drewN _ _ _⟩ | exact ⟨rfl, _, Eq.trans (World.drewN_drewN _ _ _) (congrArg (World.drewN _) (Nat.add_assoc _ _ _))⟩))))
         go_ret
         exact ⟨eq_a, below_a⟩
        ·
         rw [if_neg c11] at H; have c11b0 : decide ((rd l0_1 x13_1) ≤ (wrap64 (a0_0 - 16))) = false := decide_eq_false c11; (try (have c11b1 : decide ((rd l0_1 x13_1) ≤ (IntKind.i64.wrap (a0_0 - 16))) = false := by simp only [i64_w]; exact decide_eq_false c11)); clear c11; have H' := Aside0.mk H; clear H; have p195 : 0 ≤ (x13_1 : Int) := of_decide_eq_true (by first | (with_reducible assumption) | assumption); have q195 : x13_1 < (l0_1.length : Int) := of_decide_eq_true (by first | (with_reducible assumption) | assumption); obtain ⟨ad195, e195, hx195_0⟩ := Kd.at_int HR0_1.out x13_1 p195 q195
         cases e195
         replace hx195_0 := (HB.out.cell (World.block_lt_of_cell? w _ hx195_0)).trans hx195_0; replace p195 := eq_true p195; replace q195 := eq_true q195; obtain ⟨hcz13_0, hcz13_1, hfz13_0, hfz13_1⟩ := bc2_ BK193.out
         go_wp2_with (first | (go_at_call 40; (with_reducible refine (impl_in.calls (rd l0_1 x13_1) 0 a0_0 true _ A9.out).mono ?_); rintro e w' ⟨rfl, ⟨nd, rfl⟩⟩; (try first | exact ⟨rfl, _, World.drewN_drewN _ _ _⟩ | exact ⟨rfl, _, Eq.trans (World.drewN_drewN _ _ _) (congrArg (World.drewN _) (Nat.add_assoc _ _ _))⟩)))
         repeat (go_quiet (first | (go_at_call 40; (with_reducible refine (impl_in.calls (rd l0_1 x13_1) 0 a0_0 true _ A9.out).mono ?_); rintro e w' ⟨rfl, ⟨nd, rfl⟩⟩; (try first | exact ⟨rfl, _, World.drewN_drewN _ _ _⟩ | exact ⟨rfl, _, Eq.trans (World.drewN_drewN _ _ _) (congrArg (World.drewN _) (Nat.add_assoc _ _ _))⟩))); try go_wp2_with (first | (go_at_call 40; (with_reducible refine (impl_in.calls (rd l0_1 x13_1) 0 a0_0 true _ A9.out).mono ?_); rintro e w' ⟨rfl, ⟨nd, rfl⟩⟩; (try first | exact ⟨rfl, _, World.drewN_drewN _ _ _⟩ | exact ⟨rfl, _, Eq.trans (World.drewN_drewN _ _ _) (congrArg (World.drewN _) (Nat.add_assoc _ _ _))⟩))))
         go_roundg k1
         case measure => have := HK1.out; omega
         case rel => exact ⟨(wrap64 (x13_1 + 1)), eq_b, H', ⟨by have := HK1.out; omega⟩, ⟨blk_a⟩, ⟨below_a⟩⟩
       ·
        replace c10 := Bool.eq_false_iff.mpr c10; subst c10; have H1 : (some 3) = some r := by rw [if_neg (show ¬ (false = true) by decide)] at H; exact H
        clear H; have H := H1; clear H1; obtain rfl := Option.some.inj H; have p195 : 0 ≤ (x13_1 : Int) := of_decide_eq_true (by first | (with_reducible assumption) | assumption); have q195 : x13_1 < (l0_1.length : Int) := of_decide_eq_true (by first | (with_reducible assumption) | assumption); obtain ⟨ad195, e195, hx195_0⟩ := Kd.at_int HR0_1.out x13_1 p195 q195
        cases e195
        replace hx195_0 := (HB.out.cell (World.block_lt_of_cell? w _ hx195_0)).trans hx195_0; replace p195 := eq_true p195; replace q195 := eq_true q195; obtain ⟨hcz14_0, hcz14_1, hfz14_0, hfz14_1⟩ := bc2_ BK193.out
        go_wp2_with (first | (go_at_call 40; (with_reducible refine (impl_in.calls (rd l0_1 x13_1) 0 a0_0 false _ A9.out).mono ?_); rintro e w' ⟨rfl, ⟨nd, rfl⟩⟩; (try first | exact ⟨rfl, _, World.drewN_drewN _ _ _⟩ | exact ⟨rfl, _, Eq.trans (World.drewN_drewN _ _ _) (congrArg (World.drewN _) (Nat.add_assoc _ _ _))⟩)))
        repeat (go_quiet (first | (go_at_call 40; (with_reducible refine (impl_in.calls (rd l0_1 x13_1) 0 a0_0 false _ A9.out).mono ?_); rintro e w' ⟨rfl, ⟨nd, rfl⟩⟩; (try first | exact ⟨rfl, _, World.drewN_drewN _ _ _⟩ | exact ⟨rfl, _, Eq.trans (World.drewN_drewN _ _ _) (congrArg (World.drewN _) (Nat.add_assoc _ _ _))⟩))); try go_wp2_with (first | (go_at_call 40; (with_reducible refine (impl_in.calls (rd l0_1 x13_1) 0 a0_0 false _ A9.out).mono ?_); rintro e w' ⟨rfl, ⟨nd, rfl⟩⟩; (try first | exact ⟨rfl, _, World.drewN_drewN _ _ _⟩ | exact ⟨rfl, _, Eq.trans (World.drewN_drewN _ _ _) (congrArg (World.drewN _) (Nat.add_assoc _ _ _))⟩))))
        go_ret
        exact ⟨eq_a, below_a⟩
      ·
       rw [if_neg c8] at H; exact absurd H (by simp)
     ·
      rw [if_neg c7] at H; exact absurd H (by simp)
    ·
     rw [if_neg c6] at H; have c6b0 : decide (x13_1 < (l0_1.length : Int)) = false := decide_eq_false c6; clear c6; have H' := Aside0.mk H; clear H
     go_wp2
     repeat (go_quiet (fail); try go_wp2)
     go_loopg [5] k1 (fun kq v5 w' => ∃ (x5_2 : Int), v5 = .int .i64 x5_2 ∧ Aside0 (impl_WindowFault.l1 kq x5_2 a0_0 l0_1 = some r) ∧ Aside0 (kq ≤ k1) ∧ Aside0 (w'.heap[gb193]? = some (.cells #[.int .i64 a0_0, (.slice A0_1 l0_1.length c0_1)] 26 (0, 0))) ∧ Aside0 (Below w.heap.size w w'))
     case atStart => exact ⟨(1), eq_b, H', ⟨Nat.le_refl _⟩, ⟨blk_a⟩, ⟨below_a⟩⟩
     case round =>
      clear H'
      try clear c1
      try clear p1
      try clear q1
      try clear hx1
      try clear p2 p2
      try clear c3
      try clear c6 c6b0
      try clear p6
      try clear c7 c7b0
      try clear c8 c8b0
      try clear c10
      try clear c11 c11b0 c11b1
      try clear hcz12_0 hcz12_1
      try clear hcz13_0 hcz13_1
      try clear hcz14_0 hcz14_1
      try clear hcz5_0 hcz5_1
      try clear hfz12_0 hfz12_1
      try clear hfz13_0 hfz13_1
      try clear hfz14_0 hfz14_1
      try clear hfz5_0 hfz5_1
      try clear hx195_0
      try clear p195
      try clear q195
      obtain ⟨x5_2, rfl, HA, HK2, BK193, HB⟩ := hrel
      cases gk with
      | zero => exact absurd HA.out (by simp [impl_WindowFault.l1])
      | succ k2 =>
       have H := HA.out; clear HA; simp only [impl_WindowFault.l1] at H
       by_cases c15 : x5_2 < (l0_1.length : Int)
       ·
        rw [if_pos c15] at H; have c15b0 : decide (x5_2 < (l0_1.length : Int)) = true := decide_eq_true c15; clear c15; obtain ⟨ji16, hji16⟩ : ∃ j_ : Int, (wrap64 (x5_2 - 1)) = j_ := ⟨_, rfl⟩; replace H : (if 0 ≤ (ji16) then (if (ji16) < (l0_1.length : Int) then (if 0 ≤ x5_2 then (if (rd l0_1 (ji16)) ≥ (rd l0_1 x5_2) then (some 1) else (impl_WindowFault.l1 k2 (wrap64 (x5_2 + 1)) a0_0 l0_1)) else (none)) else (none)) else (none)) = some r := by first | (rw [hji16] at H; exact H) | (simp only [hji16] at H ⊢; exact H)
        have hji16w : (IntKind.i64.wrap (x5_2 - 1)) = ji16 := (i64_w _).trans hji16
        by_cases c17 : 0 ≤ (ji16)
        ·
         rw [if_pos c17] at H; have c17b0 : decide (0 ≤ (ji16)) = true := decide_eq_true c17; clear c17
         by_cases c18 : (ji16) < (l0_1.length : Int)
         ·
          rw [if_pos c18] at H; have c18b0 : decide ((ji16) < (l0_1.length : Int)) = true := decide_eq_true c18; clear c18
          by_cases c19 : 0 ≤ x5_2
          ·
           rw [if_pos c19] at H; have c19b0 : decide (0 ≤ x5_2) = true := decide_eq_true c19; clear c19
           by_cases c20 : (rd l0_1 (ji16)) ≥ (rd l0_1 x5_2)
           ·
            rw [if_pos c20] at H; have c20b0 : decide ((rd l0_1 x5_2) ≤ (rd l0_1 (ji16))) = true := decide_eq_true c20; clear c20; obtain rfl := Option.some.inj H; obtain ⟨hcz21_0, hcz21_1, hfz21_0, hfz21_1⟩ := bc2_ BK193.out; have p197 : 0 ≤ ((ji16) : Int) := of_decide_eq_true (by first | (with_reducible assumption) | assumption); have q197 : (ji16) < (l0_1.length : Int) := of_decide_eq_true (by first | (with_reducible assumption) | assumption); obtain ⟨ad197, e197, hx197_0⟩ := Kd.at_int HR0_1.out (ji16) p197 q197
            cases e197
            replace hx197_0 := (HB.out.cell (World.block_lt_of_cell? w _ hx197_0)).trans hx197_0; replace p197 := eq_true p197; replace q197 := eq_true q197; have p198 : 0 ≤ (x5_2 : Int) := of_decide_eq_true (by first | (with_reducible assumption) | assumption); have q198 : x5_2 < (l0_1.length : Int) := of_decide_eq_true (by first | (with_reducible assumption) | assumption); obtain ⟨ad198, e198, hx198_0⟩ := Kd.at_int HR0_1.out x5_2 p198 q198; obtain rfl : ad197 = ad198 := (by injection e198); replace hx198_0 := (HB.out.cell (World.block_lt_of_cell? w _ hx198_0)).trans hx198_0; replace p198 := eq_true p198; replace q198 := eq_true q198
            go_wp2
            repeat (go_quiet (fail); try go_wp2)
            go_ret
            exact ⟨by first | rfl | (simp [errW_none, errW_some] <;> rfl) | (simp only [← hji16]; first | rfl | (simp [errW_none, errW_some] <;> rfl)) | (simp [*, errW_none, errW_some] <;> rfl), below_a⟩
           ·
            rw [if_neg c20] at H; have c20b0 : decide ((rd l0_1 x5_2) ≤ (rd l0_1 (ji16))) = false := decide_eq_false c20; clear c20; have H' := Aside0.mk H; clear H; obtain ⟨hcz22_0, hcz22_1, hfz22_0, hfz22_1⟩ := bc2_ BK193.out; have p197 : 0 ≤ ((ji16) : Int) := of_decide_eq_true (by first | (with_reducible assumption) | assumption); have q197 : (ji16) < (l0_1.length : Int) := of_decide_eq_true (by first | (with_reducible assumption) | assumption); obtain ⟨ad197, e197, hx197_0⟩ := Kd.at_int HR0_1.out (ji16) p197 q197
            cases e197
            replace hx197_0 := (HB.out.cell (World.block_lt_of_cell? w _ hx197_0)).trans hx197_0; replace p197 := eq_true p197; replace q197 := eq_true q197; have p198 : 0 ≤ (x5_2 : Int) := of_decide_eq_true (by first | (with_reducible assumption) | assumption); have q198 : x5_2 < (l0_1.length : Int) := of_decide_eq_true (by first | (with_reducible assumption) | assumption); obtain ⟨ad198, e198, hx198_0⟩ := Kd.at_int HR0_1.out x5_2 p198 q198; obtain rfl : ad197 = ad198 := (by injection e198); replace hx198_0 := (HB.out.cell (World.block_lt_of_cell? w _ hx198_0)).trans hx198_0; replace p198 := eq_true p198; replace q198 := eq_true q198
            go_wp2
            repeat (go_quiet (fail); try go_wp2)
            go_roundg k2
            case measure => have := HK1.out; have := HK2.out; omega
            case rel => exact ⟨(wrap64 (x5_2 + 1)), eq_b, H', ⟨by have := HK1.out; have := HK2.out; omega⟩, ⟨blk_a⟩, ⟨below_a⟩⟩
          ·
           rw [if_neg c19] at H; exact absurd H (by simp)
         ·
          rw [if_neg c18] at H; exact absurd H (by simp)
        ·
         rw [if_neg c17] at H; exact absurd H (by simp)
       ·
        rw [if_neg c15] at H; have c15b0 : decide (x5_2 < (l0_1.length : Int)) = false := decide_eq_false c15; clear c15
        by_cases c23 : a0_0 = (-1)
        ·
         rw [if_pos c23] at H; have c23b0 : (a0_0 == (-1)) = true := beq_iff_eq.mpr c23; have c23b1 : (a0_0 != (-1)) = false := bne_eq_false_iff_eq.mpr c23; clear c23; obtain rfl := Option.some.inj H; obtain ⟨hcz24_0, hcz24_1, hfz24_0, hfz24_1⟩ := bc2_ BK193.out
         go_wp2
         repeat (go_quiet (fail); try go_wp2)
         go_ret
         exact ⟨eq_a, below_a⟩
        ·
         rw [if_neg c23] at H; have c23b0 : (a0_0 == (-1)) = false := beq_eq_false_iff_ne.mpr c23; have c23b1 : (a0_0 != (-1)) = true := bne_iff_ne.mpr c23
         by_cases c25 : (l0_1.length : Int) = 0
         ·
          rw [if_pos c25] at H; have c25b0 : ((l0_1.length : Int) == 0) = true := beq_iff_eq.mpr c25; have c25b1 : ((l0_1.length : Int) != 0) = false := bne_eq_false_iff_eq.mpr c25; clear c25; obtain rfl := Option.some.inj H; obtain ⟨hcz26_0, hcz26_1, hfz26_0, hfz26_1⟩ := bc2_ BK193.out
          go_wp2
          repeat (go_quiet (fail); try go_wp2)
          go_ret
          exact ⟨eq_a, below_a⟩
         ·
          rw [if_neg c25] at H; have c25b0 : ((l0_1.length : Int) == 0) = false := beq_eq_false_iff_ne.mpr c25; have c25b1 : ((l0_1.length : Int) != 0) = true := bne_iff_ne.mpr c25; have c25b2 : ¬ (l0_1 = []) := fun h_ => c25 (by rw [h_]; rfl); obtain ⟨ji27, hji27⟩ : ∃ j_ : Int, (wrap64 ((l0_1.length : Int) - 1)) = j_ := ⟨_, rfl⟩; replace H : (if 0 ≤ (ji27) then (if (ji27) < (l0_1.length : Int) then (if (rd l0_1 (ji27)) = a0_0 then (some 0) else (some 8)) else (none)) else (none)) = some r := by first | (rw [hji27] at H; exact H) | (simp only [hji27] at H ⊢; exact H)
          have hji27w : (IntKind.i64.wrap ((l0_1.length : Int) - 1)) = ji27 := (i64_w _).trans hji27
          by_cases c28 : 0 ≤ (ji27)
          ·
           rw [if_pos c28] at H; have c28b0 : decide (0 ≤ (ji27)) = true := decide_eq_true c28; clear c28
           by_cases c29 : (ji27) < (l0_1.length : Int)
           ·
            rw [if_pos c29] at H; have c29b0 : decide ((ji27) < (l0_1.length : Int)) = true := decide_eq_true c29; clear c29
            by_cases c30 : (rd l0_1 (ji27)) = a0_0
            ·
             rw [if_pos c30] at H; have c30b0 : ((rd l0_1 (ji27)) == a0_0) = true := beq_iff_eq.mpr c30; have c30b1 : ((rd l0_1 (ji27)) != a0_0) = false := bne_eq_false_iff_eq.mpr c30; clear c30; obtain rfl := Option.some.inj H; obtain ⟨hcz31_0, hcz31_1, hfz31_0, hfz31_1⟩ := bc2_ BK193.out; have p199 : 0 ≤ ((ji27) : Int) := of_decide_eq_true (by first | (with_reducible assumption) | assumption); have q199 : (ji27) < (l0_1.length : Int) := of_decide_eq_true (by first | (with_reducible assumption) | assumption); obtain ⟨ad199, e199, hx199_0⟩ := Kd.at_int HR0_1.out (ji27) p199 q199
             cases e199
             replace hx199_0 := (HB.out.cell (World.block_lt_of_cell? w _ hx199_0)).trans hx199_0; replace p199 := eq_true p199; replace q199 := eq_true q199
             go_wp2
             repeat (go_quiet (fail); try go_wp2)
             go_ret
             exact ⟨by first | rfl | (simp [errW_none, errW_some] <;> rfl) | (simp only [← hji27]; first | rfl | (simp [errW_none, errW_some] <;> rfl)) | (simp [*, errW_none, errW_some] <;> rfl), below_a⟩
            ·
             rw [if_neg c30] at H; have c30b0 : ((rd l0_1 (ji27)) == a0_0) = false := beq_eq_false_iff_ne.mpr c30; have c30b1 : ((rd l0_1 (ji27)) != a0_0) = true := bne_iff_ne.mpr c30; obtain rfl := Option.some.inj H; obtain ⟨hcz32_0, hcz32_1, hfz32_0, hfz32_1⟩ := bc2_ BK193.out; have p199 : 0 ≤ ((ji27) : Int) := of_decide_eq_true (by first | (with_reducible assumption) | assumption); have q199 : (ji27) < (l0_1.length : Int) := of_decide_eq_true (by first | (with_reducible assumption) | assumption); obtain ⟨ad199, e199, hx199_0⟩ := Kd.at_int HR0_1.out (ji27) p199 q199
             cases e199
             replace hx199_0 := (HB.out.cell (World.block_lt_of_cell? w _ hx199_0)).trans hx199_0; replace p199 := eq_true p199; replace q199 := eq_true q199
             go_wp2
             repeat (go_quiet (fail); try go_wp2)
             go_ret
             exact ⟨by first | rfl | (simp [errW_none, errW_some] <;> rfl) | (simp only [← hji27]; first | rfl | (simp [errW_none, errW_some] <;> rfl)) | (simp [*, errW_none, errW_some] <;> rfl), below_a⟩
           ·
            rw [if_neg c29] at H; exact absurd H (by simp)
          ·
           rw [if_neg c28] at H; exact absurd H (by simp)
 ·
  replace c3 := Bool.eq_false_iff.mpr c3; subst c3; have H1 : (some 3) = some r := by rw [if_neg (show ¬ (false = true) by decide)] at H; exact H
  clear H; have H := H1; clear H1; obtain rfl := Option.some.inj H
  go_enter Try.func16, Try.ntmps16
  go_wp2_with (first | ((with_reducible refine gate_dst (N := 1) rfl ?_); (try (refine gate_guard (by rfl) ?_; dsimp only)); refine box_event ?hg (N := 1) ?hd (cs := #[.int .i64 a0_0, .slice A0_1 l0_1.length c0_1]) (t := 26) ?hr ?_; (case hd => rfl); (case hg => rfl); (case hr => first | (go_simp; done) | (go_simp; rfl)); intro gb193 hg w33 hbox hb; have n0_ := Aside0.mk (below_step below_a hb); have BK193 := Aside0.mk (hbox); have GW193 := Aside0.mk (bsz_ (w := w) hg); have GE193 := Aside0.mk (bsz_ (w := w) hg); replace HB := n0_; clear n0_; clear hb hbox hg; obtain ⟨hcz34_0, hcz34_1, hfz34_0, hfz34_1⟩ := bc2_ BK193.out) | (go_at_call 40; (with_reducible refine (impl_in.calls a0_0 (-1) 1000000000 false _ A2.out).mono ?_); rintro e w' ⟨rfl, ⟨nd, rfl⟩⟩; (try first | exact ⟨rfl, _, World.drewN_drewN _ _ _⟩ | exact ⟨rfl, _, Eq.trans (World.drewN_drewN _ _ _) (congrArg (World.drewN _) (Nat.add_assoc _ _ _))⟩)))
  repeat (go_quiet (first | ((with_reducible refine gate_dst (N := 1) rfl ?_); (try (refine gate_guard (by rfl) ?_; dsimp only)); refine box_event ?hg (N := 1) ?hd (cs := #[.int .i64 a0_0, .slice A0_1 l0_1.length c0_1]) (t := 26) ?hr ?_; (case hd => rfl); (case hg => rfl); (case hr => first | (go_simp; done) | (go_simp; rfl)); intro gb193 hg w33 hbox hb; have n0_ := Aside0.mk (below_step below_a hb); have BK193 := Aside0.mk (hbox); have GW193 := Aside0.mk (bsz_ (w := w) hg); have GE193 := Aside0.mk (bsz_ (w := w) hg); replace HB := n0_; clear n0_; clear hb hbox hg; obtain ⟨hcz34_0, hcz34_1, hfz34_0, hfz34_1⟩ := bc2_ BK193.out) | (go_at_call 40; (with_reducible refine (impl_in.calls a0_0 (-1) 1000000000 false _ A2.out).mono ?_); rintro e w' ⟨rfl, ⟨nd, rfl⟩⟩; (try first | exact ⟨rfl, _, World.drewN_drewN _ _ _⟩ | exact ⟨rfl, _, Eq.trans (World.drewN_drewN _ _ _) (congrArg (World.drewN _) (Nat.add_assoc _ _ _))⟩))); try go_wp2_with (first | ((with_reducible refine gate_dst (N := 1) rfl ?_); (try (refine gate_guard (by rfl) ?_; dsimp only)); refine box_event ?hg (N := 1) ?hd (cs := #[.int .i64 a0_0, .slice A0_1 l0_1.length c0_1]) (t := 26) ?hr ?_; (case hd => rfl); (case hg => rfl); (case hr => first | (go_simp; done) | (go_simp; rfl)); intro gb193 hg w33 hbox hb; have n0_ := Aside0.mk (below_step below_a hb); have BK193 := Aside0.mk (hbox); have GW193 := Aside0.mk (bsz_ (w := w) hg); have GE193 := Aside0.mk (bsz_ (w := w) hg); replace HB := n0_; clear n0_; clear hb hbox hg; obtain ⟨hcz34_0, hcz34_1, hfz34_0, hfz34_1⟩ := bc2_ BK193.out) | (go_at_call 40; (with_reducible refine (impl_in.calls a0_0 (-1) 1000000000 false _ A2.out).mono ?_); rintro e w' ⟨rfl, ⟨nd, rfl⟩⟩; (try first | exact ⟨rfl, _, World.drewN_drewN _ _ _⟩ | exact ⟨rfl, _, Eq.trans (World.drewN_drewN _ _ _) (congrArg (World.drewN _) (Nat.add_assoc _ _ _))⟩))))
  go_ret
  exact ⟨eq_a, below_a⟩

/-! ### slices_Index_int64_int64: function 56 -/
def slices_Index_int64_int64.l0 : Nat → List Int → Int → Int → Int → Option (Int)
 | 0, _, _, _, _ => none
 | k + 1, x0, x1, x7, x8 => if x8 < x7 then (if 0 ≤ x8 then (if x8 < (x0.length : Int) then (if x1 = (rd x0 x8) then (some x8) else (slices_Index_int64_int64.l0 k x0 x1 x7 (wrap64 (x8 + 1)))) else (none)) else (none)) else (some (-1))
def slices_Index_int64_int64.f (k : Nat) (l0 : List Int) (a1 : Int) : Option (Int) := slices_Index_int64_int64.l0 k l0 a1 (l0.length : Int) 0
theorem slices_Index_int64_int64.mono_l : ∀ k, (∀ y0 y1 y2 y3, LeO (slices_Index_int64_int64.l0 k y0 y1 y2 y3) (slices_Index_int64_int64.l0 (k + 1) y0 y1 y2 y3))
 | 0 => fun _ _ _ _ r h => by simp [slices_Index_int64_int64.l0] at h
 | k + 1 => by
  have ih0 := slices_Index_int64_int64.mono_l k
  ·
   intro y0 y1 y2 y3
   unfold slices_Index_int64_int64.l0
   repeat' first
   | (with_reducible exact ih0 _ _ _ _)
   | (with_reducible exact LeO.refl _)
   | (with_reducible exact LeO.none _)
   | (with_reducible refine LeO.ite ?_ ?_)
   | (with_reducible refine LeO.bind ?_ (fun _ => ?_))
   | exact ih0 _ _ _ _
   | exact LeO.none _
   | refine LeO.ite ?_ ?_
   | refine LeO.bind ?_ (fun _ => ?_)
theorem slices_Index_int64_int64.mono : ∀ a0 a1 k, LeO (slices_Index_int64_int64.f k a0 a1) (slices_Index_int64_int64.f (k + 1) a0 a1) := by
 intro a0 a1 k
 have ih0 := slices_Index_int64_int64.mono_l k
 unfold slices_Index_int64_int64.f
 repeat' first
   | (with_reducible exact ih0 _ _ _ _)
   | (with_reducible exact LeO.refl _)
   | (with_reducible exact LeO.none _)
   | (with_reducible refine LeO.ite ?_ ?_)
   | (with_reducible refine LeO.bind ?_ (fun _ => ?_))
   | exact ih0 _ _ _ _
   | exact LeO.none _
   | refine LeO.ite ?_ ?_
   | refine LeO.bind ?_ (fun _ => ?_)
set_option maxHeartbeats 8000000 in
set_option maxRecDepth 100000 in
theorem slices_Index_int64_int64.calls (k : Nat) (A0 : Option Addr) (c0 : Nat) (l0 : List Int) (a1 : Int) (r : Int) (w : World) (hr0 : Kd.C (Kd.int .i64) w A0 l0.length l0) (hc0 : l0.length ≤ c0) (h : slices_Index_int64_int64.f k l0 a1 = some r) :
  Calls Try.prog 56 #[.slice A0 l0.length c0, .int .i64 a1] w fun e w' => e = .returned (.int .i64 r) ∧ Drawn0 w w' := by
 have HR0 := Aside0.mk hr0
 have HC0 := Aside0.mk hc0
 clear hr0 hc0
 have H : (slices_Index_int64_int64.l0 k l0 a1 (l0.length : Int) 0) = some r := h
 clear h
 have H' := Aside0.mk H
 clear H
 go_enter Try.func56, Try.ntmps56
 go_wp2
 go_loopg [8] k (fun kq v8 w' => ∃ (x8_1 : Int), v8 = .int .i64 x8_1 ∧ Aside0 (slices_Index_int64_int64.l0 kq l0 a1 (l0.length : Int) x8_1 = some r) ∧ Aside0 (kq ≤ k) ∧ Drawn0 w w')
 case atStart => exact ⟨(0), eq_b, H', ⟨Nat.le_refl _⟩, by repeat (first | exact Drawn0.refl _ | apply Drawn0.step)⟩
 case round =>
  clear H'
  try clear p2
  obtain ⟨x8_1, rfl, HA, HK1, ⟨m1, rfl⟩⟩ := hrel
  cases gk with
  | zero => exact absurd HA.out (by simp [slices_Index_int64_int64.l0])
  | succ k1 =>
   have H := HA.out; clear HA; simp only [slices_Index_int64_int64.l0] at H
   by_cases c3 : x8_1 < (l0.length : Int)
   ·
    rw [if_pos c3] at H; have c3b0 : decide (x8_1 < (l0.length : Int)) = true := decide_eq_true c3; clear c3
    by_cases c4 : 0 ≤ x8_1
    ·
     rw [if_pos c4] at H; have c4b0 : decide (0 ≤ x8_1) = true := decide_eq_true c4; clear c4
     by_cases c5 : x8_1 < (l0.length : Int)
     ·
      rw [if_pos c5] at H; have c5b0 : decide (x8_1 < (l0.length : Int)) = true := decide_eq_true c5; clear c5
      by_cases c6 : a1 = (rd l0 x8_1)
      ·
       rw [if_pos c6] at H; have c6b0 : (a1 == (rd l0 x8_1)) = true := beq_iff_eq.mpr c6; have c6b1 : (a1 != (rd l0 x8_1)) = false := bne_eq_false_iff_eq.mpr c6; clear c6; obtain rfl := Option.some.inj H; have p200 : 0 ≤ (x8_1 : Int) := of_decide_eq_true (by first | (with_reducible assumption) | assumption); have q200 : x8_1 < (l0.length : Int) := of_decide_eq_true (by first | (with_reducible assumption) | assumption); obtain ⟨ad200, e200, hx200_0⟩ := Kd.at_int HR0.out x8_1 p200 q200
       cases e200
       replace p200 := eq_true p200; replace q200 := eq_true q200
       go_wp2
       go_ret
       exact ⟨eq_b, by repeat (first | exact Drawn0.refl _ | apply Drawn0.step)⟩
      ·
       rw [if_neg c6] at H; have c6b0 : (a1 == (rd l0 x8_1)) = false := beq_eq_false_iff_ne.mpr c6; have c6b1 : (a1 != (rd l0 x8_1)) = true := bne_iff_ne.mpr c6; have H' := Aside0.mk H; clear H; have p200 : 0 ≤ (x8_1 : Int) := of_decide_eq_true (by first | (with_reducible assumption) | assumption); have q200 : x8_1 < (l0.length : Int) := of_decide_eq_true (by first | (with_reducible assumption) | assumption); obtain ⟨ad200, e200, hx200_0⟩ := Kd.at_int HR0.out x8_1 p200 q200
       cases e200
       replace p200 := eq_true p200; replace q200 := eq_true q200
       go_wp2
       go_roundg k1
       case measure => have := HK1.out; omega
       case rel => exact ⟨(wrap64 (x8_1 + 1)), eq_b, H', ⟨by have := HK1.out; omega⟩, by repeat (first | exact Drawn0.refl _ | apply Drawn0.step)⟩
     ·
      rw [if_neg c5] at H; exact absurd H (by simp)
    ·
     rw [if_neg c4] at H; exact absurd H (by simp)
   ·
    rw [if_neg c3] at H; have c3b0 : decide (x8_1 < (l0.length : Int)) = false := decide_eq_false c3; clear c3; obtain rfl := Option.some.inj H
    go_wp2
    go_ret
    exact ⟨eq_b, by repeat (first | exact Drawn0.refl _ | apply Drawn0.step)⟩

/-! ### slices_Contains_int64_int64: function 41 -/
def slices_Contains_int64_int64.f (k : Nat) (l0 : List Int) (a1 : Int) : Option (Bool) := (slices_Index_int64_int64.f k l0 a1).bind fun t201 => (some (decide (t201 ≥ 0)))
theorem slices_Contains_int64_int64.mono : ∀ a0 a1 k, LeO (slices_Contains_int64_int64.f k a0 a1) (slices_Contains_int64_int64.f (k + 1) a0 a1) := by
 intro a0 a1 k
 unfold slices_Contains_int64_int64.f
 repeat' first
   | (with_reducible exact slices_Index_int64_int64.mono _ _ _)
   | (with_reducible exact LeO.refl _)
   | (with_reducible exact LeO.none _)
   | (with_reducible refine LeO.ite ?_ ?_)
   | (with_reducible refine LeO.bind ?_ (fun _ => ?_))
   | exact slices_Index_int64_int64.mono _ _ _
   | exact LeO.none _
   | refine LeO.ite ?_ ?_
   | refine LeO.bind ?_ (fun _ => ?_)
set_option maxHeartbeats 8000000 in
set_option maxRecDepth 100000 in
theorem slices_Contains_int64_int64.calls (k : Nat) (A0 : Option Addr) (c0 : Nat) (l0 : List Int) (a1 : Int) (r : Bool) (w : World) (hr0 : Kd.C (Kd.int .i64) w A0 l0.length l0) (hc0 : l0.length ≤ c0) (h : slices_Contains_int64_int64.f k l0 a1 = some r) :
  Calls Try.prog 41 #[.slice A0 l0.length c0, .int .i64 a1] w fun e w' => e = .returned (.bool r) ∧ Drawn0 w w' := by
 have HR0 := Aside0.mk hr0
 have HC0 := Aside0.mk hc0
 clear hr0 hc0
 have H : ((slices_Index_int64_int64.f k l0 a1).bind fun t201 => (some (decide (t201 ≥ 0)))) = some r := h
 clear h
 replace H := Option.bind_eq_some_iff.mp H
 obtain ⟨t201, A30, H⟩ := H
 replace H : (some (decide (t201 ≥ 0))) = some r := H
 have A3 := Aside0.mk A30
 clear A30
 obtain rfl := Option.some.inj H
 go_enter Try.func41, Try.ntmps41
 go_wp2_with (first | ((with_reducible refine gate_callee (f := 56) rfl ?_); refine goesL_ (some 7) rfl rfl Try.func56 (by kernel_rfl) rfl #[.slice A0 l0.length c0, .int .i64 a1] rfl args_a ?_; (with_reducible refine (slices_Index_int64_int64.calls k _ _ l0 a1 t201 _ ?side1 ?side2 A3.out).mono ?_); (case side1 => repeat (first | exact HR0.out | (with_reducible refine Kd.C_alloc ?_ _) | (with_reducible refine Kd.C_drewN ?_ _) | (with_reducible refine Kd.C_drew ?_))); (case side2 => exact HC0.out); rintro e w' ⟨rfl, ⟨nd, rfl⟩⟩; refine ⟨_, rfl, ?_⟩))
 go_ret
 exact ⟨eq_b, by repeat (first | exact Drawn0.refl _ | apply Drawn0.step)⟩

/-! ### slices_Clone_int64_int64: function 42 -/
def slices_Clone_int64_int64.f (l0 : List Int) : Option (List Int) := if l0.length < 17592186044416 then some l0 else none
set_option maxHeartbeats 8000000 in
set_option maxRecDepth 100000 in
theorem slices_Clone_int64_int64.calls (A0 : Option Addr) (c0 : Nat) (l0 : List Int) (r : List Int) (w : World) (hr0 : Kd.C (Kd.int .i64) w A0 l0.length l0) (hc0 : l0.length ≤ c0) (h : slices_Clone_int64_int64.f l0 = some r) :
    Calls Try.prog 42 #[.slice A0 l0.length c0] w fun e w' => ∃ v0_ : Value, e = .returned (v0_) ∧ Kd.R (Kd.int .i64) 2 w' w.heap.size (fun _ => True) v0_ r ∧ Below w.heap.size w w' := by
  have qnil : ∀ (w : World) (a : Option Addr) (n c n' c' : Nat), (binOp .eql 24 (.slice a n c) (.slice none n' c')).run Try.prog w = .ok (.bool a.isNone) w := fun w a n c n' c' => Lib.run_eql_slice_nil w _ _ a n c n' c' Try.underlying24
  unfold slices_Clone_int64_int64.f at h
  by_cases c1 : l0.length < 17592186044416
  rotate_left
  · rw [if_neg c1] at h; exact absurd h (by simp)
  rw [if_pos c1] at h
  obtain rfl := Option.some.inj h
  clear h
  cases A0 with
  | none =>
    have hl : l0 = [] := by
      cases l0 with
      | nil => rfl
      | cons x t =>
        obtain ⟨ad, h1, _⟩ := hr0.2.2 (by simp)
        cases h1
    subst hl
    have HC := Aside0.mk hc0
    clear c1 hr0 hc0
    by_cases hz : c0 = 0
    · subst hz
      go_enter Try.func42, Try.ntmps42
      go_wp2
      go_ret
      exact ⟨_, rfl, Kd.R_nil _ _ _ _ _, Below.refl _ _⟩
    · go_enter Try.func42, Try.ntmps42
      go_wp2
      go_ret
      exact ⟨_, rfl, Kd.R_nil _ _ _ _ _, Below.refl _ _⟩
  | some ad =>
    have HR0 := Aside0.mk hr0
    have HL := Aside0.mk c1
    clear hr0 hc0 c1
    go_enter Try.func42, Try.ntmps42
    go_wp2_with (first
      | ((with_reducible refine gate_dst (N := 5) rfl ?_); refine Kd.R_lit (Kd.int .i64) _ 2 ?hg (N := 5) ?hd (xs := ([] : List Int)) (inner := []) (ok := fun _ => True) (okp := fun _ => True) ?hr ?hp (fun _ hk => hk) trivial (Below.refl _ _) (Nat.le_refl _) (by simp) ?_; (case hd => rfl); (case hg => rfl); (case hr => first | (go_simp; done) | (go_simp; rfl)); (case hp => exact (Reps.none _ _)); intro v5 w5 ho hb hg_ hnew_; clear hg_ hnew_; have HO := Aside0.mk ho; have HB := Aside0.mk hb; clear ho hb)
      | ((with_reducible refine gate_builtin (b := .append) (xs := #[.tmp 5, .tmp 6]) rfl ?_); at_builtin; refine Kd.R_append_rows (Kd.int .i64) (w0 := w) w.heap.size rfl (.tmp 5) (.tmp 6) 24 2 (.int .i64 0) 8 rfl Try.underlying24 info2 rfl (by decide) (by omega) v5 ([] : List Int) l0 _ _ _ (fun _ => True) (fun _ => False) rfl rfl ?aO ?aR (fun _ _ h => h) (fun _ h => h.elim) ?aF ?aB ?aS ?aL ?_; (case aR => exact Kd.C_below HR0.out HB.out); (case aB => exact HB.out); (case aF => exact (fun _ _ => trivial)); (case aO => exact HO.out); (case aS => exact HB.out.size); (case aL => have := HL.out; simp only [List.length_nil]; omega); intro v7 w7 ho hb hg hat; clear HO HB hg hat; have HO := Aside0.mk ho; have HB := Aside0.mk hb; clear ho hb))
    go_ret
    exact ⟨_, rfl, HO.out, HB.out⟩

/-! ### slices_Sort_int64_int64: function 43 -/
section
open Go.Sort Go.Shelf
def laySort__ren : Go.Shelf.Ren := ⟨fun | 5 => 43 | 8 => 58 | 7 => 57 | 19 => 72 | 20 => 73 | 10 => 63 | 11 => 64 | 12 => 65 | 13 => 66 | 14 => 67 | 15 => 68 | 16 => 69 | 17 => 70 | 18 => 71 | 30 => 74 | 31 => 75 | 32 => 76 | 33 => 77 | 34 => 78 | 35 => 79 | 40 => 80 | n => n, fun | 23 => 24 | 25 => 2 | 3 => 3 | 32 => 74 | 22 => 24 | 0 => 0 | 44 => 87 | 46 => 89 | 4 => 4 | 36 => 79 | 35 => 78 | 41 => 84 | 5 => 5 | 9 => 9 | 53 => 90 | 57 => 94 | 63 => 96 | 64 => 97 | n => n, fun | n => n⟩
theorem laySort_ : Go.Proofs.SlLaysM.n5 Try.prog laySort__ren := {
  mixed := by kernel_rfl
  f5 := ⟨Try.f43.name, by decide, Try.func43.trans (congrArg some (by kernel_rfl))⟩
  f7 := ⟨Try.f57.name, by decide, Try.func57.trans (congrArg some (by kernel_rfl))⟩
  f8 := Try.func58.trans (congrArg some (by kernel_rfl))
  f10 := ⟨Try.f63.name, by decide, Try.func63.trans (congrArg some (by kernel_rfl))⟩
  f11 := ⟨Try.f64.name, by decide, Try.func64.trans (congrArg some (by kernel_rfl))⟩
  f12 := ⟨Try.f65.name, by decide, Try.func65.trans (congrArg some (by kernel_rfl))⟩
  f13 := ⟨Try.f66.name, by decide, Try.func66.trans (congrArg some (by kernel_rfl))⟩
  f14 := ⟨Try.f67.name, by decide, Try.func67.trans (congrArg some (by kernel_rfl))⟩
  f15 := ⟨Try.f68.name, by decide, Try.func68.trans (congrArg some (by kernel_rfl))⟩
  f16 := ⟨Try.f69.name, by decide, Try.func69.trans (congrArg some (by kernel_rfl))⟩
  f17 := ⟨Try.f70.name, by decide, Try.func70.trans (congrArg some (by kernel_rfl))⟩
  f18 := ⟨Try.f71.name, by decide, Try.func71.trans (congrArg some (by kernel_rfl))⟩
  f19 := Try.func72.trans (congrArg some (by kernel_rfl))
  f20 := Try.func73.trans (congrArg some (by kernel_rfl))
  f30 := ⟨Try.f74.name, by decide, Try.func74.trans (congrArg some (by kernel_rfl))⟩
  f31 := Try.func75.trans (congrArg some (by kernel_rfl))
  f32 := Try.func76.trans (congrArg some (by kernel_rfl))
  f33 := ⟨Try.f77.name, by decide, Try.func77.trans (congrArg some (by kernel_rfl))⟩
  f34 := ⟨Try.f78.name, by decide, Try.func78.trans (congrArg some (by kernel_rfl))⟩
  f35 := ⟨Try.f79.name, by decide, Try.func79.trans (congrArg some (by kernel_rfl))⟩
  f40 := ⟨Try.f80.name, by decide, Try.func80.trans (congrArg some (by kernel_rfl))⟩
  t0 := Try.underlying0
  a0 := Try.isAgg0
  z0 := Try.sizeOf0
  v0 := Try.zeroValue0
  t3 := Try.underlying3
  a3 := Try.isAgg3
  z3 := Try.sizeOf3
  v3 := Try.zeroValue3
  t4 := Try.underlying4
  a4 := Try.isAgg4
  z4 := Try.sizeOf4
  v4 := Try.zeroValue4
  t5 := Try.underlying5
  a5 := Try.isAgg5
  z5 := Try.sizeOf5
  v5 := Try.zeroValue5
  t9 := Try.underlying9
  a9 := Try.isAgg9
  z9 := Try.sizeOf9
  v9 := Try.zeroValue9
  t22 := Try.underlying24
  a22 := Try.isAgg24
  z22 := Try.sizeOf24
  v22 := Try.zeroValue24
  t23 := Try.underlying24
  a23 := Try.isAgg24
  z23 := Try.sizeOf24
  v23 := Try.zeroValue24
  t25 := Try.underlying2
  a25 := Try.isAgg2
  z25 := Try.sizeOf2
  v25 := Try.zeroValue2
  t32 := Try.underlying74
  a32 := Try.isAgg74
  z32 := Try.sizeOf74
  v32 := Try.zeroValue74
  t35 := Try.underlying78
  a35 := Try.isAgg78
  z35 := Try.sizeOf78
  v35 := Try.zeroValue78
  t36 := Try.underlying79
  a36 := Try.isAgg79
  z36 := Try.sizeOf79
  v36 := Try.zeroValue79
  t41 := Try.underlying84
  a41 := Try.isAgg84
  z41 := Try.sizeOf84
  v41 := Try.zeroValue84
  t44 := Try.underlying87
  a44 := Try.isAgg87
  z44 := Try.sizeOf87
  v44 := Try.zeroValue87
  t46 := Try.underlying89
  a46 := Try.isAgg89
  z46 := Try.sizeOf89
  v46 := Try.zeroValue89
  t53 := Try.underlying90
  a53 := Try.isAgg90
  z53 := Try.sizeOf90
  v53 := Try.zeroValue90
  t57 := Try.underlying94
  a57 := Try.isAgg94
  z57 := Try.sizeOf94
  v57 := Try.zeroValue94
  t63 := Try.underlying96
  a63 := Try.isAgg96
  z63 := Try.sizeOf96
  v63 := Try.zeroValue96
  t64 := Try.underlying97
  a64 := Try.isAgg97
  z64 := Try.sizeOf97
  v64 := Try.zeroValue97 }
/-- the own row of whole numbers, laid open -/
theorem so_int_open {w : World} {base : Nat} {ok : Nat → Prop} {v : Value} {l : List Int} (h : Kd.R (Kd.int .i64) 2 w base ok v l) :
    (v = .slice none 0 0 ∧ l = []) ∨ ∃ g cap cur, v = .slice (some ⟨g, 0, none⟩) l.length cap ∧ ok g ∧ base ≤ g ∧ w.heap[g]? = some (.cells cur 2 (0, 0)) ∧ l.length ≤ cap ∧ cap ≤ maxLen ∧ cur.size = cap ∧ cur.toList.take l.length = l.map (Value.int .i64) := by
  obtain ⟨hP, inner, ⟨hil, hown⟩, hr1, hr2⟩ := h
  rcases hown with ⟨rfl, h0⟩ | ⟨g, cap, cur, rfl, hg, hh, hnc, hcm, hcs, htk⟩
  · exact .inl ⟨rfl, List.length_eq_zero_iff.1 h0⟩
  · have hsz : (Kd.int .i64).sz = 1 := rfl
    rw [hsz] at hil hcs htk hr1
    refine .inr ⟨g, cap, cur, rfl, hP g rfl, hg, hh, hnc, hcm, by omega, ?_⟩
    have e : inner = l.map (Value.int .i64) := by
      apply List.ext_getElem?
      intro j
      rw [List.getElem?_map]
      by_cases hj : j < l.length
      · have := hr2 j l[j] (List.getElem?_eq_getElem hj)
        have h2 : (inner.drop (j * 1)).take 1 = [Value.int .i64 l[j]] := this
        have h3 := congrArg (·[0]?) h2
        simp at h3
        rw [h3, List.getElem?_eq_getElem hj]
        rfl
      · rw [List.getElem?_eq_none (by omega), List.getElem?_eq_none (by omega)]
        rfl
    rw [← e, ← htk, Nat.mul_one]
theorem so_int_close {w : World} {base : Nat} {ok : Nat → Prop} {l : List Int} {g cap : Nat} {cur : Array Value} (hok : ok g) (hg : base ≤ g) (hh : w.heap[g]? = some (.cells cur 2 (0, 0))) (hnc : l.length ≤ cap) (hcm : cap ≤ maxLen) (hcs : cur.size = cap) (htk : cur.toList.take l.length = l.map (Value.int .i64)) : Kd.R (Kd.int .i64) 2 w base ok (.slice (some ⟨g, 0, none⟩) l.length cap) l := by
  refine ⟨fun k hk => ?_, l.map (Value.int .i64), ⟨?_, .inr ⟨g, cap, cur, rfl, hg, hh, hnc, hcm, ?_, ?_⟩⟩, ?_, ?_⟩
  · have : g = k := by simpa [Value.ownBlock] using hk
    exact this ▸ hok
  · show (l.map (Value.int .i64)).length = l.length * 1
    simp
  · show cur.size = cap * 1
    omega
  · show cur.toList.take (l.length * 1) = _
    rw [Nat.mul_one, htk]
  · show (l.map (Value.int .i64)).length = l.length * 1
    simp
  · intro j p hp
    show ((l.map (Value.int .i64)).drop (j * 1)).take 1 = [Value.int .i64 p]
    have hj : j < l.length := by
      rcases Nat.lt_or_ge j l.length with h | h
      · exact h
      · rw [List.getElem?_eq_none h] at hp; cases hp
    rw [List.getElem?_eq_getElem hj] at hp
    obtain rfl := Option.some.inj hp
    rw [Nat.mul_one, List.drop_eq_getElem_cons (by simpa using hj)]
    simp
theorem so_int_holds {w : World} {l : List Int} {g cap : Nat} {cur : Array Value} (hh : w.heap[g]? = some (.cells cur 2 (0, 0))) (hnc : l.length ≤ cap) (hcs : cur.size = cap) (htk : cur.toList.take l.length = l.map (Value.int .i64)) : Holds (Value.int .i64) w g 0 l.toArray := by
  intro j hj
  have hj' : j < l.length := by simpa using hj
  refine ⟨?_, blk_frozen hh _⟩
  rw [Nat.zero_add, blk_cell hh j]
  have h1 := congrArg (·[j]?) htk
  simp only [List.getElem?_take_of_lt hj', List.getElem?_map, List.getElem?_eq_getElem hj'] at h1
  rw [Array.getElem?_toList] at h1
  rw [h1]
  simp [getElem!_pos, hj']
theorem so_put_row {w : World} {d : List Int} {g cap : Nat} {cur : Array Value} (hh : w.heap[g]? = some (.cells cur 2 (0, 0))) (hd : d.length ≤ cap) (hcs : cur.size = cap) : ∃ cur2 : Array Value, (putRow (Value.int .i64) w g 0 d.toArray).heap[g]? = some (.cells cur2 2 (0, 0)) ∧ cur2.size = cap ∧ cur2.toList.take d.length = d.map (Value.int .i64) := by
  refine ⟨putCells (Value.int .i64) 0 d.toArray cur, ?_, ?_, ?_⟩
  · unfold putRow mapBlock
    rw [Array.getElem?_modify, if_pos rfl, hh]
    rfl
  · unfold putCells
    simp [hcs]
  · apply List.ext_getElem?
    intro j
    unfold putCells
    by_cases hj : j < d.length
    · rw [List.getElem?_take_of_lt hj, Array.getElem?_toList, Array.getElem?_mapIdx, Array.getElem?_eq_getElem (by omega), List.getElem?_map, List.getElem?_eq_getElem hj]
      simp [hj, getElem!_pos]
    · rw [List.getElem?_eq_none (by rw [List.length_take]; omega), List.getElem?_eq_none (by simp; omega)]
theorem so_put_far {w : World} {d : Array Int} {g i : Nat} (h : i ≠ g) : (putRow (Value.int .i64) w g 0 d).heap[i]? = w.heap[i]? := by
  unfold putRow mapBlock
  rw [Array.getElem?_modify, if_neg (fun e => h e.symm)]
theorem so_ahead_heap (w : World) (n : Nat) : (Sort.ahead w n).heap = w.heap := rfl
theorem so_put_below {w0 w w' : World} {base g : Nat} (hB : Below base w0 w) (hg : base ≤ g) (hos : w'.os = w.os) (ht : w'.tape = w.tape) (ho : w'.output = w.output) (hs : w.heap.size ≤ w'.heap.size) (hk : ∀ i, i < w.heap.size → i ≠ g → w'.heap[i]? = w.heap[i]?) (hbs : base ≤ w.heap.size) : Below base w0 w' :=
  ⟨hos.trans hB.os, ht.trans hB.tape, ho.trans hB.output, Nat.le_trans hB.size hs, fun i hi => (hk i (by omega) (by omega)).trans (hB.block i hi)⟩
def slices_Sort_int64_int64.f (l0 : List Int) : Option (List Int) := if 0 < l0.length then (if l0.length < 4398046511104 then some (l0.mergeSort fun x y => decide (x ≤ y)) else none) else none
theorem slices_Sort_int64_int64.calls (P0_ : Nat → Prop) (u9000_ : Value) (l0 : List Int) (r : List Int) (w0 w : World) (hB : Below w0.heap.size w0 w) (ho0 : Kd.R (Kd.int .i64) 2 w w0.heap.size P0_ u9000_ l0) (h : slices_Sort_int64_int64.f l0 = some r) :
    Calls Try.prog 43 #[u9000_] w fun e w' => e = .returned (.tuple #[]) ∧ Kd.R (Kd.int .i64) 2 w' w0.heap.size (fun k_ => (P0_ k_ ∨ w.heap.size ≤ k_)) u9000_ r ∧ Below w0.heap.size w0 w' ∧ Kept w w' (fun k_ => P0_ k_) := by
  unfold slices_Sort_int64_int64.f at h
  split at h
  rotate_left
  · cases h
  rename_i h1
  split at h
  rotate_left
  · cases h
  rename_i h2
  obtain rfl := Option.some.inj h
  rcases so_int_open ho0 with ⟨_, rfl⟩ | ⟨g, cap, cur, rfl, hok, hg, hh, hnc, hcm, hcs, htk⟩
  · simp at h1
  have hgw : g < w.heap.size := blk_lt hh
  refine (AnyM.slices_Sort_int laySort_ g 0 cap l0 w (so_int_holds hh hnc hcs htk) hgw (by omega)).mono ?_
  rintro e w' ⟨rfl, n, os, rfl⟩
  have hl : (l0.mergeSort fun x y => decide (x ≤ y)).length = l0.length := List.length_mergeSort _
  obtain ⟨cur2, e1, e2, e3⟩ := so_put_row (w := Sort.ahead w n) (d := l0.mergeSort fun x y => decide (x ≤ y)) hh (by omega) hcs
  have hsz : (putRow (Value.int .i64) (Sort.ahead w n) g 0 (l0.mergeSort fun x y => decide (x ≤ y)).toArray).heap.size = w.heap.size := size_putRow _ _ _ _ _
  have hold : ∀ i, i < w.heap.size → (grow (putRow (Value.int .i64) (Sort.ahead w n) g 0 (l0.mergeSort fun x y => decide (x ≤ y)).toArray) os).heap[i]? = (putRow (Value.int .i64) (Sort.ahead w n) g 0 (l0.mergeSort fun x y => decide (x ≤ y)).toArray).heap[i]? := fun i hi => Sort.heap_grow_old _ os (by omega)
  have hs2 : w.heap.size ≤ (grow (putRow (Value.int .i64) (Sort.ahead w n) g 0 (l0.mergeSort fun x y => decide (x ≤ y)).toArray) os).heap.size := by
    show w.heap.size ≤ (_ ++ os).size
    rw [Array.size_append]
    omega
  have hk : ∀ i, i < w.heap.size → i ≠ g → (grow (putRow (Value.int .i64) (Sort.ahead w n) g 0 (l0.mergeSort fun x y => decide (x ≤ y)).toArray) os).heap[i]? = w.heap[i]? := fun i hi hn => (hold i hi).trans (so_put_far hn)
  refine ⟨rfl, ?_, so_put_below hB hg rfl rfl rfl hs2 hk hB.size, hs2, fun i hi hn => hk i hi (fun e => hn (e ▸ hok))⟩
  have := so_int_close (l := l0.mergeSort fun x y => decide (x ≤ y)) (ok := fun k_ => (P0_ k_ ∨ w.heap.size ≤ k_)) (.inl hok) hg ((hold g hgw).trans e1) (by omega) hcm e2 e3
  rw [hl] at this
  exact this
end

/-! ### slices_DeleteFunc_int64_int64: function 44 -/
section
open Go.Sort Go.Shelf
def layDel__ren : Go.Shelf.Ren := ⟨fun | 10 => 44 | 6 => 59 | n => n, fun | 22 => 24 | 23 => 2 | 25 => 65 | 3 => 3 | 4 => 4 | 0 => 0 | n => n, fun | n => n⟩
theorem layDel_ : Go.Proofs.SlLaysH.n10 Try.prog layDel__ren := {
  mixed := by kernel_rfl
  f6 := ⟨Try.f59.name, by decide, Try.func59.trans (congrArg some (by kernel_rfl))⟩
  f10 := ⟨Try.f44.name, by decide, Try.func44.trans (congrArg some (by kernel_rfl))⟩
  t0 := Try.underlying0
  a0 := Try.isAgg0
  z0 := Try.sizeOf0
  v0 := Try.zeroValue0
  t3 := Try.underlying3
  a3 := Try.isAgg3
  z3 := Try.sizeOf3
  v3 := Try.zeroValue3
  t4 := Try.underlying4
  a4 := Try.isAgg4
  z4 := Try.sizeOf4
  v4 := Try.zeroValue4
  t22 := Try.underlying24
  a22 := Try.isAgg24
  z22 := Try.sizeOf24
  v22 := Try.zeroValue24
  a23 := Try.isAgg2
  z23 := Try.sizeOf2
  t25 := Try.underlying65
  a25 := Try.isAgg65
  z25 := Try.sizeOf65
  v25 := Try.zeroValue65 }
/-- the own row of whole numbers, laid open -/
theorem de_int_open {w : World} {base : Nat} {ok : Nat → Prop} {v : Value} {l : List Int} (h : Kd.R (Kd.int .i64) 2 w base ok v l) :
    (v = .slice none 0 0 ∧ l = []) ∨ ∃ g cap cur, v = .slice (some ⟨g, 0, none⟩) l.length cap ∧ ok g ∧ base ≤ g ∧ w.heap[g]? = some (.cells cur 2 (0, 0)) ∧ l.length ≤ cap ∧ cap ≤ maxLen ∧ cur.size = cap ∧ cur.toList.take l.length = l.map (Value.int .i64) := by
  obtain ⟨hP, inner, ⟨hil, hown⟩, hr1, hr2⟩ := h
  rcases hown with ⟨rfl, h0⟩ | ⟨g, cap, cur, rfl, hg, hh, hnc, hcm, hcs, htk⟩
  · exact .inl ⟨rfl, List.length_eq_zero_iff.1 h0⟩
  · have hsz : (Kd.int .i64).sz = 1 := rfl
    rw [hsz] at hil hcs htk hr1
    refine .inr ⟨g, cap, cur, rfl, hP g rfl, hg, hh, hnc, hcm, by omega, ?_⟩
    have e : inner = l.map (Value.int .i64) := by
      apply List.ext_getElem?
      intro j
      rw [List.getElem?_map]
      by_cases hj : j < l.length
      · have := hr2 j l[j] (List.getElem?_eq_getElem hj)
        have h2 : (inner.drop (j * 1)).take 1 = [Value.int .i64 l[j]] := this
        have h3 := congrArg (·[0]?) h2
        simp at h3
        rw [h3, List.getElem?_eq_getElem hj]
        rfl
      · rw [List.getElem?_eq_none (by omega), List.getElem?_eq_none (by omega)]
        rfl
    rw [← e, ← htk, Nat.mul_one]
theorem de_int_close {w : World} {base : Nat} {ok : Nat → Prop} {l : List Int} {g cap : Nat} {cur : Array Value} (hok : ok g) (hg : base ≤ g) (hh : w.heap[g]? = some (.cells cur 2 (0, 0))) (hnc : l.length ≤ cap) (hcm : cap ≤ maxLen) (hcs : cur.size = cap) (htk : cur.toList.take l.length = l.map (Value.int .i64)) : Kd.R (Kd.int .i64) 2 w base ok (.slice (some ⟨g, 0, none⟩) l.length cap) l := by
  refine ⟨fun k hk => ?_, l.map (Value.int .i64), ⟨?_, .inr ⟨g, cap, cur, rfl, hg, hh, hnc, hcm, ?_, ?_⟩⟩, ?_, ?_⟩
  · have : g = k := by simpa [Value.ownBlock] using hk
    exact this ▸ hok
  · show (l.map (Value.int .i64)).length = l.length * 1
    simp
  · show cur.size = cap * 1
    omega
  · show cur.toList.take (l.length * 1) = _
    rw [Nat.mul_one, htk]
  · show (l.map (Value.int .i64)).length = l.length * 1
    simp
  · intro j p hp
    show ((l.map (Value.int .i64)).drop (j * 1)).take 1 = [Value.int .i64 p]
    have hj : j < l.length := by
      rcases Nat.lt_or_ge j l.length with h | h
      · exact h
      · rw [List.getElem?_eq_none h] at hp; cases hp
    rw [List.getElem?_eq_getElem hj] at hp
    obtain rfl := Option.some.inj hp
    rw [Nat.mul_one, List.drop_eq_getElem_cons (by simpa using hj)]
    simp
theorem de_int_holds {w : World} {l : List Int} {g cap : Nat} {cur : Array Value} (hh : w.heap[g]? = some (.cells cur 2 (0, 0))) (hnc : l.length ≤ cap) (hcs : cur.size = cap) (htk : cur.toList.take l.length = l.map (Value.int .i64)) : Holds (Value.int .i64) w g 0 l.toArray := by
  intro j hj
  have hj' : j < l.length := by simpa using hj
  refine ⟨?_, blk_frozen hh _⟩
  rw [Nat.zero_add, blk_cell hh j]
  have h1 := congrArg (·[j]?) htk
  simp only [List.getElem?_take_of_lt hj', List.getElem?_map, List.getElem?_eq_getElem hj'] at h1
  rw [Array.getElem?_toList] at h1
  rw [h1]
  simp [getElem!_pos, hj']
theorem de_put_row {w : World} {d : List Int} {g cap : Nat} {cur : Array Value} (hh : w.heap[g]? = some (.cells cur 2 (0, 0))) (hd : d.length ≤ cap) (hcs : cur.size = cap) : ∃ cur2 : Array Value, (putRow (Value.int .i64) w g 0 d.toArray).heap[g]? = some (.cells cur2 2 (0, 0)) ∧ cur2.size = cap ∧ cur2.toList.take d.length = d.map (Value.int .i64) := by
  refine ⟨putCells (Value.int .i64) 0 d.toArray cur, ?_, ?_, ?_⟩
  · unfold putRow mapBlock
    rw [Array.getElem?_modify, if_pos rfl, hh]
    rfl
  · unfold putCells
    simp [hcs]
  · apply List.ext_getElem?
    intro j
    unfold putCells
    by_cases hj : j < d.length
    · rw [List.getElem?_take_of_lt hj, Array.getElem?_toList, Array.getElem?_mapIdx, Array.getElem?_eq_getElem (by omega), List.getElem?_map, List.getElem?_eq_getElem hj]
      simp [hj, getElem!_pos]
    · rw [List.getElem?_eq_none (by rw [List.length_take]; omega), List.getElem?_eq_none (by simp; omega)]
theorem de_put_far {w : World} {d : Array Int} {g i : Nat} (h : i ≠ g) : (putRow (Value.int .i64) w g 0 d).heap[i]? = w.heap[i]? := by
  unfold putRow mapBlock
  rw [Array.getElem?_modify, if_neg (fun e => h e.symm)]
theorem de_ahead_heap (w : World) (n : Nat) : (Sort.ahead w n).heap = w.heap := rfl
theorem de_put_below {w0 w w' : World} {base g : Nat} (hB : Below base w0 w) (hg : base ≤ g) (hos : w'.os = w.os) (ht : w'.tape = w.tape) (ho : w'.output = w.output) (hs : w.heap.size ≤ w'.heap.size) (hk : ∀ i, i < w.heap.size → i ≠ g → w'.heap[i]? = w.heap[i]?) (hbs : base ≤ w.heap.size) : Below base w0 w' :=
  ⟨hos.trans hB.os, ht.trans hB.tape, ho.trans hB.output, Nat.le_trans hB.size hs, fun i hi => (hk i (by omega) (by omega)).trans (hB.block i hi)⟩
theorem clo45 (a1 x : Int) (B : Nat) (W : World) (hc : W.cell? ⟨B, 0, none⟩ = some (.int .i64 a1)) :
    FnGives Try.prog 45 #[.pointer (some ⟨B, 0, none⟩)] #[.int .i64 x] (.bool (decide (x ≤ wrap64 (a1 - 16)))) W := by
  show Calls Try.prog 45 #[.int .i64 x, .pointer (some ⟨B, 0, none⟩)] W _
  have hu26 := Try.underlying26
  go_enter Try.func45, Try.ntmps45
  go_wp2
  all_goals (go_ret; exact ⟨by simp_all, 0, rfl⟩)
def slices_DeleteFunc_int64_int64.f (l0 : List Int) (a1 : Int) : Option (List Int) := if 0 < l0.length then (if l0.length < 4398046511104 then some (l0.filter fun x => !decide (x ≤ wrap64 (a1 - 16))) else none) else none
theorem slices_DeleteFunc_int64_int64.calls (P0_ : Nat → Prop) (u9000_ : Value) (l0 : List Int) {B : Nat} (a1 : Int) (r : List Int) (w0 w : World) (hB : Below w0.heap.size w0 w) (ho0 : Kd.R (Kd.int .i64) 2 w w0.heap.size P0_ u9000_ l0) (hx1 : w.cell? ⟨B, 0, none⟩ = some (.int .i64 a1)) (hn1 : ¬ P0_ B) (h : slices_DeleteFunc_int64_int64.f l0 a1 = some r) :
    Calls Try.prog 44 #[u9000_, .func (.func 45) #[] #[.pointer (some ⟨B, 0, none⟩)]] w fun e w' => ∃ v0_ : Value, e = .returned v0_ ∧ Kd.R (Kd.int .i64) 2 w' w0.heap.size (fun k_ => (P0_ k_ ∨ w.heap.size ≤ k_)) v0_ r ∧ Below w0.heap.size w0 w' ∧ Kept w w' (fun k_ => P0_ k_) := by
  unfold slices_DeleteFunc_int64_int64.f at h
  split at h
  rotate_left
  · cases h
  rename_i h1
  split at h
  rotate_left
  · cases h
  rename_i h2
  obtain rfl := Option.some.inj h
  rcases de_int_open ho0 with ⟨_, rfl⟩ | ⟨g, cap, cur, rfl, hok, hg, hh, hnc, hcm, hcs, htk⟩
  · simp at h1
  have hgw : g < w.heap.size := blk_lt hh
  have hBw : B < w.heap.size := World.block_lt_of_cell? w _ hx1
  have hBg : B ≠ g := fun e => hn1 (e ▸ hok)
  have eg : ∀ args w, (callFunc 45 args).run Try.prog w = .ok (.enter 45 args) w := enters_of Try.func45 (by kernel_rfl) rfl
  have hp : PredAt Try.prog 45 #[.pointer (some ⟨B, 0, none⟩)] (Value.int .i64) (fun x => decide (x ≤ wrap64 (a1 - 16))) w :=
    fun W x hb => clo45 a1 x B W ((hb.cell (p := ⟨B, 0, none⟩) hBw).trans hx1)
  have hpo : PredOver Try.prog 45 #[.pointer (some ⟨B, 0, none⟩)] (Value.int .i64) (fun x => decide (x ≤ wrap64 (a1 - 16))) g 0 l0.toArray.size w :=
    fun n os dk x _ => clo45 a1 x B _ (by
      unfold sortWorld
      rw [cell?_grow _ _ _ (by show B < (putRow _ _ _ _ _).heap.size; rw [size_putRow]; exact hBw), cell?_putRow_other _ _ g 0 _ _ (Or.inl hBg)]
      exact hx1)
  refine (AnyE.slices_DeleteFunc layDel_ (Value.int .i64) (fun _ => rfl) (fun x => decide (x ≤ wrap64 (a1 - 16))) 45 #[.pointer (some ⟨B, 0, none⟩)] eg 0 Try.zeroValue2 g 0 cap l0.toArray w hp hpo (de_int_holds hh hnc hcs htk) (by simp; omega) (by simpa using hnc)).mono ?_
  rintro e w' ⟨rfl, q, rfl⟩
  have hf : (l0.filter fun x => !decide (x ≤ wrap64 (a1 - 16))).length ≤ l0.length := List.length_filter_le _ _
  have hl : ((l0.filter fun x => !decide (x ≤ wrap64 (a1 - 16))) ++ List.replicate (l0.toArray.size - (l0.filter fun x => !decide (x ≤ wrap64 (a1 - 16))).length) 0).length = l0.length := by simp; omega
  obtain ⟨cur2, e1, e2, e3⟩ := de_put_row (w := Sort.ahead w q) (d := (l0.filter fun x => !decide (x ≤ wrap64 (a1 - 16))) ++ List.replicate (l0.toArray.size - (l0.filter fun x => !decide (x ≤ wrap64 (a1 - 16))).length) 0) hh (by omega) hcs
  have e4 : cur2.toList.take (l0.filter fun x => !decide (x ≤ wrap64 (a1 - 16))).length = (l0.filter fun x => !decide (x ≤ wrap64 (a1 - 16))).map (Value.int .i64) := by
    have := congrArg (List.take (l0.filter fun x => !decide (x ≤ wrap64 (a1 - 16))).length) e3
    rw [List.take_take, Nat.min_eq_left (by omega), List.map_append, List.take_left' (by simp)] at this
    exact this
  have hs2 : w.heap.size ≤ (putRow (Value.int .i64) (Sort.ahead w q) g 0 ((l0.filter fun x => !decide (x ≤ wrap64 (a1 - 16))) ++ List.replicate (l0.toArray.size - (l0.filter fun x => !decide (x ≤ wrap64 (a1 - 16))).length) 0).toArray).heap.size := Nat.le_of_eq (size_putRow _ _ _ _ _).symm
  refine ⟨_, rfl, ?_, de_put_below hB hg rfl rfl rfl hs2 (fun i hi hn => de_put_far hn) hB.size, hs2, fun i hi hn => de_put_far (fun e => hn (e ▸ hok))⟩
  exact de_int_close (.inl hok) hg e1 (Nat.le_trans hf hnc) hcm e2 e4
end

end Go.Proofs.Ytbnibakamdhpdaa.MFnWindows
