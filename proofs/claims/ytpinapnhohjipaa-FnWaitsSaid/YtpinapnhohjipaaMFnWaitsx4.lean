-- Laid by a program of this session (the kit's print, turned where it falls short; the texts of functions that it does not take are proved by hand).
import Derived.Test.YtpinapnhohjipaaMFnWaitsx0
import Derived.Test.YtpinapnhohjipaaMFnWaitsx2
import Derived.Test.YtpinapnhohjipaaMFnWaitsx3
namespace Go.Proofs.Ytpinapnhohjipaa.MFnWaits
open Go.RowKit Go.Proofs.YtpinapnhohjipaaW.PrintWords Go.Proofs.YtpinapnhohjipaaW.PrintLast Go.Proofs.YtpinapnhohjipaaW.PrintMore
attribute [local go_sem] max2_int min2_int max_two min_two max_three min_three max_four min_four   -- for this text's walks alone
set_option linter.unusedVariables false
set_option linter.unusedSimpArgs false

attribute [local go_sem] isSome_setCell
/-! ### impl_WaitsFault: function 15 -/
mutual
def impl_WaitsFault.l0 : Nat → List (S67) → Int → Int → Option (Int)
  | 0, _, _, _ => none
  | k + 1, x8, x9, x10 => if x10 < x9 then (if 0 ≤ x10 then (if x10 < (x8.length : Int) then ((impl_in.f ((rd_T67 x8 x10).f0) 1 4).bind fun t232 => (if t232 = true then (if ((rd_T67 x8 x10).f0) = 4 then (impl_WaitsFault.j1 k x8 x9 x10 false ((rd_T67 x8 x10).f0) ((rd_T67 x8 x10).f1) ((rd_T67 x8 x10).f2) ((rd_T67 x8 x10).f3) ((rd_T67 x8 x10).f4) ((rd_T67 x8 x10).f5) ((rd_T67 x8 x10).f6)) else (if ((rd_T67 x8 x10).f5) = 0 then (impl_WaitsFault.j1 k x8 x9 x10 (((rd_T67 x8 x10).f6) != 0) ((rd_T67 x8 x10).f0) ((rd_T67 x8 x10).f1) ((rd_T67 x8 x10).f2) ((rd_T67 x8 x10).f3) ((rd_T67 x8 x10).f4) ((rd_T67 x8 x10).f5) ((rd_T67 x8 x10).f6)) else (impl_WaitsFault.j1 k x8 x9 x10 true ((rd_T67 x8 x10).f0) ((rd_T67 x8 x10).f1) ((rd_T67 x8 x10).f2) ((rd_T67 x8 x10).f3) ((rd_T67 x8 x10).f4) ((rd_T67 x8 x10).f5) ((rd_T67 x8 x10).f6)))) else (impl_WaitsFault.j1 k x8 x9 x10 true ((rd_T67 x8 x10).f0) ((rd_T67 x8 x10).f1) ((rd_T67 x8 x10).f2) ((rd_T67 x8 x10).f3) ((rd_T67 x8 x10).f4) ((rd_T67 x8 x10).f5) ((rd_T67 x8 x10).f6)))) else (none)) else (none)) else (some 0)
def impl_WaitsFault.j1 : Nat → List (S67) → Int → Int → Bool → Int → Int → Int → Int → Int → Int → Int → Option (Int)
  | 0, _, _, _, _, _, _, _, _, _, _, _ => none
  | k + 1, x8, x9, x10, x32, x232000, x232001, x232002, x232003, x232004, x232005, x232006 => if x32 = true then (some 1) else ((impl_isSeq.f x232001).bind fun t233 => (if t233 = true then ((impl_isNode.f x232002).bind fun t234 => (if t234 = true then ((impl_in.f x232003 0 1000000).bind fun t235 => (if t235 = true then ((impl_in.f x232004 1 9).bind fun t236 => (if t236 = true then ((impl_isNode.f x232005).bind fun t237 => (if t237 = true then ((impl_isSeq.f x232006).bind fun t238 => (if t238 = true then (impl_WaitsFault.l0 k x8 x9 (wrap64 (x10 + 1))) else (some 3))) else (some 3))) else (some 3))) else (some 3))) else (some 3))) else (some 3)))
end
def impl_WaitsFault.f (k : Nat) (l0 : List (S67)) : Option (Int) := if (l0.length : Int) > 40 then (some 2) else (impl_WaitsFault.l0 k l0 (l0.length : Int) 0)
theorem impl_WaitsFault.mono_l : ∀ k, (∀ y0 y1 y2, LeO (impl_WaitsFault.l0 k y0 y1 y2) (impl_WaitsFault.l0 (k + 1) y0 y1 y2)) ∧ (∀ y0 y1 y2 y3 y4 y5 y6 y7 y8 y9 y10, LeO (impl_WaitsFault.j1 k y0 y1 y2 y3 y4 y5 y6 y7 y8 y9 y10) (impl_WaitsFault.j1 (k + 1) y0 y1 y2 y3 y4 y5 y6 y7 y8 y9 y10))
  | 0 => ⟨fun _ _ _ r h => by simp [impl_WaitsFault.l0] at h, fun _ _ _ _ _ _ _ _ _ _ _ r h => by simp [impl_WaitsFault.j1] at h⟩
  | k + 1 => by
    obtain ⟨ih0, ih1⟩ := impl_WaitsFault.mono_l k
    refine ⟨?_, ?_⟩
    · intro y0 y1 y2
      unfold impl_WaitsFault.l0
      repeat' first
      | (with_reducible exact ih0 _ _ _)
      | (with_reducible exact ih1 _ _ _ _ _ _ _ _ _ _ _)
      | (with_reducible exact LeO.refl _)
      | (with_reducible exact LeO.none _)
      | (with_reducible refine LeO.ite ?_ ?_)
      | (with_reducible refine LeO.bind ?_ (fun _ => ?_))
      | exact ih0 _ _ _
      | exact ih1 _ _ _ _ _ _ _ _ _ _ _
      | exact LeO.none _
      | refine LeO.ite ?_ ?_
      | refine LeO.bind ?_ (fun _ => ?_)
    · intro y0 y1 y2 y3 y4 y5 y6 y7 y8 y9 y10
      unfold impl_WaitsFault.j1
      repeat' first
      | (with_reducible exact ih0 _ _ _)
      | (with_reducible exact ih1 _ _ _ _ _ _ _ _ _ _ _)
      | (with_reducible exact LeO.refl _)
      | (with_reducible exact LeO.none _)
      | (with_reducible refine LeO.ite ?_ ?_)
      | (with_reducible refine LeO.bind ?_ (fun _ => ?_))
      | exact ih0 _ _ _
      | exact ih1 _ _ _ _ _ _ _ _ _ _ _
      | exact LeO.none _
      | refine LeO.ite ?_ ?_
      | refine LeO.bind ?_ (fun _ => ?_)
theorem impl_WaitsFault.mono : ∀ a0 k, LeO (impl_WaitsFault.f k a0) (impl_WaitsFault.f (k + 1) a0) := by
  intro a0 k
  obtain ⟨ih0, ih1⟩ := impl_WaitsFault.mono_l k
  unfold impl_WaitsFault.f
  repeat' first
      | (with_reducible exact ih0 _ _ _)
      | (with_reducible exact ih1 _ _ _ _ _ _ _ _ _ _ _)
      | (with_reducible exact LeO.refl _)
      | (with_reducible exact LeO.none _)
      | (with_reducible refine LeO.ite ?_ ?_)
      | (with_reducible refine LeO.bind ?_ (fun _ => ?_))
      | exact ih0 _ _ _
      | exact ih1 _ _ _ _ _ _ _ _ _ _ _
      | exact LeO.none _
      | refine LeO.ite ?_ ?_
      | refine LeO.bind ?_ (fun _ => ?_)
set_option maxHeartbeats 8000000 in
set_option maxRecDepth 100000 in
theorem impl_WaitsFault.calls (k : Nat) (A0 : Option Addr) (c0 : Nat) (l0 : List (S67)) (r : Int) (w : World) (hr0 : Kd.C k67 w A0 l0.length l0) (hc0 : l0.length ≤ c0) (h : impl_WaitsFault.f k l0 = some r) :
    Calls Try.prog 15 #[.slice A0 l0.length c0] w fun e w' => e = .returned (.int .i64 r) ∧ Below w.heap.size w w' := by
  have hu67 := Try.underlying67
  have HR0 := Aside0.mk hr0
  have HC0 := Aside0.mk hc0
  clear hr0 hc0
  have HB := Aside0.mk (Below.refl w.heap.size w)
  have H : (if (l0.length : Int) > 40 then (some 2) else (impl_WaitsFault.l0 k l0 (l0.length : Int) 0)) = some r := h
  clear h
  by_cases c2 : (l0.length : Int) > 40
  · rw [if_pos c2] at H
    have c2b0 : decide (40 < (l0.length : Int)) = true := decide_eq_true c2
    have c2b1 : decide (40 < l0.length) = true := decide_eq_true (by omega)
    clear c2
    obtain rfl := Option.some.inj H
    go_enter Try.func15, Try.ntmps15
    go_wp2
    go_ret
    exact ⟨by first | rfl | (simp [errW_none, errW_some] <;> rfl) | (simp [*, errW_none, errW_some] <;> rfl), by repeat (first | (with_reducible first | exact HB.out | apply below_alloc | apply pw_below_drewN | apply below_drew1) | exact HB.out)⟩
  · rw [if_neg c2] at H
    have c2b0 : decide (40 < (l0.length : Int)) = false := decide_eq_false c2
    have c2b1 : decide (40 < l0.length) = false := decide_eq_false (by omega)
    clear c2
    have H' := Aside0.mk H
    clear H
    go_enter Try.func15, Try.ntmps15
    go_wp2
    go_loopg [10] k (fun kq v10 w' => ∃ (x10_1 : Int), v10 = .int .i64 x10_1 ∧ Aside0 (impl_WaitsFault.l0 kq l0 (l0.length : Int) x10_1 = some r) ∧ Aside0 (kq ≤ k) ∧ Aside0 (Below w.heap.size w w'))
    case atStart => exact ⟨(0), (by first | rfl | (simp; done) | (simp [*]; done)), H', ⟨Nat.le_refl _⟩, ⟨by repeat (first | (with_reducible first | exact HB.out | apply below_alloc | apply pw_below_drewN | apply below_drew1) | exact HB.out)⟩⟩
    case round =>
      clear H'
      try clear c1
      try clear c2
      try clear c2b0
      try clear c2b1
      try clear p2
      obtain ⟨x10_1, rfl, HA, HK1, HB⟩ := hrel
      cases gk with
      | zero => exact absurd HA.out (by simp [impl_WaitsFault.l0])
      | succ k1 =>
        have H := HA.out
        clear HA
        simp only [impl_WaitsFault.l0] at H
        by_cases c3 : x10_1 < (l0.length : Int)
        · rw [if_pos c3] at H
          have c3b0 : decide (x10_1 < (l0.length : Int)) = true := decide_eq_true c3
          clear c3
          by_cases c4 : 0 ≤ x10_1
          · rw [if_pos c4] at H
            have c4b0 : decide (0 ≤ x10_1) = true := decide_eq_true c4
            clear c4
            by_cases c5 : x10_1 < (l0.length : Int)
            · rw [if_pos c5] at H
              have c5b0 : decide (x10_1 < (l0.length : Int)) = true := decide_eq_true c5
              clear c5
              have HC6 := Aside0.mk H
              clear H
              have p230 : 0 ≤ (x10_1 : Int) := of_decide_eq_true (by first | (with_reducible assumption) | assumption)
              have q230 : x10_1 < (l0.length : Int) := of_decide_eq_true (by first | (with_reducible assumption) | assumption)
              obtain ⟨ad230, e230, hx230_0, hx230_1, hx230_2, hx230_3, hx230_4, hx230_5, hx230_6⟩ := at_T67 HR0.out x10_1 p230 q230
              cases e230
              replace hx230_0 := (HB.out.cell (World.block_lt_of_cell? w _ hx230_0)).trans hx230_0
              replace hx230_1 := (HB.out.cell (World.block_lt_of_cell? w _ hx230_1)).trans hx230_1
              replace hx230_2 := (HB.out.cell (World.block_lt_of_cell? w _ hx230_2)).trans hx230_2
              replace hx230_3 := (HB.out.cell (World.block_lt_of_cell? w _ hx230_3)).trans hx230_3
              replace hx230_4 := (HB.out.cell (World.block_lt_of_cell? w _ hx230_4)).trans hx230_4
              replace hx230_5 := (HB.out.cell (World.block_lt_of_cell? w _ hx230_5)).trans hx230_5
              replace hx230_6 := (HB.out.cell (World.block_lt_of_cell? w _ hx230_6)).trans hx230_6
              replace p230 := eq_true p230
              replace q230 := eq_true q230
              go_upto_region 6 with (first | ((with_reducible refine gate_dst (N := 4) rfl ?_); refine box_event ?hg (N := 4) ?hd (cs := #[.int .i64 0, .int .i64 0, .int .i64 0, .int .i64 0, .int .i64 0, .int .i64 0, .int .i64 0]) (t := 67) ?hr ?_; (case hd => rfl); (case hg => rfl); (case hr => first | (go_simp; done) | (go_simp; rfl)); intro gb231 hg w7 hbox hb; have n0_ := Aside0.mk (below_step (by repeat (first | (with_reducible first | exact HB.out | apply below_alloc | apply pw_below_drewN | apply below_drew1) | exact HB.out)) hb); have n1_ := Aside0.mk (hbox); have n2_ := Aside0.mk ((by rw [hg]; exact (below_size (by repeat (first | (with_reducible first | exact HB.out | apply below_alloc | apply pw_below_drewN | apply below_drew1) | exact HB.out))) : w.heap.size ≤ gb231)); have n3_ := Aside0.mk ((by rw [hg]; exact (below_size (by repeat (first | (with_reducible first | exact HB.out | apply below_alloc | apply pw_below_drewN | apply below_drew1) | exact HB.out))) : w.heap.size ≤ gb231)); clear HB; have HB := n0_; have BK231 := n1_; have GW231 := n2_; have GE231 := n3_; clear n0_ n1_ n2_ n3_; clear hb hbox hg; have hcz8_0 : w7.cell? ⟨gb231, 0, none⟩ = some (.int .i64 0) := (blk_cell BK231.out 0).trans rfl; have hcz8_1 : w7.cell? ⟨gb231, 1, none⟩ = some (.int .i64 0) := (blk_cell BK231.out 1).trans rfl; have hcz8_2 : w7.cell? ⟨gb231, 2, none⟩ = some (.int .i64 0) := (blk_cell BK231.out 2).trans rfl; have hcz8_3 : w7.cell? ⟨gb231, 3, none⟩ = some (.int .i64 0) := (blk_cell BK231.out 3).trans rfl; have hcz8_4 : w7.cell? ⟨gb231, 4, none⟩ = some (.int .i64 0) := (blk_cell BK231.out 4).trans rfl; have hcz8_5 : w7.cell? ⟨gb231, 5, none⟩ = some (.int .i64 0) := (blk_cell BK231.out 5).trans rfl; have hcz8_6 : w7.cell? ⟨gb231, 6, none⟩ = some (.int .i64 0) := (blk_cell BK231.out 6).trans rfl; have hfz8_0 := blk_frozen BK231.out 0; have hfz8_1 := blk_frozen BK231.out 1; have hfz8_2 := blk_frozen BK231.out 2; have hfz8_3 := blk_frozen BK231.out 3; have hfz8_4 := blk_frozen BK231.out 4; have hfz8_5 := blk_frozen BK231.out 5; have hfz8_6 := blk_frozen BK231.out 6))
              (try simp only [Act.put, List.setIfInBounds_toArray, List.set_cons_zero, List.set_cons_succ])
              go_cut [32] (fun v32 wc => ∃ (kq : Nat) (x32_5 : Bool), v32 = .bool x32_5 ∧ Aside0 (impl_WaitsFault.j1 kq l0 (l0.length : Int) x10_1 x32_5 ((rd_T67 l0 x10_1).f0) ((rd_T67 l0 x10_1).f1) ((rd_T67 l0 x10_1).f2) ((rd_T67 l0 x10_1).f3) ((rd_T67 l0 x10_1).f4) ((rd_T67 l0 x10_1).f5) ((rd_T67 l0 x10_1).f6) = some r) ∧ Aside0 (kq ≤ k1) ∧ Aside0 (wc.heap[gb231]? = some (.cells #[.int .i64 ((rd_T67 l0 x10_1).f0), .int .i64 ((rd_T67 l0 x10_1).f1), .int .i64 ((rd_T67 l0 x10_1).f2), .int .i64 ((rd_T67 l0 x10_1).f3), .int .i64 ((rd_T67 l0 x10_1).f4), .int .i64 ((rd_T67 l0 x10_1).f5), .int .i64 ((rd_T67 l0 x10_1).f6)] 67 (0, 0))) ∧ Aside0 (Below w.heap.size w wc))
              case first =>
                have H := HC6.out
                clear HC6
                replace H := Option.bind_eq_some_iff.mp H
                obtain ⟨t232, A90, H⟩ := H
                replace H : (if t232 = true then (if ((rd_T67 l0 x10_1).f0) = 4 then (impl_WaitsFault.j1 k1 l0 (l0.length : Int) x10_1 false ((rd_T67 l0 x10_1).f0) ((rd_T67 l0 x10_1).f1) ((rd_T67 l0 x10_1).f2) ((rd_T67 l0 x10_1).f3) ((rd_T67 l0 x10_1).f4) ((rd_T67 l0 x10_1).f5) ((rd_T67 l0 x10_1).f6)) else (if ((rd_T67 l0 x10_1).f5) = 0 then (impl_WaitsFault.j1 k1 l0 (l0.length : Int) x10_1 (((rd_T67 l0 x10_1).f6) != 0) ((rd_T67 l0 x10_1).f0) ((rd_T67 l0 x10_1).f1) ((rd_T67 l0 x10_1).f2) ((rd_T67 l0 x10_1).f3) ((rd_T67 l0 x10_1).f4) ((rd_T67 l0 x10_1).f5) ((rd_T67 l0 x10_1).f6)) else (impl_WaitsFault.j1 k1 l0 (l0.length : Int) x10_1 true ((rd_T67 l0 x10_1).f0) ((rd_T67 l0 x10_1).f1) ((rd_T67 l0 x10_1).f2) ((rd_T67 l0 x10_1).f3) ((rd_T67 l0 x10_1).f4) ((rd_T67 l0 x10_1).f5) ((rd_T67 l0 x10_1).f6)))) else (impl_WaitsFault.j1 k1 l0 (l0.length : Int) x10_1 true ((rd_T67 l0 x10_1).f0) ((rd_T67 l0 x10_1).f1) ((rd_T67 l0 x10_1).f2) ((rd_T67 l0 x10_1).f3) ((rd_T67 l0 x10_1).f4) ((rd_T67 l0 x10_1).f5) ((rd_T67 l0 x10_1).f6))) = some r := H
                have A9 := Aside0.mk A90
                clear A90
                by_cases c10 : t232 = true
                · subst c10
                  have H1 : (if ((rd_T67 l0 x10_1).f0) = 4 then (impl_WaitsFault.j1 k1 l0 (l0.length : Int) x10_1 false ((rd_T67 l0 x10_1).f0) ((rd_T67 l0 x10_1).f1) ((rd_T67 l0 x10_1).f2) ((rd_T67 l0 x10_1).f3) ((rd_T67 l0 x10_1).f4) ((rd_T67 l0 x10_1).f5) ((rd_T67 l0 x10_1).f6)) else (if ((rd_T67 l0 x10_1).f5) = 0 then (impl_WaitsFault.j1 k1 l0 (l0.length : Int) x10_1 (((rd_T67 l0 x10_1).f6) != 0) ((rd_T67 l0 x10_1).f0) ((rd_T67 l0 x10_1).f1) ((rd_T67 l0 x10_1).f2) ((rd_T67 l0 x10_1).f3) ((rd_T67 l0 x10_1).f4) ((rd_T67 l0 x10_1).f5) ((rd_T67 l0 x10_1).f6)) else (impl_WaitsFault.j1 k1 l0 (l0.length : Int) x10_1 true ((rd_T67 l0 x10_1).f0) ((rd_T67 l0 x10_1).f1) ((rd_T67 l0 x10_1).f2) ((rd_T67 l0 x10_1).f3) ((rd_T67 l0 x10_1).f4) ((rd_T67 l0 x10_1).f5) ((rd_T67 l0 x10_1).f6)))) = some r := by rw [if_pos rfl] at H; exact H
                  clear H
                  have H := H1
                  clear H1
                  by_cases c11 : ((rd_T67 l0 x10_1).f0) = 4
                  · rw [if_pos c11] at H
                    have c11b0 : (((rd_T67 l0 x10_1).f0) == 4) = true := beq_iff_eq.mpr c11
                    have c11b1 : (((rd_T67 l0 x10_1).f0) != 4) = false := bne_eq_false_iff_eq.mpr c11
                    clear c11
                    (first | rw [c11b0] | (simp only [i64_w, i32_w]; rw [c11b0]) | skip)
                    have H' := Aside0.mk H
                    clear H
                    have hcz12_0 : w7.cell? ⟨gb231, 0, none⟩ = some (.int .i64 0) := (blk_cell BK231.out 0).trans rfl
                    have hcz12_1 : w7.cell? ⟨gb231, 1, none⟩ = some (.int .i64 0) := (blk_cell BK231.out 1).trans rfl
                    have hcz12_2 : w7.cell? ⟨gb231, 2, none⟩ = some (.int .i64 0) := (blk_cell BK231.out 2).trans rfl
                    have hcz12_3 : w7.cell? ⟨gb231, 3, none⟩ = some (.int .i64 0) := (blk_cell BK231.out 3).trans rfl
                    have hcz12_4 : w7.cell? ⟨gb231, 4, none⟩ = some (.int .i64 0) := (blk_cell BK231.out 4).trans rfl
                    have hcz12_5 : w7.cell? ⟨gb231, 5, none⟩ = some (.int .i64 0) := (blk_cell BK231.out 5).trans rfl
                    have hcz12_6 : w7.cell? ⟨gb231, 6, none⟩ = some (.int .i64 0) := (blk_cell BK231.out 6).trans rfl
                    have hfz12_0 := blk_frozen BK231.out 0
                    have hfz12_1 := blk_frozen BK231.out 1
                    have hfz12_2 := blk_frozen BK231.out 2
                    have hfz12_3 := blk_frozen BK231.out 3
                    have hfz12_4 := blk_frozen BK231.out 4
                    have hfz12_5 := blk_frozen BK231.out 5
                    have hfz12_6 := blk_frozen BK231.out 6
                    go_wp2_with (first | ((with_reducible refine gate_callee (f := 54) rfl ?_); refine goesL_ (some 16) rfl rfl Try.func54 (by kernel_rfl) rfl #[.int .i64 ((rd_T67 l0 x10_1).f0), .int .i64 1, .int .i64 4] rfl (by (try simp only [List.map_toArray, List.map_cons, List.map_nil]); first | done | rfl | (simp only [List.length_drop, List.length_take]; rfl)) ?_; (with_reducible refine (impl_in.calls ((rd_T67 l0 x10_1).f0) 1 4 true _ A9.out).mono ?_); rintro e w' ⟨rfl, ⟨nd, rfl⟩⟩; refine ⟨_, rfl, ?_⟩))
                    go_meet
                    case rel => exact ⟨_, (false), (by first | rfl | (simp; done) | (simp [*]; done)), H', ⟨by have := HK1.out; first | omega | exact Nat.le_refl _⟩, ⟨by (with_reducible repeat (first | refine blk_drewN ?_ _ | refine blk_drew ?_ | refine blk_alloc ?_ _)); refine blk_put (cs := #[.int .i64 ((rd_T67 l0 x10_1).f0), .int .i64 ((rd_T67 l0 x10_1).f1), .int .i64 ((rd_T67 l0 x10_1).f2), .int .i64 ((rd_T67 l0 x10_1).f3), .int .i64 ((rd_T67 l0 x10_1).f4), .int .i64 ((rd_T67 l0 x10_1).f5), .int .i64 0]) ?_ 6 _ rfl; (with_reducible repeat (first | refine blk_drewN ?_ _ | refine blk_drew ?_ | refine blk_alloc ?_ _)); refine blk_put (cs := #[.int .i64 ((rd_T67 l0 x10_1).f0), .int .i64 ((rd_T67 l0 x10_1).f1), .int .i64 ((rd_T67 l0 x10_1).f2), .int .i64 ((rd_T67 l0 x10_1).f3), .int .i64 ((rd_T67 l0 x10_1).f4), .int .i64 0, .int .i64 0]) ?_ 5 _ rfl; (with_reducible repeat (first | refine blk_drewN ?_ _ | refine blk_drew ?_ | refine blk_alloc ?_ _)); refine blk_put (cs := #[.int .i64 ((rd_T67 l0 x10_1).f0), .int .i64 ((rd_T67 l0 x10_1).f1), .int .i64 ((rd_T67 l0 x10_1).f2), .int .i64 ((rd_T67 l0 x10_1).f3), .int .i64 0, .int .i64 0, .int .i64 0]) ?_ 4 _ rfl; (with_reducible repeat (first | refine blk_drewN ?_ _ | refine blk_drew ?_ | refine blk_alloc ?_ _)); refine blk_put (cs := #[.int .i64 ((rd_T67 l0 x10_1).f0), .int .i64 ((rd_T67 l0 x10_1).f1), .int .i64 ((rd_T67 l0 x10_1).f2), .int .i64 0, .int .i64 0, .int .i64 0, .int .i64 0]) ?_ 3 _ rfl; (with_reducible repeat (first | refine blk_drewN ?_ _ | refine blk_drew ?_ | refine blk_alloc ?_ _)); refine blk_put (cs := #[.int .i64 ((rd_T67 l0 x10_1).f0), .int .i64 ((rd_T67 l0 x10_1).f1), .int .i64 0, .int .i64 0, .int .i64 0, .int .i64 0, .int .i64 0]) ?_ 2 _ rfl; (with_reducible repeat (first | refine blk_drewN ?_ _ | refine blk_drew ?_ | refine blk_alloc ?_ _)); refine blk_put (cs := #[.int .i64 ((rd_T67 l0 x10_1).f0), .int .i64 0, .int .i64 0, .int .i64 0, .int .i64 0, .int .i64 0, .int .i64 0]) ?_ 1 _ rfl; (with_reducible repeat (first | refine blk_drewN ?_ _ | refine blk_drew ?_ | refine blk_alloc ?_ _)); refine blk_put (cs := #[.int .i64 0, .int .i64 0, .int .i64 0, .int .i64 0, .int .i64 0, .int .i64 0, .int .i64 0]) ?_ 0 _ rfl; (with_reducible repeat (first | refine blk_drewN ?_ _ | refine blk_drew ?_ | refine blk_alloc ?_ _)); exact BK231.out⟩, ⟨by repeat (first | (with_reducible first | exact HB.out | apply below_alloc | apply pw_below_drewN | apply below_drew1 | refine below_set ?_ GE231.out) | exact HB.out)⟩⟩
                  · rw [if_neg c11] at H
                    have c11b0 : (((rd_T67 l0 x10_1).f0) == 4) = false := beq_eq_false_iff_ne.mpr c11
                    have c11b1 : (((rd_T67 l0 x10_1).f0) != 4) = true := bne_iff_ne.mpr c11
                    (first | rw [c11b0] | (simp only [i64_w, i32_w]; rw [c11b0]) | skip)
                    by_cases c13 : ((rd_T67 l0 x10_1).f5) = 0
                    · rw [if_pos c13] at H
                      have c13b0 : (((rd_T67 l0 x10_1).f5) == 0) = true := beq_iff_eq.mpr c13
                      have c13b1 : (((rd_T67 l0 x10_1).f5) != 0) = false := bne_eq_false_iff_eq.mpr c13
                      clear c13
                      have H' := Aside0.mk H
                      clear H
                      have hcz14_0 : w7.cell? ⟨gb231, 0, none⟩ = some (.int .i64 0) := (blk_cell BK231.out 0).trans rfl
                      have hcz14_1 : w7.cell? ⟨gb231, 1, none⟩ = some (.int .i64 0) := (blk_cell BK231.out 1).trans rfl
                      have hcz14_2 : w7.cell? ⟨gb231, 2, none⟩ = some (.int .i64 0) := (blk_cell BK231.out 2).trans rfl
                      have hcz14_3 : w7.cell? ⟨gb231, 3, none⟩ = some (.int .i64 0) := (blk_cell BK231.out 3).trans rfl
                      have hcz14_4 : w7.cell? ⟨gb231, 4, none⟩ = some (.int .i64 0) := (blk_cell BK231.out 4).trans rfl
                      have hcz14_5 : w7.cell? ⟨gb231, 5, none⟩ = some (.int .i64 0) := (blk_cell BK231.out 5).trans rfl
                      have hcz14_6 : w7.cell? ⟨gb231, 6, none⟩ = some (.int .i64 0) := (blk_cell BK231.out 6).trans rfl
                      have hfz14_0 := blk_frozen BK231.out 0
                      have hfz14_1 := blk_frozen BK231.out 1
                      have hfz14_2 := blk_frozen BK231.out 2
                      have hfz14_3 := blk_frozen BK231.out 3
                      have hfz14_4 := blk_frozen BK231.out 4
                      have hfz14_5 := blk_frozen BK231.out 5
                      have hfz14_6 := blk_frozen BK231.out 6
                      go_wp2_with (first | ((with_reducible refine gate_callee (f := 54) rfl ?_); refine goesL_ (some 16) rfl rfl Try.func54 (by kernel_rfl) rfl #[.int .i64 ((rd_T67 l0 x10_1).f0), .int .i64 1, .int .i64 4] rfl (by (try simp only [List.map_toArray, List.map_cons, List.map_nil]); first | done | rfl | (simp only [List.length_drop, List.length_take]; rfl)) ?_; (with_reducible refine (impl_in.calls ((rd_T67 l0 x10_1).f0) 1 4 true _ A9.out).mono ?_); rintro e w' ⟨rfl, ⟨nd, rfl⟩⟩; refine ⟨_, rfl, ?_⟩))
                      go_meet
                      case rel => exact ⟨_, ((((rd_T67 l0 x10_1).f6) != 0)), (by first | rfl | (simp; done) | (simp [*]; done)), H', ⟨by have := HK1.out; first | omega | exact Nat.le_refl _⟩, ⟨by (with_reducible repeat (first | refine blk_drewN ?_ _ | refine blk_drew ?_ | refine blk_alloc ?_ _)); refine blk_put (cs := #[.int .i64 ((rd_T67 l0 x10_1).f0), .int .i64 ((rd_T67 l0 x10_1).f1), .int .i64 ((rd_T67 l0 x10_1).f2), .int .i64 ((rd_T67 l0 x10_1).f3), .int .i64 ((rd_T67 l0 x10_1).f4), .int .i64 ((rd_T67 l0 x10_1).f5), .int .i64 0]) ?_ 6 _ rfl; (with_reducible repeat (first | refine blk_drewN ?_ _ | refine blk_drew ?_ | refine blk_alloc ?_ _)); refine blk_put (cs := #[.int .i64 ((rd_T67 l0 x10_1).f0), .int .i64 ((rd_T67 l0 x10_1).f1), .int .i64 ((rd_T67 l0 x10_1).f2), .int .i64 ((rd_T67 l0 x10_1).f3), .int .i64 ((rd_T67 l0 x10_1).f4), .int .i64 0, .int .i64 0]) ?_ 5 _ rfl; (with_reducible repeat (first | refine blk_drewN ?_ _ | refine blk_drew ?_ | refine blk_alloc ?_ _)); refine blk_put (cs := #[.int .i64 ((rd_T67 l0 x10_1).f0), .int .i64 ((rd_T67 l0 x10_1).f1), .int .i64 ((rd_T67 l0 x10_1).f2), .int .i64 ((rd_T67 l0 x10_1).f3), .int .i64 0, .int .i64 0, .int .i64 0]) ?_ 4 _ rfl; (with_reducible repeat (first | refine blk_drewN ?_ _ | refine blk_drew ?_ | refine blk_alloc ?_ _)); refine blk_put (cs := #[.int .i64 ((rd_T67 l0 x10_1).f0), .int .i64 ((rd_T67 l0 x10_1).f1), .int .i64 ((rd_T67 l0 x10_1).f2), .int .i64 0, .int .i64 0, .int .i64 0, .int .i64 0]) ?_ 3 _ rfl; (with_reducible repeat (first | refine blk_drewN ?_ _ | refine blk_drew ?_ | refine blk_alloc ?_ _)); refine blk_put (cs := #[.int .i64 ((rd_T67 l0 x10_1).f0), .int .i64 ((rd_T67 l0 x10_1).f1), .int .i64 0, .int .i64 0, .int .i64 0, .int .i64 0, .int .i64 0]) ?_ 2 _ rfl; (with_reducible repeat (first | refine blk_drewN ?_ _ | refine blk_drew ?_ | refine blk_alloc ?_ _)); refine blk_put (cs := #[.int .i64 ((rd_T67 l0 x10_1).f0), .int .i64 0, .int .i64 0, .int .i64 0, .int .i64 0, .int .i64 0, .int .i64 0]) ?_ 1 _ rfl; (with_reducible repeat (first | refine blk_drewN ?_ _ | refine blk_drew ?_ | refine blk_alloc ?_ _)); refine blk_put (cs := #[.int .i64 0, .int .i64 0, .int .i64 0, .int .i64 0, .int .i64 0, .int .i64 0, .int .i64 0]) ?_ 0 _ rfl; (with_reducible repeat (first | refine blk_drewN ?_ _ | refine blk_drew ?_ | refine blk_alloc ?_ _)); exact BK231.out⟩, ⟨by repeat (first | (with_reducible first | exact HB.out | apply below_alloc | apply pw_below_drewN | apply below_drew1 | refine below_set ?_ GE231.out) | exact HB.out)⟩⟩
                    · rw [if_neg c13] at H
                      have c13b0 : (((rd_T67 l0 x10_1).f5) == 0) = false := beq_eq_false_iff_ne.mpr c13
                      have c13b1 : (((rd_T67 l0 x10_1).f5) != 0) = true := bne_iff_ne.mpr c13
                      have H' := Aside0.mk H
                      clear H
                      have hcz15_0 : w7.cell? ⟨gb231, 0, none⟩ = some (.int .i64 0) := (blk_cell BK231.out 0).trans rfl
                      have hcz15_1 : w7.cell? ⟨gb231, 1, none⟩ = some (.int .i64 0) := (blk_cell BK231.out 1).trans rfl
                      have hcz15_2 : w7.cell? ⟨gb231, 2, none⟩ = some (.int .i64 0) := (blk_cell BK231.out 2).trans rfl
                      have hcz15_3 : w7.cell? ⟨gb231, 3, none⟩ = some (.int .i64 0) := (blk_cell BK231.out 3).trans rfl
                      have hcz15_4 : w7.cell? ⟨gb231, 4, none⟩ = some (.int .i64 0) := (blk_cell BK231.out 4).trans rfl
                      have hcz15_5 : w7.cell? ⟨gb231, 5, none⟩ = some (.int .i64 0) := (blk_cell BK231.out 5).trans rfl
                      have hcz15_6 : w7.cell? ⟨gb231, 6, none⟩ = some (.int .i64 0) := (blk_cell BK231.out 6).trans rfl
                      have hfz15_0 := blk_frozen BK231.out 0
                      have hfz15_1 := blk_frozen BK231.out 1
                      have hfz15_2 := blk_frozen BK231.out 2
                      have hfz15_3 := blk_frozen BK231.out 3
                      have hfz15_4 := blk_frozen BK231.out 4
                      have hfz15_5 := blk_frozen BK231.out 5
                      have hfz15_6 := blk_frozen BK231.out 6
                      go_wp2_with (first | ((with_reducible refine gate_callee (f := 54) rfl ?_); refine goesL_ (some 16) rfl rfl Try.func54 (by kernel_rfl) rfl #[.int .i64 ((rd_T67 l0 x10_1).f0), .int .i64 1, .int .i64 4] rfl (by (try simp only [List.map_toArray, List.map_cons, List.map_nil]); first | done | rfl | (simp only [List.length_drop, List.length_take]; rfl)) ?_; (with_reducible refine (impl_in.calls ((rd_T67 l0 x10_1).f0) 1 4 true _ A9.out).mono ?_); rintro e w' ⟨rfl, ⟨nd, rfl⟩⟩; refine ⟨_, rfl, ?_⟩))
                      go_meet
                      case rel => exact ⟨_, (true), (by first | rfl | (simp; done) | (simp [*]; done)), H', ⟨by have := HK1.out; first | omega | exact Nat.le_refl _⟩, ⟨by (with_reducible repeat (first | refine blk_drewN ?_ _ | refine blk_drew ?_ | refine blk_alloc ?_ _)); refine blk_put (cs := #[.int .i64 ((rd_T67 l0 x10_1).f0), .int .i64 ((rd_T67 l0 x10_1).f1), .int .i64 ((rd_T67 l0 x10_1).f2), .int .i64 ((rd_T67 l0 x10_1).f3), .int .i64 ((rd_T67 l0 x10_1).f4), .int .i64 ((rd_T67 l0 x10_1).f5), .int .i64 0]) ?_ 6 _ rfl; (with_reducible repeat (first | refine blk_drewN ?_ _ | refine blk_drew ?_ | refine blk_alloc ?_ _)); refine blk_put (cs := #[.int .i64 ((rd_T67 l0 x10_1).f0), .int .i64 ((rd_T67 l0 x10_1).f1), .int .i64 ((rd_T67 l0 x10_1).f2), .int .i64 ((rd_T67 l0 x10_1).f3), .int .i64 ((rd_T67 l0 x10_1).f4), .int .i64 0, .int .i64 0]) ?_ 5 _ rfl; (with_reducible repeat (first | refine blk_drewN ?_ _ | refine blk_drew ?_ | refine blk_alloc ?_ _)); refine blk_put (cs := #[.int .i64 ((rd_T67 l0 x10_1).f0), .int .i64 ((rd_T67 l0 x10_1).f1), .int .i64 ((rd_T67 l0 x10_1).f2), .int .i64 ((rd_T67 l0 x10_1).f3), .int .i64 0, .int .i64 0, .int .i64 0]) ?_ 4 _ rfl; (with_reducible repeat (first | refine blk_drewN ?_ _ | refine blk_drew ?_ | refine blk_alloc ?_ _)); refine blk_put (cs := #[.int .i64 ((rd_T67 l0 x10_1).f0), .int .i64 ((rd_T67 l0 x10_1).f1), .int .i64 ((rd_T67 l0 x10_1).f2), .int .i64 0, .int .i64 0, .int .i64 0, .int .i64 0]) ?_ 3 _ rfl; (with_reducible repeat (first | refine blk_drewN ?_ _ | refine blk_drew ?_ | refine blk_alloc ?_ _)); refine blk_put (cs := #[.int .i64 ((rd_T67 l0 x10_1).f0), .int .i64 ((rd_T67 l0 x10_1).f1), .int .i64 0, .int .i64 0, .int .i64 0, .int .i64 0, .int .i64 0]) ?_ 2 _ rfl; (with_reducible repeat (first | refine blk_drewN ?_ _ | refine blk_drew ?_ | refine blk_alloc ?_ _)); refine blk_put (cs := #[.int .i64 ((rd_T67 l0 x10_1).f0), .int .i64 0, .int .i64 0, .int .i64 0, .int .i64 0, .int .i64 0, .int .i64 0]) ?_ 1 _ rfl; (with_reducible repeat (first | refine blk_drewN ?_ _ | refine blk_drew ?_ | refine blk_alloc ?_ _)); refine blk_put (cs := #[.int .i64 0, .int .i64 0, .int .i64 0, .int .i64 0, .int .i64 0, .int .i64 0, .int .i64 0]) ?_ 0 _ rfl; (with_reducible repeat (first | refine blk_drewN ?_ _ | refine blk_drew ?_ | refine blk_alloc ?_ _)); exact BK231.out⟩, ⟨by repeat (first | (with_reducible first | exact HB.out | apply below_alloc | apply pw_below_drewN | apply below_drew1 | refine below_set ?_ GE231.out) | exact HB.out)⟩⟩
                · replace c10 := Bool.eq_false_iff.mpr c10
                  subst c10
                  have H1 : (impl_WaitsFault.j1 k1 l0 (l0.length : Int) x10_1 true ((rd_T67 l0 x10_1).f0) ((rd_T67 l0 x10_1).f1) ((rd_T67 l0 x10_1).f2) ((rd_T67 l0 x10_1).f3) ((rd_T67 l0 x10_1).f4) ((rd_T67 l0 x10_1).f5) ((rd_T67 l0 x10_1).f6)) = some r := by rw [if_neg (show ¬ (false = true) by decide)] at H; exact H
                  clear H
                  have H := H1
                  clear H1
                  have H' := Aside0.mk H
                  clear H
                  have hcz16_0 : w7.cell? ⟨gb231, 0, none⟩ = some (.int .i64 0) := (blk_cell BK231.out 0).trans rfl
                  have hcz16_1 : w7.cell? ⟨gb231, 1, none⟩ = some (.int .i64 0) := (blk_cell BK231.out 1).trans rfl
                  have hcz16_2 : w7.cell? ⟨gb231, 2, none⟩ = some (.int .i64 0) := (blk_cell BK231.out 2).trans rfl
                  have hcz16_3 : w7.cell? ⟨gb231, 3, none⟩ = some (.int .i64 0) := (blk_cell BK231.out 3).trans rfl
                  have hcz16_4 : w7.cell? ⟨gb231, 4, none⟩ = some (.int .i64 0) := (blk_cell BK231.out 4).trans rfl
                  have hcz16_5 : w7.cell? ⟨gb231, 5, none⟩ = some (.int .i64 0) := (blk_cell BK231.out 5).trans rfl
                  have hcz16_6 : w7.cell? ⟨gb231, 6, none⟩ = some (.int .i64 0) := (blk_cell BK231.out 6).trans rfl
                  have hfz16_0 := blk_frozen BK231.out 0
                  have hfz16_1 := blk_frozen BK231.out 1
                  have hfz16_2 := blk_frozen BK231.out 2
                  have hfz16_3 := blk_frozen BK231.out 3
                  have hfz16_4 := blk_frozen BK231.out 4
                  have hfz16_5 := blk_frozen BK231.out 5
                  have hfz16_6 := blk_frozen BK231.out 6
                  go_wp2_with (first | ((with_reducible refine gate_callee (f := 54) rfl ?_); refine goesL_ (some 16) rfl rfl Try.func54 (by kernel_rfl) rfl #[.int .i64 ((rd_T67 l0 x10_1).f0), .int .i64 1, .int .i64 4] rfl (by (try simp only [List.map_toArray, List.map_cons, List.map_nil]); first | done | rfl | (simp only [List.length_drop, List.length_take]; rfl)) ?_; (with_reducible refine (impl_in.calls ((rd_T67 l0 x10_1).f0) 1 4 false _ A9.out).mono ?_); rintro e w' ⟨rfl, ⟨nd, rfl⟩⟩; refine ⟨_, rfl, ?_⟩))
                  go_meet
                  case rel => exact ⟨_, (true), (by first | rfl | (simp; done) | (simp [*]; done)), H', ⟨by have := HK1.out; first | omega | exact Nat.le_refl _⟩, ⟨by (with_reducible repeat (first | refine blk_drewN ?_ _ | refine blk_drew ?_ | refine blk_alloc ?_ _)); refine blk_put (cs := #[.int .i64 ((rd_T67 l0 x10_1).f0), .int .i64 ((rd_T67 l0 x10_1).f1), .int .i64 ((rd_T67 l0 x10_1).f2), .int .i64 ((rd_T67 l0 x10_1).f3), .int .i64 ((rd_T67 l0 x10_1).f4), .int .i64 ((rd_T67 l0 x10_1).f5), .int .i64 0]) ?_ 6 _ rfl; (with_reducible repeat (first | refine blk_drewN ?_ _ | refine blk_drew ?_ | refine blk_alloc ?_ _)); refine blk_put (cs := #[.int .i64 ((rd_T67 l0 x10_1).f0), .int .i64 ((rd_T67 l0 x10_1).f1), .int .i64 ((rd_T67 l0 x10_1).f2), .int .i64 ((rd_T67 l0 x10_1).f3), .int .i64 ((rd_T67 l0 x10_1).f4), .int .i64 0, .int .i64 0]) ?_ 5 _ rfl; (with_reducible repeat (first | refine blk_drewN ?_ _ | refine blk_drew ?_ | refine blk_alloc ?_ _)); refine blk_put (cs := #[.int .i64 ((rd_T67 l0 x10_1).f0), .int .i64 ((rd_T67 l0 x10_1).f1), .int .i64 ((rd_T67 l0 x10_1).f2), .int .i64 ((rd_T67 l0 x10_1).f3), .int .i64 0, .int .i64 0, .int .i64 0]) ?_ 4 _ rfl; (with_reducible repeat (first | refine blk_drewN ?_ _ | refine blk_drew ?_ | refine blk_alloc ?_ _)); refine blk_put (cs := #[.int .i64 ((rd_T67 l0 x10_1).f0), .int .i64 ((rd_T67 l0 x10_1).f1), .int .i64 ((rd_T67 l0 x10_1).f2), .int .i64 0, .int .i64 0, .int .i64 0, .int .i64 0]) ?_ 3 _ rfl; (with_reducible repeat (first | refine blk_drewN ?_ _ | refine blk_drew ?_ | refine blk_alloc ?_ _)); refine blk_put (cs := #[.int .i64 ((rd_T67 l0 x10_1).f0), .int .i64 ((rd_T67 l0 x10_1).f1), .int .i64 0, .int .i64 0, .int .i64 0, .int .i64 0, .int .i64 0]) ?_ 2 _ rfl; (with_reducible repeat (first | refine blk_drewN ?_ _ | refine blk_drew ?_ | refine blk_alloc ?_ _)); refine blk_put (cs := #[.int .i64 ((rd_T67 l0 x10_1).f0), .int .i64 0, .int .i64 0, .int .i64 0, .int .i64 0, .int .i64 0, .int .i64 0]) ?_ 1 _ rfl; (with_reducible repeat (first | refine blk_drewN ?_ _ | refine blk_drew ?_ | refine blk_alloc ?_ _)); refine blk_put (cs := #[.int .i64 0, .int .i64 0, .int .i64 0, .int .i64 0, .int .i64 0, .int .i64 0, .int .i64 0]) ?_ 0 _ rfl; (with_reducible repeat (first | refine blk_drewN ?_ _ | refine blk_drew ?_ | refine blk_alloc ?_ _)); exact BK231.out⟩, ⟨by repeat (first | (with_reducible first | exact HB.out | apply below_alloc | apply pw_below_drewN | apply below_drew1 | refine below_set ?_ GE231.out) | exact HB.out)⟩⟩
              case rest =>
                clear HC6
                try clear c1
                try clear c2
                try clear c2b0
                try clear c2b1
                try clear p2
                try clear q2
                try clear hx2
                try clear c3
                try clear c3b0
                try clear c4
                try clear c4b0
                try clear c5
                try clear c5b0
                try clear c10
                try clear c11
                try clear c11b0
                try clear c11b1
                try clear c13
                try clear c13b0
                try clear c13b1
                try clear c15
                try clear hcz12_0
                try clear hcz12_1
                try clear hcz12_2
                try clear hcz12_3
                try clear hcz12_4
                try clear hcz12_5
                try clear hcz12_6
                try clear hcz14_0
                try clear hcz14_1
                try clear hcz14_2
                try clear hcz14_3
                try clear hcz14_4
                try clear hcz14_5
                try clear hcz14_6
                try clear hcz15_0
                try clear hcz15_1
                try clear hcz15_2
                try clear hcz15_3
                try clear hcz15_4
                try clear hcz15_5
                try clear hcz15_6
                try clear hcz16_0
                try clear hcz16_1
                try clear hcz16_2
                try clear hcz16_3
                try clear hcz16_4
                try clear hcz16_5
                try clear hcz16_6
                try clear hcz8_0
                try clear hcz8_1
                try clear hcz8_2
                try clear hcz8_3
                try clear hcz8_4
                try clear hcz8_5
                try clear hcz8_6
                try clear hfz12_0
                try clear hfz12_1
                try clear hfz12_2
                try clear hfz12_3
                try clear hfz12_4
                try clear hfz12_5
                try clear hfz12_6
                try clear hfz14_0
                try clear hfz14_1
                try clear hfz14_2
                try clear hfz14_3
                try clear hfz14_4
                try clear hfz14_5
                try clear hfz14_6
                try clear hfz15_0
                try clear hfz15_1
                try clear hfz15_2
                try clear hfz15_3
                try clear hfz15_4
                try clear hfz15_5
                try clear hfz15_6
                try clear hfz16_0
                try clear hfz16_1
                try clear hfz16_2
                try clear hfz16_3
                try clear hfz16_4
                try clear hfz16_5
                try clear hfz16_6
                try clear hfz8_0
                try clear hfz8_1
                try clear hfz8_2
                try clear hfz8_3
                try clear hfz8_4
                try clear hfz8_5
                try clear hfz8_6
                try clear hx230_0
                try clear hx230_1
                try clear hx230_2
                try clear hx230_3
                try clear hx230_4
                try clear hx230_5
                try clear hx230_6
                try clear p2
                try clear p230
                try clear q230
                obtain ⟨kq, x32_5, rfl, HA, HJ5, BK231, HB⟩ := hcut
                cases kq with
                | zero => exact absurd HA.out (by simp [impl_WaitsFault.j1])
                | succ kj5 =>
                  have H := HA.out
                  clear HA
                  simp only [impl_WaitsFault.j1] at H
                  by_cases c17 : x32_5 = true
                  · subst c17
                    have H1 : (some 1) = some r := by rw [if_pos rfl] at H; exact H
                    clear H
                    have H := H1
                    clear H1
                    obtain rfl := Option.some.inj H
                    go_wp2
                    go_ret
                    exact ⟨by first | rfl | (simp [errW_none, errW_some] <;> rfl) | (simp [*, errW_none, errW_some] <;> rfl), by repeat (first | (with_reducible first | exact HB.out | apply below_alloc | apply pw_below_drewN | apply below_drew1 | refine below_set ?_ GE231.out) | exact HB.out)⟩
                  · replace c17 := Bool.eq_false_iff.mpr c17
                    subst c17
                    have H1 : ((impl_isSeq.f ((rd_T67 l0 x10_1).f1)).bind fun t233 => (if t233 = true then ((impl_isNode.f ((rd_T67 l0 x10_1).f2)).bind fun t234 => (if t234 = true then ((impl_in.f ((rd_T67 l0 x10_1).f3) 0 1000000).bind fun t235 => (if t235 = true then ((impl_in.f ((rd_T67 l0 x10_1).f4) 1 9).bind fun t236 => (if t236 = true then ((impl_isNode.f ((rd_T67 l0 x10_1).f5)).bind fun t237 => (if t237 = true then ((impl_isSeq.f ((rd_T67 l0 x10_1).f6)).bind fun t238 => (if t238 = true then (impl_WaitsFault.l0 kj5 l0 (l0.length : Int) (wrap64 (x10_1 + 1))) else (some 3))) else (some 3))) else (some 3))) else (some 3))) else (some 3))) else (some 3))) = some r := by rw [if_neg (show ¬ (false = true) by decide)] at H; exact H
                    clear H
                    have H := H1
                    clear H1
                    replace H := Option.bind_eq_some_iff.mp H
                    obtain ⟨t233, A180, H⟩ := H
                    replace H : (if t233 = true then ((impl_isNode.f ((rd_T67 l0 x10_1).f2)).bind fun t234 => (if t234 = true then ((impl_in.f ((rd_T67 l0 x10_1).f3) 0 1000000).bind fun t235 => (if t235 = true then ((impl_in.f ((rd_T67 l0 x10_1).f4) 1 9).bind fun t236 => (if t236 = true then ((impl_isNode.f ((rd_T67 l0 x10_1).f5)).bind fun t237 => (if t237 = true then ((impl_isSeq.f ((rd_T67 l0 x10_1).f6)).bind fun t238 => (if t238 = true then (impl_WaitsFault.l0 kj5 l0 (l0.length : Int) (wrap64 (x10_1 + 1))) else (some 3))) else (some 3))) else (some 3))) else (some 3))) else (some 3))) else (some 3)) = some r := H
                    have A18 := Aside0.mk A180
                    clear A180
                    by_cases c19 : t233 = true
                    · subst c19
                      have H1 : ((impl_isNode.f ((rd_T67 l0 x10_1).f2)).bind fun t234 => (if t234 = true then ((impl_in.f ((rd_T67 l0 x10_1).f3) 0 1000000).bind fun t235 => (if t235 = true then ((impl_in.f ((rd_T67 l0 x10_1).f4) 1 9).bind fun t236 => (if t236 = true then ((impl_isNode.f ((rd_T67 l0 x10_1).f5)).bind fun t237 => (if t237 = true then ((impl_isSeq.f ((rd_T67 l0 x10_1).f6)).bind fun t238 => (if t238 = true then (impl_WaitsFault.l0 kj5 l0 (l0.length : Int) (wrap64 (x10_1 + 1))) else (some 3))) else (some 3))) else (some 3))) else (some 3))) else (some 3))) = some r := by rw [if_pos rfl] at H; exact H
                      clear H
                      have H := H1
                      clear H1
                      replace H := Option.bind_eq_some_iff.mp H
                      obtain ⟨t234, A200, H⟩ := H
                      replace H : (if t234 = true then ((impl_in.f ((rd_T67 l0 x10_1).f3) 0 1000000).bind fun t235 => (if t235 = true then ((impl_in.f ((rd_T67 l0 x10_1).f4) 1 9).bind fun t236 => (if t236 = true then ((impl_isNode.f ((rd_T67 l0 x10_1).f5)).bind fun t237 => (if t237 = true then ((impl_isSeq.f ((rd_T67 l0 x10_1).f6)).bind fun t238 => (if t238 = true then (impl_WaitsFault.l0 kj5 l0 (l0.length : Int) (wrap64 (x10_1 + 1))) else (some 3))) else (some 3))) else (some 3))) else (some 3))) else (some 3)) = some r := H
                      have A20 := Aside0.mk A200
                      clear A200
                      by_cases c21 : t234 = true
                      · subst c21
                        have H1 : ((impl_in.f ((rd_T67 l0 x10_1).f3) 0 1000000).bind fun t235 => (if t235 = true then ((impl_in.f ((rd_T67 l0 x10_1).f4) 1 9).bind fun t236 => (if t236 = true then ((impl_isNode.f ((rd_T67 l0 x10_1).f5)).bind fun t237 => (if t237 = true then ((impl_isSeq.f ((rd_T67 l0 x10_1).f6)).bind fun t238 => (if t238 = true then (impl_WaitsFault.l0 kj5 l0 (l0.length : Int) (wrap64 (x10_1 + 1))) else (some 3))) else (some 3))) else (some 3))) else (some 3))) = some r := by rw [if_pos rfl] at H; exact H
                        clear H
                        have H := H1
                        clear H1
                        replace H := Option.bind_eq_some_iff.mp H
                        obtain ⟨t235, A220, H⟩ := H
                        replace H : (if t235 = true then ((impl_in.f ((rd_T67 l0 x10_1).f4) 1 9).bind fun t236 => (if t236 = true then ((impl_isNode.f ((rd_T67 l0 x10_1).f5)).bind fun t237 => (if t237 = true then ((impl_isSeq.f ((rd_T67 l0 x10_1).f6)).bind fun t238 => (if t238 = true then (impl_WaitsFault.l0 kj5 l0 (l0.length : Int) (wrap64 (x10_1 + 1))) else (some 3))) else (some 3))) else (some 3))) else (some 3)) = some r := H
                        have A22 := Aside0.mk A220
                        clear A220
                        by_cases c23 : t235 = true
                        · subst c23
                          have H1 : ((impl_in.f ((rd_T67 l0 x10_1).f4) 1 9).bind fun t236 => (if t236 = true then ((impl_isNode.f ((rd_T67 l0 x10_1).f5)).bind fun t237 => (if t237 = true then ((impl_isSeq.f ((rd_T67 l0 x10_1).f6)).bind fun t238 => (if t238 = true then (impl_WaitsFault.l0 kj5 l0 (l0.length : Int) (wrap64 (x10_1 + 1))) else (some 3))) else (some 3))) else (some 3))) = some r := by rw [if_pos rfl] at H; exact H
                          clear H
                          have H := H1
                          clear H1
                          replace H := Option.bind_eq_some_iff.mp H
                          obtain ⟨t236, A240, H⟩ := H
                          replace H : (if t236 = true then ((impl_isNode.f ((rd_T67 l0 x10_1).f5)).bind fun t237 => (if t237 = true then ((impl_isSeq.f ((rd_T67 l0 x10_1).f6)).bind fun t238 => (if t238 = true then (impl_WaitsFault.l0 kj5 l0 (l0.length : Int) (wrap64 (x10_1 + 1))) else (some 3))) else (some 3))) else (some 3)) = some r := H
                          have A24 := Aside0.mk A240
                          clear A240
                          by_cases c25 : t236 = true
                          · subst c25
                            have H1 : ((impl_isNode.f ((rd_T67 l0 x10_1).f5)).bind fun t237 => (if t237 = true then ((impl_isSeq.f ((rd_T67 l0 x10_1).f6)).bind fun t238 => (if t238 = true then (impl_WaitsFault.l0 kj5 l0 (l0.length : Int) (wrap64 (x10_1 + 1))) else (some 3))) else (some 3))) = some r := by rw [if_pos rfl] at H; exact H
                            clear H
                            have H := H1
                            clear H1
                            replace H := Option.bind_eq_some_iff.mp H
                            obtain ⟨t237, A260, H⟩ := H
                            replace H : (if t237 = true then ((impl_isSeq.f ((rd_T67 l0 x10_1).f6)).bind fun t238 => (if t238 = true then (impl_WaitsFault.l0 kj5 l0 (l0.length : Int) (wrap64 (x10_1 + 1))) else (some 3))) else (some 3)) = some r := H
                            have A26 := Aside0.mk A260
                            clear A260
                            by_cases c27 : t237 = true
                            · subst c27
                              have H1 : ((impl_isSeq.f ((rd_T67 l0 x10_1).f6)).bind fun t238 => (if t238 = true then (impl_WaitsFault.l0 kj5 l0 (l0.length : Int) (wrap64 (x10_1 + 1))) else (some 3))) = some r := by rw [if_pos rfl] at H; exact H
                              clear H
                              have H := H1
                              clear H1
                              replace H := Option.bind_eq_some_iff.mp H
                              obtain ⟨t238, A280, H⟩ := H
                              replace H : (if t238 = true then (impl_WaitsFault.l0 kj5 l0 (l0.length : Int) (wrap64 (x10_1 + 1))) else (some 3)) = some r := H
                              have A28 := Aside0.mk A280
                              clear A280
                              by_cases c29 : t238 = true
                              · subst c29
                                have H1 : (impl_WaitsFault.l0 kj5 l0 (l0.length : Int) (wrap64 (x10_1 + 1))) = some r := by rw [if_pos rfl] at H; exact H
                                clear H
                                have H := H1
                                clear H1
                                have H' := Aside0.mk H
                                clear H
                                have hcz30_0 : wc.cell? ⟨gb231, 0, none⟩ = some (.int .i64 ((rd_T67 l0 x10_1).f0)) := (blk_cell BK231.out 0).trans rfl
                                have hcz30_1 : wc.cell? ⟨gb231, 1, none⟩ = some (.int .i64 ((rd_T67 l0 x10_1).f1)) := (blk_cell BK231.out 1).trans rfl
                                have hcz30_2 : wc.cell? ⟨gb231, 2, none⟩ = some (.int .i64 ((rd_T67 l0 x10_1).f2)) := (blk_cell BK231.out 2).trans rfl
                                have hcz30_3 : wc.cell? ⟨gb231, 3, none⟩ = some (.int .i64 ((rd_T67 l0 x10_1).f3)) := (blk_cell BK231.out 3).trans rfl
                                have hcz30_4 : wc.cell? ⟨gb231, 4, none⟩ = some (.int .i64 ((rd_T67 l0 x10_1).f4)) := (blk_cell BK231.out 4).trans rfl
                                have hcz30_5 : wc.cell? ⟨gb231, 5, none⟩ = some (.int .i64 ((rd_T67 l0 x10_1).f5)) := (blk_cell BK231.out 5).trans rfl
                                have hcz30_6 : wc.cell? ⟨gb231, 6, none⟩ = some (.int .i64 ((rd_T67 l0 x10_1).f6)) := (blk_cell BK231.out 6).trans rfl
                                have hfz30_0 := blk_frozen BK231.out 0
                                have hfz30_1 := blk_frozen BK231.out 1
                                have hfz30_2 := blk_frozen BK231.out 2
                                have hfz30_3 := blk_frozen BK231.out 3
                                have hfz30_4 := blk_frozen BK231.out 4
                                have hfz30_5 := blk_frozen BK231.out 5
                                have hfz30_6 := blk_frozen BK231.out 6
                                go_wp2_with (first | ((with_reducible refine gate_callee (f := 48) rfl ?_); refine goesL_ (some 35) rfl rfl Try.func48 (by kernel_rfl) rfl #[.int .i64 ((rd_T67 l0 x10_1).f1)] rfl (by (try simp only [List.map_toArray, List.map_cons, List.map_nil]); first | done | rfl | (simp only [List.length_drop, List.length_take]; rfl)) ?_; (with_reducible refine (impl_isSeq.calls ((rd_T67 l0 x10_1).f1) true _ A18.out).mono ?_); rintro e w' ⟨rfl, ⟨nd, rfl⟩⟩; refine ⟨_, rfl, ?_⟩) | (go_at_call 55; (with_reducible refine (impl_isNode.calls ((rd_T67 l0 x10_1).f2) true _ A20.out).mono ?_); rintro e w' ⟨rfl, ⟨nd, rfl⟩⟩) | (go_at_call 54; (with_reducible refine (impl_in.calls ((rd_T67 l0 x10_1).f3) 0 1000000 true _ A22.out).mono ?_); rintro e w' ⟨rfl, ⟨nd, rfl⟩⟩) | (go_at_call 54; (with_reducible refine (impl_in.calls ((rd_T67 l0 x10_1).f4) 1 9 true _ A24.out).mono ?_); rintro e w' ⟨rfl, ⟨nd, rfl⟩⟩) | (go_at_call 55; (with_reducible refine (impl_isNode.calls ((rd_T67 l0 x10_1).f5) true _ A26.out).mono ?_); rintro e w' ⟨rfl, ⟨nd, rfl⟩⟩) | (go_at_call 48; (with_reducible refine (impl_isSeq.calls ((rd_T67 l0 x10_1).f6) true _ A28.out).mono ?_); rintro e w' ⟨rfl, ⟨nd, rfl⟩⟩))
                                go_roundg kj5
                                case measure => have := HK1.out; have := HJ5.out; omega
                                case rel => exact ⟨(wrap64 (x10_1 + 1)), (by first | rfl | (simp; done) | (simp [*]; done)), H', ⟨by have := HK1.out; have := HJ5.out; omega⟩, ⟨by repeat (first | (with_reducible first | exact HB.out | apply below_alloc | apply pw_below_drewN | apply below_drew1 | refine below_set ?_ GE231.out) | exact HB.out)⟩⟩
                              · replace c29 := Bool.eq_false_iff.mpr c29
                                subst c29
                                have H1 : (some 3) = some r := by rw [if_neg (show ¬ (false = true) by decide)] at H; exact H
                                clear H
                                have H := H1
                                clear H1
                                obtain rfl := Option.some.inj H
                                have hcz31_0 : wc.cell? ⟨gb231, 0, none⟩ = some (.int .i64 ((rd_T67 l0 x10_1).f0)) := (blk_cell BK231.out 0).trans rfl
                                have hcz31_1 : wc.cell? ⟨gb231, 1, none⟩ = some (.int .i64 ((rd_T67 l0 x10_1).f1)) := (blk_cell BK231.out 1).trans rfl
                                have hcz31_2 : wc.cell? ⟨gb231, 2, none⟩ = some (.int .i64 ((rd_T67 l0 x10_1).f2)) := (blk_cell BK231.out 2).trans rfl
                                have hcz31_3 : wc.cell? ⟨gb231, 3, none⟩ = some (.int .i64 ((rd_T67 l0 x10_1).f3)) := (blk_cell BK231.out 3).trans rfl
                                have hcz31_4 : wc.cell? ⟨gb231, 4, none⟩ = some (.int .i64 ((rd_T67 l0 x10_1).f4)) := (blk_cell BK231.out 4).trans rfl
                                have hcz31_5 : wc.cell? ⟨gb231, 5, none⟩ = some (.int .i64 ((rd_T67 l0 x10_1).f5)) := (blk_cell BK231.out 5).trans rfl
                                have hcz31_6 : wc.cell? ⟨gb231, 6, none⟩ = some (.int .i64 ((rd_T67 l0 x10_1).f6)) := (blk_cell BK231.out 6).trans rfl
                                have hfz31_0 := blk_frozen BK231.out 0
                                have hfz31_1 := blk_frozen BK231.out 1
                                have hfz31_2 := blk_frozen BK231.out 2
                                have hfz31_3 := blk_frozen BK231.out 3
                                have hfz31_4 := blk_frozen BK231.out 4
                                have hfz31_5 := blk_frozen BK231.out 5
                                have hfz31_6 := blk_frozen BK231.out 6
                                go_wp2_with (first | ((with_reducible refine gate_callee (f := 48) rfl ?_); refine goesL_ (some 35) rfl rfl Try.func48 (by kernel_rfl) rfl #[.int .i64 ((rd_T67 l0 x10_1).f1)] rfl (by (try simp only [List.map_toArray, List.map_cons, List.map_nil]); first | done | rfl | (simp only [List.length_drop, List.length_take]; rfl)) ?_; (with_reducible refine (impl_isSeq.calls ((rd_T67 l0 x10_1).f1) true _ A18.out).mono ?_); rintro e w' ⟨rfl, ⟨nd, rfl⟩⟩; refine ⟨_, rfl, ?_⟩) | (go_at_call 55; (with_reducible refine (impl_isNode.calls ((rd_T67 l0 x10_1).f2) true _ A20.out).mono ?_); rintro e w' ⟨rfl, ⟨nd, rfl⟩⟩) | (go_at_call 54; (with_reducible refine (impl_in.calls ((rd_T67 l0 x10_1).f3) 0 1000000 true _ A22.out).mono ?_); rintro e w' ⟨rfl, ⟨nd, rfl⟩⟩) | (go_at_call 54; (with_reducible refine (impl_in.calls ((rd_T67 l0 x10_1).f4) 1 9 true _ A24.out).mono ?_); rintro e w' ⟨rfl, ⟨nd, rfl⟩⟩) | (go_at_call 55; (with_reducible refine (impl_isNode.calls ((rd_T67 l0 x10_1).f5) true _ A26.out).mono ?_); rintro e w' ⟨rfl, ⟨nd, rfl⟩⟩) | (go_at_call 48; (with_reducible refine (impl_isSeq.calls ((rd_T67 l0 x10_1).f6) false _ A28.out).mono ?_); rintro e w' ⟨rfl, ⟨nd, rfl⟩⟩))
                                go_ret
                                exact ⟨by first | rfl | (simp [errW_none, errW_some] <;> rfl) | (simp [*, errW_none, errW_some] <;> rfl), by repeat (first | (with_reducible first | exact HB.out | apply below_alloc | apply pw_below_drewN | apply below_drew1 | refine below_set ?_ GE231.out) | exact HB.out)⟩
                            · replace c27 := Bool.eq_false_iff.mpr c27
                              subst c27
                              have H1 : (some 3) = some r := by rw [if_neg (show ¬ (false = true) by decide)] at H; exact H
                              clear H
                              have H := H1
                              clear H1
                              obtain rfl := Option.some.inj H
                              have hcz32_0 : wc.cell? ⟨gb231, 0, none⟩ = some (.int .i64 ((rd_T67 l0 x10_1).f0)) := (blk_cell BK231.out 0).trans rfl
                              have hcz32_1 : wc.cell? ⟨gb231, 1, none⟩ = some (.int .i64 ((rd_T67 l0 x10_1).f1)) := (blk_cell BK231.out 1).trans rfl
                              have hcz32_2 : wc.cell? ⟨gb231, 2, none⟩ = some (.int .i64 ((rd_T67 l0 x10_1).f2)) := (blk_cell BK231.out 2).trans rfl
                              have hcz32_3 : wc.cell? ⟨gb231, 3, none⟩ = some (.int .i64 ((rd_T67 l0 x10_1).f3)) := (blk_cell BK231.out 3).trans rfl
                              have hcz32_4 : wc.cell? ⟨gb231, 4, none⟩ = some (.int .i64 ((rd_T67 l0 x10_1).f4)) := (blk_cell BK231.out 4).trans rfl
                              have hcz32_5 : wc.cell? ⟨gb231, 5, none⟩ = some (.int .i64 ((rd_T67 l0 x10_1).f5)) := (blk_cell BK231.out 5).trans rfl
                              have hcz32_6 : wc.cell? ⟨gb231, 6, none⟩ = some (.int .i64 ((rd_T67 l0 x10_1).f6)) := (blk_cell BK231.out 6).trans rfl
                              have hfz32_0 := blk_frozen BK231.out 0
                              have hfz32_1 := blk_frozen BK231.out 1
                              have hfz32_2 := blk_frozen BK231.out 2
                              have hfz32_3 := blk_frozen BK231.out 3
                              have hfz32_4 := blk_frozen BK231.out 4
                              have hfz32_5 := blk_frozen BK231.out 5
                              have hfz32_6 := blk_frozen BK231.out 6
                              go_wp2_with (first | ((with_reducible refine gate_callee (f := 48) rfl ?_); refine goesL_ (some 35) rfl rfl Try.func48 (by kernel_rfl) rfl #[.int .i64 ((rd_T67 l0 x10_1).f1)] rfl (by (try simp only [List.map_toArray, List.map_cons, List.map_nil]); first | done | rfl | (simp only [List.length_drop, List.length_take]; rfl)) ?_; (with_reducible refine (impl_isSeq.calls ((rd_T67 l0 x10_1).f1) true _ A18.out).mono ?_); rintro e w' ⟨rfl, ⟨nd, rfl⟩⟩; refine ⟨_, rfl, ?_⟩) | (go_at_call 55; (with_reducible refine (impl_isNode.calls ((rd_T67 l0 x10_1).f2) true _ A20.out).mono ?_); rintro e w' ⟨rfl, ⟨nd, rfl⟩⟩) | (go_at_call 54; (with_reducible refine (impl_in.calls ((rd_T67 l0 x10_1).f3) 0 1000000 true _ A22.out).mono ?_); rintro e w' ⟨rfl, ⟨nd, rfl⟩⟩) | (go_at_call 54; (with_reducible refine (impl_in.calls ((rd_T67 l0 x10_1).f4) 1 9 true _ A24.out).mono ?_); rintro e w' ⟨rfl, ⟨nd, rfl⟩⟩) | (go_at_call 55; (with_reducible refine (impl_isNode.calls ((rd_T67 l0 x10_1).f5) false _ A26.out).mono ?_); rintro e w' ⟨rfl, ⟨nd, rfl⟩⟩))
                              go_ret
                              exact ⟨by first | rfl | (simp [errW_none, errW_some] <;> rfl) | (simp [*, errW_none, errW_some] <;> rfl), by repeat (first | (with_reducible first | exact HB.out | apply below_alloc | apply pw_below_drewN | apply below_drew1 | refine below_set ?_ GE231.out) | exact HB.out)⟩
                          · replace c25 := Bool.eq_false_iff.mpr c25
                            subst c25
                            have H1 : (some 3) = some r := by rw [if_neg (show ¬ (false = true) by decide)] at H; exact H
                            clear H
                            have H := H1
                            clear H1
                            obtain rfl := Option.some.inj H
                            have hcz33_0 : wc.cell? ⟨gb231, 0, none⟩ = some (.int .i64 ((rd_T67 l0 x10_1).f0)) := (blk_cell BK231.out 0).trans rfl
                            have hcz33_1 : wc.cell? ⟨gb231, 1, none⟩ = some (.int .i64 ((rd_T67 l0 x10_1).f1)) := (blk_cell BK231.out 1).trans rfl
                            have hcz33_2 : wc.cell? ⟨gb231, 2, none⟩ = some (.int .i64 ((rd_T67 l0 x10_1).f2)) := (blk_cell BK231.out 2).trans rfl
                            have hcz33_3 : wc.cell? ⟨gb231, 3, none⟩ = some (.int .i64 ((rd_T67 l0 x10_1).f3)) := (blk_cell BK231.out 3).trans rfl
                            have hcz33_4 : wc.cell? ⟨gb231, 4, none⟩ = some (.int .i64 ((rd_T67 l0 x10_1).f4)) := (blk_cell BK231.out 4).trans rfl
                            have hcz33_5 : wc.cell? ⟨gb231, 5, none⟩ = some (.int .i64 ((rd_T67 l0 x10_1).f5)) := (blk_cell BK231.out 5).trans rfl
                            have hcz33_6 : wc.cell? ⟨gb231, 6, none⟩ = some (.int .i64 ((rd_T67 l0 x10_1).f6)) := (blk_cell BK231.out 6).trans rfl
                            have hfz33_0 := blk_frozen BK231.out 0
                            have hfz33_1 := blk_frozen BK231.out 1
                            have hfz33_2 := blk_frozen BK231.out 2
                            have hfz33_3 := blk_frozen BK231.out 3
                            have hfz33_4 := blk_frozen BK231.out 4
                            have hfz33_5 := blk_frozen BK231.out 5
                            have hfz33_6 := blk_frozen BK231.out 6
                            go_wp2_with (first | ((with_reducible refine gate_callee (f := 48) rfl ?_); refine goesL_ (some 35) rfl rfl Try.func48 (by kernel_rfl) rfl #[.int .i64 ((rd_T67 l0 x10_1).f1)] rfl (by (try simp only [List.map_toArray, List.map_cons, List.map_nil]); first | done | rfl | (simp only [List.length_drop, List.length_take]; rfl)) ?_; (with_reducible refine (impl_isSeq.calls ((rd_T67 l0 x10_1).f1) true _ A18.out).mono ?_); rintro e w' ⟨rfl, ⟨nd, rfl⟩⟩; refine ⟨_, rfl, ?_⟩) | (go_at_call 55; (with_reducible refine (impl_isNode.calls ((rd_T67 l0 x10_1).f2) true _ A20.out).mono ?_); rintro e w' ⟨rfl, ⟨nd, rfl⟩⟩) | (go_at_call 54; (with_reducible refine (impl_in.calls ((rd_T67 l0 x10_1).f3) 0 1000000 true _ A22.out).mono ?_); rintro e w' ⟨rfl, ⟨nd, rfl⟩⟩) | (go_at_call 54; (with_reducible refine (impl_in.calls ((rd_T67 l0 x10_1).f4) 1 9 false _ A24.out).mono ?_); rintro e w' ⟨rfl, ⟨nd, rfl⟩⟩))
                            go_ret
                            exact ⟨by first | rfl | (simp [errW_none, errW_some] <;> rfl) | (simp [*, errW_none, errW_some] <;> rfl), by repeat (first | (with_reducible first | exact HB.out | apply below_alloc | apply pw_below_drewN | apply below_drew1 | refine below_set ?_ GE231.out) | exact HB.out)⟩
                        · replace c23 := Bool.eq_false_iff.mpr c23
                          subst c23
                          have H1 : (some 3) = some r := by rw [if_neg (show ¬ (false = true) by decide)] at H; exact H
                          clear H
                          have H := H1
                          clear H1
                          obtain rfl := Option.some.inj H
                          have hcz34_0 : wc.cell? ⟨gb231, 0, none⟩ = some (.int .i64 ((rd_T67 l0 x10_1).f0)) := (blk_cell BK231.out 0).trans rfl
                          have hcz34_1 : wc.cell? ⟨gb231, 1, none⟩ = some (.int .i64 ((rd_T67 l0 x10_1).f1)) := (blk_cell BK231.out 1).trans rfl
                          have hcz34_2 : wc.cell? ⟨gb231, 2, none⟩ = some (.int .i64 ((rd_T67 l0 x10_1).f2)) := (blk_cell BK231.out 2).trans rfl
                          have hcz34_3 : wc.cell? ⟨gb231, 3, none⟩ = some (.int .i64 ((rd_T67 l0 x10_1).f3)) := (blk_cell BK231.out 3).trans rfl
                          have hcz34_4 : wc.cell? ⟨gb231, 4, none⟩ = some (.int .i64 ((rd_T67 l0 x10_1).f4)) := (blk_cell BK231.out 4).trans rfl
                          have hcz34_5 : wc.cell? ⟨gb231, 5, none⟩ = some (.int .i64 ((rd_T67 l0 x10_1).f5)) := (blk_cell BK231.out 5).trans rfl
                          have hcz34_6 : wc.cell? ⟨gb231, 6, none⟩ = some (.int .i64 ((rd_T67 l0 x10_1).f6)) := (blk_cell BK231.out 6).trans rfl
                          have hfz34_0 := blk_frozen BK231.out 0
                          have hfz34_1 := blk_frozen BK231.out 1
                          have hfz34_2 := blk_frozen BK231.out 2
                          have hfz34_3 := blk_frozen BK231.out 3
                          have hfz34_4 := blk_frozen BK231.out 4
                          have hfz34_5 := blk_frozen BK231.out 5
                          have hfz34_6 := blk_frozen BK231.out 6
                          go_wp2_with (first | ((with_reducible refine gate_callee (f := 48) rfl ?_); refine goesL_ (some 35) rfl rfl Try.func48 (by kernel_rfl) rfl #[.int .i64 ((rd_T67 l0 x10_1).f1)] rfl (by (try simp only [List.map_toArray, List.map_cons, List.map_nil]); first | done | rfl | (simp only [List.length_drop, List.length_take]; rfl)) ?_; (with_reducible refine (impl_isSeq.calls ((rd_T67 l0 x10_1).f1) true _ A18.out).mono ?_); rintro e w' ⟨rfl, ⟨nd, rfl⟩⟩; refine ⟨_, rfl, ?_⟩) | (go_at_call 55; (with_reducible refine (impl_isNode.calls ((rd_T67 l0 x10_1).f2) true _ A20.out).mono ?_); rintro e w' ⟨rfl, ⟨nd, rfl⟩⟩) | (go_at_call 54; (with_reducible refine (impl_in.calls ((rd_T67 l0 x10_1).f3) 0 1000000 false _ A22.out).mono ?_); rintro e w' ⟨rfl, ⟨nd, rfl⟩⟩))
                          go_ret
                          exact ⟨by first | rfl | (simp [errW_none, errW_some] <;> rfl) | (simp [*, errW_none, errW_some] <;> rfl), by repeat (first | (with_reducible first | exact HB.out | apply below_alloc | apply pw_below_drewN | apply below_drew1 | refine below_set ?_ GE231.out) | exact HB.out)⟩
                      · replace c21 := Bool.eq_false_iff.mpr c21
                        subst c21
                        have H1 : (some 3) = some r := by rw [if_neg (show ¬ (false = true) by decide)] at H; exact H
                        clear H
                        have H := H1
                        clear H1
                        obtain rfl := Option.some.inj H
                        have hcz35_0 : wc.cell? ⟨gb231, 0, none⟩ = some (.int .i64 ((rd_T67 l0 x10_1).f0)) := (blk_cell BK231.out 0).trans rfl
                        have hcz35_1 : wc.cell? ⟨gb231, 1, none⟩ = some (.int .i64 ((rd_T67 l0 x10_1).f1)) := (blk_cell BK231.out 1).trans rfl
                        have hcz35_2 : wc.cell? ⟨gb231, 2, none⟩ = some (.int .i64 ((rd_T67 l0 x10_1).f2)) := (blk_cell BK231.out 2).trans rfl
                        have hcz35_3 : wc.cell? ⟨gb231, 3, none⟩ = some (.int .i64 ((rd_T67 l0 x10_1).f3)) := (blk_cell BK231.out 3).trans rfl
                        have hcz35_4 : wc.cell? ⟨gb231, 4, none⟩ = some (.int .i64 ((rd_T67 l0 x10_1).f4)) := (blk_cell BK231.out 4).trans rfl
                        have hcz35_5 : wc.cell? ⟨gb231, 5, none⟩ = some (.int .i64 ((rd_T67 l0 x10_1).f5)) := (blk_cell BK231.out 5).trans rfl
                        have hcz35_6 : wc.cell? ⟨gb231, 6, none⟩ = some (.int .i64 ((rd_T67 l0 x10_1).f6)) := (blk_cell BK231.out 6).trans rfl
                        have hfz35_0 := blk_frozen BK231.out 0
                        have hfz35_1 := blk_frozen BK231.out 1
                        have hfz35_2 := blk_frozen BK231.out 2
                        have hfz35_3 := blk_frozen BK231.out 3
                        have hfz35_4 := blk_frozen BK231.out 4
                        have hfz35_5 := blk_frozen BK231.out 5
                        have hfz35_6 := blk_frozen BK231.out 6
                        go_wp2_with (first | ((with_reducible refine gate_callee (f := 48) rfl ?_); refine goesL_ (some 35) rfl rfl Try.func48 (by kernel_rfl) rfl #[.int .i64 ((rd_T67 l0 x10_1).f1)] rfl (by (try simp only [List.map_toArray, List.map_cons, List.map_nil]); first | done | rfl | (simp only [List.length_drop, List.length_take]; rfl)) ?_; (with_reducible refine (impl_isSeq.calls ((rd_T67 l0 x10_1).f1) true _ A18.out).mono ?_); rintro e w' ⟨rfl, ⟨nd, rfl⟩⟩; refine ⟨_, rfl, ?_⟩) | (go_at_call 55; (with_reducible refine (impl_isNode.calls ((rd_T67 l0 x10_1).f2) false _ A20.out).mono ?_); rintro e w' ⟨rfl, ⟨nd, rfl⟩⟩))
                        go_ret
                        exact ⟨by first | rfl | (simp [errW_none, errW_some] <;> rfl) | (simp [*, errW_none, errW_some] <;> rfl), by repeat (first | (with_reducible first | exact HB.out | apply below_alloc | apply pw_below_drewN | apply below_drew1 | refine below_set ?_ GE231.out) | exact HB.out)⟩
                    · replace c19 := Bool.eq_false_iff.mpr c19
                      subst c19
                      have H1 : (some 3) = some r := by rw [if_neg (show ¬ (false = true) by decide)] at H; exact H
                      clear H
                      have H := H1
                      clear H1
                      obtain rfl := Option.some.inj H
                      have hcz36_0 : wc.cell? ⟨gb231, 0, none⟩ = some (.int .i64 ((rd_T67 l0 x10_1).f0)) := (blk_cell BK231.out 0).trans rfl
                      have hcz36_1 : wc.cell? ⟨gb231, 1, none⟩ = some (.int .i64 ((rd_T67 l0 x10_1).f1)) := (blk_cell BK231.out 1).trans rfl
                      have hcz36_2 : wc.cell? ⟨gb231, 2, none⟩ = some (.int .i64 ((rd_T67 l0 x10_1).f2)) := (blk_cell BK231.out 2).trans rfl
                      have hcz36_3 : wc.cell? ⟨gb231, 3, none⟩ = some (.int .i64 ((rd_T67 l0 x10_1).f3)) := (blk_cell BK231.out 3).trans rfl
                      have hcz36_4 : wc.cell? ⟨gb231, 4, none⟩ = some (.int .i64 ((rd_T67 l0 x10_1).f4)) := (blk_cell BK231.out 4).trans rfl
                      have hcz36_5 : wc.cell? ⟨gb231, 5, none⟩ = some (.int .i64 ((rd_T67 l0 x10_1).f5)) := (blk_cell BK231.out 5).trans rfl
                      have hcz36_6 : wc.cell? ⟨gb231, 6, none⟩ = some (.int .i64 ((rd_T67 l0 x10_1).f6)) := (blk_cell BK231.out 6).trans rfl
                      have hfz36_0 := blk_frozen BK231.out 0
                      have hfz36_1 := blk_frozen BK231.out 1
                      have hfz36_2 := blk_frozen BK231.out 2
                      have hfz36_3 := blk_frozen BK231.out 3
                      have hfz36_4 := blk_frozen BK231.out 4
                      have hfz36_5 := blk_frozen BK231.out 5
                      have hfz36_6 := blk_frozen BK231.out 6
                      go_wp2_with (first | ((with_reducible refine gate_callee (f := 48) rfl ?_); refine goesL_ (some 35) rfl rfl Try.func48 (by kernel_rfl) rfl #[.int .i64 ((rd_T67 l0 x10_1).f1)] rfl (by (try simp only [List.map_toArray, List.map_cons, List.map_nil]); first | done | rfl | (simp only [List.length_drop, List.length_take]; rfl)) ?_; (with_reducible refine (impl_isSeq.calls ((rd_T67 l0 x10_1).f1) false _ A18.out).mono ?_); rintro e w' ⟨rfl, ⟨nd, rfl⟩⟩; refine ⟨_, rfl, ?_⟩))
                      go_ret
                      exact ⟨by first | rfl | (simp [errW_none, errW_some] <;> rfl) | (simp [*, errW_none, errW_some] <;> rfl), by repeat (first | (with_reducible first | exact HB.out | apply below_alloc | apply pw_below_drewN | apply below_drew1 | refine below_set ?_ GE231.out) | exact HB.out)⟩
            · rw [if_neg c5] at H
              exact absurd H (by simp)
          · rw [if_neg c4] at H
            exact absurd H (by simp)
        · rw [if_neg c3] at H
          have c3b0 : decide (x10_1 < (l0.length : Int)) = false := decide_eq_false c3
          clear c3
          obtain rfl := Option.some.inj H
          go_wp2
          go_ret
          exact ⟨by first | rfl | (simp [errW_none, errW_some] <;> rfl) | (simp [*, errW_none, errW_some] <;> rfl), by repeat (first | (with_reducible first | exact HB.out | apply below_alloc | apply pw_below_drewN | apply below_drew1) | exact HB.out)⟩

/-! ### impl_AgeWaits: function 9 -/
def impl_AgeWaits.l0 : Nat → List (S67) → Int → Int → Int → List (S67) → List (S67) → Option (Int × (List (S67)) × (List (S67)))
  | 0, _, _, _, _, _, _ => none
  | k + 1, x13, x14, x15, x242000, x242001, x242002 => if x15 < x14 then (if 0 ≤ x15 then (if x15 < (x13.length : Int) then (if (wrap64 (((rd_T67 x13 x15).f4) - 1)) > 0 then (if x242001.length < 2513169434916 then (impl_AgeWaits.l0 k x13 x14 (wrap64 (x15 + 1)) x242000 (x242001 ++ [(⟨(rd_T67 x13 x15).f0, (rd_T67 x13 x15).f1, (rd_T67 x13 x15).f2, (rd_T67 x13 x15).f3, wrap64 (((rd_T67 x13 x15).f4) - 1), (rd_T67 x13 x15).f5, (rd_T67 x13 x15).f6⟩ : S67)]) x242002) else (none)) else (if x242002.length < 2513169434916 then (impl_AgeWaits.l0 k x13 x14 (wrap64 (x15 + 1)) x242000 x242001 (x242002 ++ [(⟨(rd_T67 x13 x15).f0, (rd_T67 x13 x15).f1, (rd_T67 x13 x15).f2, (rd_T67 x13 x15).f3, wrap64 (((rd_T67 x13 x15).f4) - 1), (rd_T67 x13 x15).f5, (rd_T67 x13 x15).f6⟩ : S67)])) else (none))) else (none)) else (none)) else (some (x242000, x242001, x242002))
def impl_AgeWaits.f (k : Nat) (l0 : List (S67)) : Option (Int × (List (S67)) × (List (S67))) := (impl_WaitsFault.f k l0).bind fun t240 => (if t240 = 0 then (impl_AgeWaits.l0 k l0 (l0.length : Int) 0 t240 ([] : List (S67)) ([] : List (S67))) else (some (t240, ([] : List (S67)), ([] : List (S67)))))
theorem impl_AgeWaits.mono_l : ∀ k, (∀ y0 y1 y2 y3 y4 y5, LeO (impl_AgeWaits.l0 k y0 y1 y2 y3 y4 y5) (impl_AgeWaits.l0 (k + 1) y0 y1 y2 y3 y4 y5))
  | 0 => fun _ _ _ _ _ _ r h => by simp [impl_AgeWaits.l0] at h
  | k + 1 => by
    have ih0 := impl_AgeWaits.mono_l k
    · intro y0 y1 y2 y3 y4 y5
      unfold impl_AgeWaits.l0
      repeat' first
      | (with_reducible exact ih0 _ _ _ _ _ _)
      | (with_reducible exact impl_WaitsFault.mono _ _)
      | (with_reducible exact LeO.refl _)
      | (with_reducible exact LeO.none _)
      | (with_reducible refine LeO.ite ?_ ?_)
      | (with_reducible refine LeO.bind ?_ (fun _ => ?_))
      | exact ih0 _ _ _ _ _ _
      | exact impl_WaitsFault.mono _ _
      | exact LeO.none _
      | refine LeO.ite ?_ ?_
      | refine LeO.bind ?_ (fun _ => ?_)
theorem impl_AgeWaits.mono : ∀ a0 k, LeO (impl_AgeWaits.f k a0) (impl_AgeWaits.f (k + 1) a0) := by
  intro a0 k
  have ih0 := impl_AgeWaits.mono_l k
  unfold impl_AgeWaits.f
  repeat' first
      | (with_reducible exact ih0 _ _ _ _ _ _)
      | (with_reducible exact impl_WaitsFault.mono _ _)
      | (with_reducible exact LeO.refl _)
      | (with_reducible exact LeO.none _)
      | (with_reducible refine LeO.ite ?_ ?_)
      | (with_reducible refine LeO.bind ?_ (fun _ => ?_))
      | exact ih0 _ _ _ _ _ _
      | exact impl_WaitsFault.mono _ _
      | exact LeO.none _
      | refine LeO.ite ?_ ?_
      | refine LeO.bind ?_ (fun _ => ?_)
set_option maxHeartbeats 8000000 in
set_option maxRecDepth 100000 in
theorem impl_AgeWaits.calls (k : Nat) (A0 : Option Addr) (c0 : Nat) (l0 : List (S67)) (r1 : Int) (r2 : List (S67)) (r3 : List (S67)) (w : World) (hr0 : Kd.C k67 w A0 l0.length l0) (hc0 : l0.length ≤ c0) (h : impl_AgeWaits.f k l0 = some (r1, r2, r3)) :
    Calls Try.prog 9 #[.slice A0 l0.length c0] w fun e w' => ∃ v1_ v2_ : Value, e = .returned (.agg #[.int .i64 r1, v1_, v2_]) ∧ Kd.R k67 67 w' w.heap.size (fun k_ => some k_ ≠ (v2_ : Value).ownBlock) v1_ r2 ∧ Kd.R k67 67 w' w.heap.size (fun k_ => some k_ ≠ (v1_ : Value).ownBlock) v2_ r3 ∧ Below w.heap.size w w' := by
  have hu27 := Try.underlying27
  have hu67 := Try.underlying67
  have HR0 := Aside0.mk hr0
  have HC0 := Aside0.mk hc0
  clear hr0 hc0
  have HB := Aside0.mk (Below.refl w.heap.size w)
  have H : ((impl_WaitsFault.f k l0).bind fun t240 => (if t240 = 0 then (impl_AgeWaits.l0 k l0 (l0.length : Int) 0 t240 ([] : List (S67)) ([] : List (S67))) else (some (t240, ([] : List (S67)), ([] : List (S67)))))) = some (r1, r2, r3) := h
  clear h
  replace H := Option.bind_eq_some_iff.mp H
  obtain ⟨t240, A20, H⟩ := H
  replace H : (if t240 = 0 then (impl_AgeWaits.l0 k l0 (l0.length : Int) 0 t240 ([] : List (S67)) ([] : List (S67))) else (some (t240, ([] : List (S67)), ([] : List (S67))))) = some (r1, r2, r3) := H
  have A2 := Aside0.mk A20
  clear A20
  by_cases c3 : t240 = 0
  · rw [if_pos c3] at H
    have c3b0 : (t240 == 0) = true := beq_iff_eq.mpr c3
    have c3b1 : (t240 != 0) = false := bne_eq_false_iff_eq.mpr c3
    clear c3
    have H' := Aside0.mk H
    clear H
    go_enter Try.func9, Try.ntmps9
    go_wp2_with (first | ((with_reducible refine gate_dst (N := 2) rfl ?_); refine box_event ?hg (N := 2) ?hd (cs := #[.int .i64 0, .slice none 0 0, .slice none 0 0]) (t := 27) ?hr ?_; (case hd => rfl); (case hg => rfl); (case hr => first | (go_simp; done) | (go_simp; rfl)); intro gb239 hg w4 hbox hb; have n0_ := Aside0.mk (below_step (by repeat (first | (with_reducible first | exact HB.out | apply below_alloc | apply pw_below_drewN | apply below_drew1) | exact HB.out)) hb); have n1_ := Aside0.mk (hbox); have n2_ := Aside0.mk ((by rw [hg]; exact (below_size (by repeat (first | (with_reducible first | exact HB.out | apply below_alloc | apply pw_below_drewN | apply below_drew1) | exact HB.out))) : w.heap.size ≤ gb239)); have n3_ := Aside0.mk ((by rw [hg]; exact (below_size (by repeat (first | (with_reducible first | exact HB.out | apply below_alloc | apply pw_below_drewN | apply below_drew1) | exact HB.out))) : w.heap.size ≤ gb239)); clear HB; have HB := n0_; have BK239 := n1_; have GW239 := n2_; have GE239 := n3_; clear n0_ n1_ n2_ n3_; clear hb hbox hg) | ((with_reducible refine gate_callee (f := 15) rfl ?_); refine goesL_ (some 7) rfl rfl Try.func15 (by kernel_rfl) rfl #[.slice A0 l0.length c0] rfl (by (try simp only [List.map_toArray, List.map_cons, List.map_nil]); first | done | rfl | (simp only [List.length_drop, List.length_take]; rfl)) ?_; (with_reducible refine (impl_WaitsFault.calls k _ _ l0 t240 _ ?side1 ?side2 A2.out).mono ?_); (case side1 => repeat (first | exact (Kd.C_below HR0.out HB.out) | (with_reducible refine Kd.C_alloc ?_ _) | (with_reducible refine Kd.C_drewN ?_ _) | (with_reducible refine Kd.C_drew ?_))); (case side2 => exact HC0.out); rintro e w5 ⟨rfl, hb⟩; refine ⟨_, rfl, ?_⟩; have n0_ := Aside0.mk (blk_below (g := gb239) (o := .cells #[.int .i64 0, .slice none 0 0, .slice none 0 0] 27 (0, 0)) (by (with_reducible repeat (first | refine blk_drewN ?_ _ | refine blk_drew ?_ | refine blk_alloc ?_ _)); exact BK239.out) hb); have n1_ := Aside0.mk (below_step (by repeat (first | (with_reducible first | exact HB.out | apply below_alloc | apply pw_below_drewN | apply below_drew1 | refine below_set ?_ GE239.out) | exact HB.out)) hb); clear BK239; clear HB; have BK239 := n0_; have HB := n1_; clear n0_ n1_; (try clear hb); (try clear hb2); (try clear hk); (try clear hi)) | ((with_reducible refine gate_dst (N := 3) rfl ?_); refine box_event ?hg (N := 3) ?hd (cs := #[.int .i64 0, .slice none 0 0, .slice none 0 0]) (t := 27) ?hr ?_; (case hd => rfl); (case hg => rfl); (case hr => first | (go_simp; done) | (go_simp; rfl)); intro gb241 hg w6 hbox hb; have n0_ := Aside0.mk (blk_below (g := gb239) (o := .cells #[.int .i64 0, .slice none 0 0, .slice none 0 0] 27 (0, 0)) (by (with_reducible repeat (first | refine blk_drewN ?_ _ | refine blk_drew ?_ | refine blk_alloc ?_ _)); exact BK239.out) hb); have n1_ := Aside0.mk (below_step (by repeat (first | (with_reducible first | exact HB.out | apply below_alloc | apply pw_below_drewN | apply below_drew1 | refine below_set ?_ GE239.out) | exact HB.out)) hb); have n2_ := Aside0.mk (hbox); have n3_ := Aside0.mk ((by rw [hg]; exact (below_size (by repeat (first | (with_reducible first | exact HB.out | apply below_alloc | apply pw_below_drewN | apply below_drew1 | refine below_set ?_ GE239.out) | exact HB.out))) : w.heap.size ≤ gb241)); have n4_ := Aside0.mk ((by rw [hg]; exact (below_size (by repeat (first | (with_reducible first | exact HB.out | apply below_alloc | apply pw_below_drewN | apply below_drew1 | refine below_set ?_ GE239.out) | exact HB.out))) : w.heap.size ≤ gb241)); have n5_ := Aside0.mk ((by rw [hg]; exact Nat.ne_of_lt (blk_lt (g := gb239) (o := .cells #[.int .i64 0, .slice none 0 0, .slice none 0 0] 27 (0, 0)) (by (with_reducible repeat (first | refine blk_drewN ?_ _ | refine blk_drew ?_ | refine blk_alloc ?_ _)); exact BK239.out)) : gb239 ≠ gb241)); have n6_ := Aside0.mk ((by rw [hg]; exact Nat.ne_of_gt (blk_lt (g := gb239) (o := .cells #[.int .i64 0, .slice none 0 0, .slice none 0 0] 27 (0, 0)) (by (with_reducible repeat (first | refine blk_drewN ?_ _ | refine blk_drew ?_ | refine blk_alloc ?_ _)); exact BK239.out)) : gb241 ≠ gb239)); clear BK239; clear HB; have BK239 := n0_; have HB := n1_; have BK241 := n2_; have GW241 := n3_; have GE241 := n4_; have NB239_241 := n5_; have NB241_239 := n6_; clear n0_ n1_ n2_ n3_ n4_ n5_ n6_; clear hb hbox hg; have hnb7 := NB241_239.out; have hnc7 := NB239_241.out; have hcz8_0 : w6.cell? ⟨gb241, 0, none⟩ = some (.int .i64 0) := (blk_cell BK241.out 0).trans rfl; have hcz8_1 : w6.cell? ⟨gb241, 1, none⟩ = some (.slice none 0 0) := (blk_cell BK241.out 1).trans rfl; have hcz8_2 : w6.cell? ⟨gb241, 2, none⟩ = some (.slice none 0 0) := (blk_cell BK241.out 2).trans rfl; have hfz8_0 := blk_frozen BK241.out 0; have hfz8_1 := blk_frozen BK241.out 1; have hfz8_2 := blk_frozen BK241.out 2))
    go_loopg [15] k (fun kq v15 w' => ∃ (x15_1 : Int) (x242001_1 : List (S67)) (x242002_1 : List (S67)) (u242001 : Value) (u242002 : Value), v15 = .int .i64 x15_1 ∧ Aside0 (impl_AgeWaits.l0 kq l0 (l0.length : Int) x15_1 t240 x242001_1 x242002_1 = some (r1, r2, r3)) ∧ Aside0 (kq ≤ k) ∧ Aside0 (Kd.R k67 67 w' w.heap.size (fun k_ => some k_ ≠ (u242002 : Value).ownBlock) u242001 x242001_1) ∧ Aside0 (Kd.R k67 67 w' w.heap.size (fun k_ => some k_ ≠ (u242001 : Value).ownBlock) u242002 x242002_1) ∧ Aside0 (w'.heap[gb239]? = some (.cells #[.int .i64 0, (.slice none 0 0), (.slice none 0 0)] 27 (0, 0))) ∧ Aside0 (w'.heap[gb241]? = some (.cells #[.int .i64 t240, u242001, u242002] 27 (0, 0))) ∧ Aside0 (Below w.heap.size w w'))
    case atStart => exact ⟨(0), (([] : List (S67))), (([] : List (S67))), (.slice none 0 0), (.slice none 0 0), (by first | rfl | (simp; done) | (simp [*]; done)), H', ⟨Nat.le_refl _⟩, ⟨by first | exact Kd.R_nil _ _ _ _ _ | exact Kd.N_nil _ _ _ _ _ | exact Kd.V_nil _ _ _ _ _ | exact Kd.Q_nil _ _ _ _ _ | exact Kd.S_nil _ _ _ _ _⟩, ⟨by first | exact Kd.R_nil _ _ _ _ _ | exact Kd.N_nil _ _ _ _ _ | exact Kd.V_nil _ _ _ _ _ | exact Kd.Q_nil _ _ _ _ _ | exact Kd.S_nil _ _ _ _ _⟩, ⟨by (with_reducible repeat (first | refine blk_drewN ?_ _ | refine blk_drew ?_ | refine blk_alloc ?_ _)); refine blk_far ?_ NB239_241.out _; (with_reducible repeat (first | refine blk_drewN ?_ _ | refine blk_drew ?_ | refine blk_alloc ?_ _)); refine blk_far ?_ NB239_241.out _; (with_reducible repeat (first | refine blk_drewN ?_ _ | refine blk_drew ?_ | refine blk_alloc ?_ _)); refine blk_far ?_ NB239_241.out _; (with_reducible repeat (first | refine blk_drewN ?_ _ | refine blk_drew ?_ | refine blk_alloc ?_ _)); exact BK239.out⟩, ⟨by (with_reducible repeat (first | refine blk_drewN ?_ _ | refine blk_drew ?_ | refine blk_alloc ?_ _)); refine blk_put (cs := #[.int .i64 t240, .slice none 0 0, .slice none 0 0]) ?_ 2 _ rfl; (with_reducible repeat (first | refine blk_drewN ?_ _ | refine blk_drew ?_ | refine blk_alloc ?_ _)); refine blk_put (cs := #[.int .i64 t240, .slice none 0 0, .slice none 0 0]) ?_ 1 _ rfl; (with_reducible repeat (first | refine blk_drewN ?_ _ | refine blk_drew ?_ | refine blk_alloc ?_ _)); refine blk_put (cs := #[.int .i64 0, .slice none 0 0, .slice none 0 0]) ?_ 0 _ rfl; (with_reducible repeat (first | refine blk_drewN ?_ _ | refine blk_drew ?_ | refine blk_alloc ?_ _)); exact BK241.out⟩, ⟨by repeat (first | (with_reducible first | exact HB.out | apply below_alloc | apply pw_below_drewN | apply below_drew1 | refine below_set ?_ GE239.out | refine below_set ?_ GE241.out) | exact HB.out)⟩⟩
    case round =>
      clear H'
      try clear c1
      try clear p2
      try clear c3
      try clear c3b0
      try clear c3b1
      try clear c7
      try clear hcz8_0
      try clear hcz8_1
      try clear hcz8_2
      try clear hfz8_0
      try clear hfz8_1
      try clear hfz8_2
      obtain ⟨x15_1, x242001_1, x242002_1, u242001, u242002, rfl, HA, HK1, HO_242001, HO_242002, BK239, BK241, HB⟩ := hrel
      cases gk with
      | zero => exact absurd HA.out (by simp [impl_AgeWaits.l0])
      | succ k1 =>
        have H := HA.out
        clear HA
        simp only [impl_AgeWaits.l0] at H
        by_cases c9 : x15_1 < (l0.length : Int)
        · rw [if_pos c9] at H
          have c9b0 : decide (x15_1 < (l0.length : Int)) = true := decide_eq_true c9
          clear c9
          by_cases c10 : 0 ≤ x15_1
          · rw [if_pos c10] at H
            have c10b0 : decide (0 ≤ x15_1) = true := decide_eq_true c10
            clear c10
            by_cases c11 : x15_1 < (l0.length : Int)
            · rw [if_pos c11] at H
              have c11b0 : decide (x15_1 < (l0.length : Int)) = true := decide_eq_true c11
              clear c11
              by_cases c12 : (wrap64 (((rd_T67 l0 x15_1).f4) - 1)) > 0
              · rw [if_pos c12] at H
                have c12b0 : decide (0 < (wrap64 (((rd_T67 l0 x15_1).f4) - 1))) = true := decide_eq_true c12
                (try (have c12b1 : decide (0 < (IntKind.i64.wrap (((rd_T67 l0 x15_1).f4) - 1))) = true := by simp only [i64_w]; exact decide_eq_true c12))
                clear c12
                by_cases c13 : x242001_1.length < 2513169434916
                · rw [if_pos c13] at H
                  have LMc13 := Aside0.mk c13
                  clear c13
                  obtain ⟨y244, hy244⟩ : ∃ y_ : List (S67), y_ = (x242001_1 ++ [(⟨(rd_T67 l0 x15_1).f0, (rd_T67 l0 x15_1).f1, (rd_T67 l0 x15_1).f2, (rd_T67 l0 x15_1).f3, wrap64 (((rd_T67 l0 x15_1).f4) - 1), (rd_T67 l0 x15_1).f5, (rd_T67 l0 x15_1).f6⟩ : S67)]) := ⟨_, rfl⟩
                  replace H : (impl_AgeWaits.l0 k1 l0 (l0.length : Int) (wrap64 (x15_1 + 1)) t240 y244 x242002_1) = some (r1, r2, r3) := by first | (rw [hy244]; with_reducible exact H) | (have H2_ := (Option.bind_some _ _).symm.trans H; rw [hy244]; with_reducible exact H2_) | (have H2_ := (Option.bind_some _ _).symm.trans H; with_reducible exact H2_) | with_reducible exact H | (rw [hy244]; exact H) | exact H
                  have Ny244 := Aside0.mk hy244
                  clear hy244
                  have H' := Aside0.mk H
                  clear H
                  have p242 : 0 ≤ (x15_1 : Int) := of_decide_eq_true (by first | (with_reducible assumption) | assumption)
                  have q242 : x15_1 < (l0.length : Int) := of_decide_eq_true (by first | (with_reducible assumption) | assumption)
                  obtain ⟨ad242, e242, hx242_0, hx242_1, hx242_2, hx242_3, hx242_4, hx242_5, hx242_6⟩ := at_T67 HR0.out x15_1 p242 q242
                  cases e242
                  replace hx242_0 := (HB.out.cell (World.block_lt_of_cell? w _ hx242_0)).trans hx242_0
                  replace hx242_1 := (HB.out.cell (World.block_lt_of_cell? w _ hx242_1)).trans hx242_1
                  replace hx242_2 := (HB.out.cell (World.block_lt_of_cell? w _ hx242_2)).trans hx242_2
                  replace hx242_3 := (HB.out.cell (World.block_lt_of_cell? w _ hx242_3)).trans hx242_3
                  replace hx242_4 := (HB.out.cell (World.block_lt_of_cell? w _ hx242_4)).trans hx242_4
                  replace hx242_5 := (HB.out.cell (World.block_lt_of_cell? w _ hx242_5)).trans hx242_5
                  replace hx242_6 := (HB.out.cell (World.block_lt_of_cell? w _ hx242_6)).trans hx242_6
                  replace p242 := eq_true p242
                  replace q242 := eq_true q242
                  go_wp2_with (first | ((with_reducible refine gate_dst (N := 5) rfl ?_); refine box_event ?hg (N := 5) ?hd (cs := #[.int .i64 0, .int .i64 0, .int .i64 0, .int .i64 0, .int .i64 0, .int .i64 0, .int .i64 0]) (t := 67) ?hr ?_; (case hd => rfl); (case hg => rfl); (case hr => first | (go_simp; done) | (go_simp; rfl)); intro gb243 hg w14 hbox hb; have n0_ := Aside0.mk (Kd.R_below (Kd.R_elderB (by (with_reducible repeat (first | apply Kd.R_alloc | apply Kd.R_drewN | apply Kd.R_drew)); exact HO_242001.out) gb243 (Nat.le_of_eq hg.symm)) hb); have n1_ := Aside0.mk (Kd.R_below (Kd.R_elderB (by (with_reducible repeat (first | apply Kd.R_alloc | apply Kd.R_drewN | apply Kd.R_drew)); exact HO_242002.out) gb243 (Nat.le_of_eq hg.symm)) hb); have n2_ := Aside0.mk (blk_below (g := gb239) (o := .cells #[.int .i64 0, .slice none 0 0, .slice none 0 0] 27 (0, 0)) (by (with_reducible repeat (first | refine blk_drewN ?_ _ | refine blk_drew ?_ | refine blk_alloc ?_ _)); exact BK239.out) hb); have n3_ := Aside0.mk (blk_below (g := gb241) (o := .cells #[.int .i64 t240, u242001, u242002] 27 (0, 0)) (by (with_reducible repeat (first | refine blk_drewN ?_ _ | refine blk_drew ?_ | refine blk_alloc ?_ _)); exact BK241.out) hb); have n4_ := Aside0.mk (below_step (by repeat (first | (with_reducible first | exact HB.out | apply below_alloc | apply pw_below_drewN | apply below_drew1 | refine below_set ?_ GE239.out | refine below_set ?_ GE241.out) | exact HB.out)) hb); have n5_ := Aside0.mk (hbox); have n6_ := Aside0.mk ((by rw [hg]; exact (below_size (by repeat (first | (with_reducible first | exact HB.out | apply below_alloc | apply pw_below_drewN | apply below_drew1 | refine below_set ?_ GE239.out | refine below_set ?_ GE241.out) | exact HB.out))) : w.heap.size ≤ gb243)); have n7_ := Aside0.mk ((by rw [hg]; exact (below_size (by repeat (first | (with_reducible first | exact HB.out | apply below_alloc | apply pw_below_drewN | apply below_drew1 | refine below_set ?_ GE239.out | refine below_set ?_ GE241.out) | exact HB.out))) : w.heap.size ≤ gb243)); have n8_ := Aside0.mk ((by rw [hg]; exact Nat.ne_of_lt (blk_lt (g := gb239) (o := .cells #[.int .i64 0, .slice none 0 0, .slice none 0 0] 27 (0, 0)) (by (with_reducible repeat (first | refine blk_drewN ?_ _ | refine blk_drew ?_ | refine blk_alloc ?_ _)); exact BK239.out)) : gb239 ≠ gb243)); have n9_ := Aside0.mk ((by rw [hg]; exact Nat.ne_of_gt (blk_lt (g := gb239) (o := .cells #[.int .i64 0, .slice none 0 0, .slice none 0 0] 27 (0, 0)) (by (with_reducible repeat (first | refine blk_drewN ?_ _ | refine blk_drew ?_ | refine blk_alloc ?_ _)); exact BK239.out)) : gb243 ≠ gb239)); have n10_ := Aside0.mk ((by rw [hg]; exact Nat.ne_of_lt (blk_lt (g := gb241) (o := .cells #[.int .i64 t240, u242001, u242002] 27 (0, 0)) (by (with_reducible repeat (first | refine blk_drewN ?_ _ | refine blk_drew ?_ | refine blk_alloc ?_ _)); exact BK241.out)) : gb241 ≠ gb243)); have n11_ := Aside0.mk ((by rw [hg]; exact Nat.ne_of_gt (blk_lt (g := gb241) (o := .cells #[.int .i64 t240, u242001, u242002] 27 (0, 0)) (by (with_reducible repeat (first | refine blk_drewN ?_ _ | refine blk_drew ?_ | refine blk_alloc ?_ _)); exact BK241.out)) : gb243 ≠ gb241)); clear HO_242001; clear HO_242002; clear BK239; clear BK241; clear HB; have HO_242001 := n0_; have HO_242002 := n1_; have BK239 := n2_; have BK241 := n3_; have HB := n4_; have BK243 := n5_; have GW243 := n6_; have GE243 := n7_; have NB239_243 := n8_; have NB243_239 := n9_; have NB241_243 := n10_; have NB243_241 := n11_; clear n0_ n1_ n2_ n3_ n4_ n5_ n6_ n7_ n8_ n9_ n10_ n11_; clear hb hbox hg; have hnb15 := NB243_239.out; have hnc15 := NB239_243.out; have hnb16 := NB243_241.out; have hnc16 := NB241_243.out; have hcz17_0 : w14.cell? ⟨gb243, 0, none⟩ = some (.int .i64 0) := (blk_cell BK243.out 0).trans rfl; have hcz17_1 : w14.cell? ⟨gb243, 1, none⟩ = some (.int .i64 0) := (blk_cell BK243.out 1).trans rfl; have hcz17_2 : w14.cell? ⟨gb243, 2, none⟩ = some (.int .i64 0) := (blk_cell BK243.out 2).trans rfl; have hcz17_3 : w14.cell? ⟨gb243, 3, none⟩ = some (.int .i64 0) := (blk_cell BK243.out 3).trans rfl; have hcz17_4 : w14.cell? ⟨gb243, 4, none⟩ = some (.int .i64 0) := (blk_cell BK243.out 4).trans rfl; have hcz17_5 : w14.cell? ⟨gb243, 5, none⟩ = some (.int .i64 0) := (blk_cell BK243.out 5).trans rfl; have hcz17_6 : w14.cell? ⟨gb243, 6, none⟩ = some (.int .i64 0) := (blk_cell BK243.out 6).trans rfl; have hfz17_0 := blk_frozen BK243.out 0; have hfz17_1 := blk_frozen BK243.out 1; have hfz17_2 := blk_frozen BK243.out 2; have hfz17_3 := blk_frozen BK243.out 3; have hfz17_4 := blk_frozen BK243.out 4; have hfz17_5 := blk_frozen BK243.out 5; have hfz17_6 := blk_frozen BK243.out 6; have hnb18 := NB241_239.out; have hnc18 := NB239_241.out; have hcz19_0 : w14.cell? ⟨gb241, 0, none⟩ = some (.int .i64 t240) := (blk_cell BK241.out 0).trans rfl; have hcz19_1 : w14.cell? ⟨gb241, 1, none⟩ = some (u242001) := (blk_cell BK241.out 1).trans rfl; have hcz19_2 : w14.cell? ⟨gb241, 2, none⟩ = some (u242002) := (blk_cell BK241.out 2).trans rfl; have hfz19_0 := blk_frozen BK241.out 0; have hfz19_1 := blk_frozen BK241.out 1; have hfz19_2 := blk_frozen BK241.out 2) | ((with_reducible refine gate_builtin (b := .append) (xs := #[.tmp 27, .tmp 29]) rfl ?_); at_builtin; refine Kd.R_append k67 (w0 := w) w.heap.size rfl (.tmp 27) (.tmp 29) 24 67 (.agg #[(.int .i64 0), (.int .i64 0), (.int .i64 0), (.int .i64 0), (.int .i64 0), (.int .i64 0), (.int .i64 0)]) 56 rfl Try.underlying24 info67 rfl (by decide) (by omega) u242001 x242001_1 (⟨(rd_T67 l0 x15_1).f0, (rd_T67 l0 x15_1).f1, (rd_T67 l0 x15_1).f2, (rd_T67 l0 x15_1).f3, wrap64 (((rd_T67 l0 x15_1).f4) - 1), (rd_T67 l0 x15_1).f5, (rd_T67 l0 x15_1).f6⟩ : S67) [.int .i64 ((rd_T67 l0 x15_1).f0), .int .i64 ((rd_T67 l0 x15_1).f1), .int .i64 ((rd_T67 l0 x15_1).f2), .int .i64 ((rd_T67 l0 x15_1).f3), .int .i64 (wrap64 (((rd_T67 l0 x15_1).f4) - 1)), .int .i64 ((rd_T67 l0 x15_1).f5), .int .i64 ((rd_T67 l0 x15_1).f6)] (fun k_ => some k_ ≠ (u242002 : Value).ownBlock ∧ k_ ≠ gb243) (fun _ => False) rfl (by first | (go_simp; done) | (go_simp; rfl)) ?aP (fun _ hk => hk.elim) ?aF ?aO ?aB ?aS ?aL ?_; (case aP => exact k67_mkM _ _ _ (⟨(rd_T67 l0 x15_1).f0, (rd_T67 l0 x15_1).f1, (rd_T67 l0 x15_1).f2, (rd_T67 l0 x15_1).f3, wrap64 (((rd_T67 l0 x15_1).f4) - 1), (rd_T67 l0 x15_1).f5, (rd_T67 l0 x15_1).f6⟩ : S67)); (case aB => exact (by repeat (first | (with_reducible first | exact HB.out | apply below_alloc | apply pw_below_drewN | apply below_drew1 | refine below_set ?_ GE239.out | refine below_set ?_ GE241.out | refine below_set ?_ GE243.out) | exact HB.out))); (case aF => exact (fun k_ hk => ⟨Kd.fresh' (Kd.R_lt (by (with_reducible repeat (first | apply Kd.R_alloc | apply Kd.R_drewN | apply Kd.R_drew)); exact (Kd.R_mono (Kd.R_far (p := ⟨gb243, 4, none⟩) (Kd.R_far (p := ⟨gb243, 6, none⟩) (Kd.R_far (p := ⟨gb243, 5, none⟩) (Kd.R_far (p := ⟨gb243, 4, none⟩) (Kd.R_far (p := ⟨gb243, 3, none⟩) (Kd.R_far (p := ⟨gb243, 2, none⟩) (Kd.R_far (p := ⟨gb243, 1, none⟩) (Kd.R_far (p := ⟨gb243, 0, none⟩) (Kd.R_mono HO_242002.out (fun k_ hk => (⟨hk, hk.2⟩ : _ ∧ k_ ≠ gb243))) (fun _ hk => hk.2) (.int .i64 ((rd_T67 l0 x15_1).f0))) (fun _ hk => hk.2) (.int .i64 ((rd_T67 l0 x15_1).f1))) (fun _ hk => hk.2) (.int .i64 ((rd_T67 l0 x15_1).f2))) (fun _ hk => hk.2) (.int .i64 ((rd_T67 l0 x15_1).f3))) (fun _ hk => hk.2) (.int .i64 ((rd_T67 l0 x15_1).f4))) (fun _ hk => hk.2) (.int .i64 ((rd_T67 l0 x15_1).f5))) (fun _ hk => hk.2) (.int .i64 ((rd_T67 l0 x15_1).f6))) (fun _ hk => hk.2) (.int .i64 (wrap64 (((rd_T67 l0 x15_1).f4) - 1)))) (fun _ h_ => h_.1)))) k_ hk, Kd.freshB (g := gb243) (o := .cells #[.int .i64 ((rd_T67 l0 x15_1).f0), .int .i64 ((rd_T67 l0 x15_1).f1), .int .i64 ((rd_T67 l0 x15_1).f2), .int .i64 ((rd_T67 l0 x15_1).f3), .int .i64 (wrap64 (((rd_T67 l0 x15_1).f4) - 1)), .int .i64 ((rd_T67 l0 x15_1).f5), .int .i64 ((rd_T67 l0 x15_1).f6)] 67 (0, 0)) (by (with_reducible repeat (first | refine blk_drewN ?_ _ | refine blk_drew ?_ | refine blk_alloc ?_ _)); refine blk_put (cs := #[.int .i64 ((rd_T67 l0 x15_1).f0), .int .i64 ((rd_T67 l0 x15_1).f1), .int .i64 ((rd_T67 l0 x15_1).f2), .int .i64 ((rd_T67 l0 x15_1).f3), .int .i64 ((rd_T67 l0 x15_1).f4), .int .i64 ((rd_T67 l0 x15_1).f5), .int .i64 ((rd_T67 l0 x15_1).f6)]) ?_ 4 _ rfl; (with_reducible repeat (first | refine blk_drewN ?_ _ | refine blk_drew ?_ | refine blk_alloc ?_ _)); refine blk_put (cs := #[.int .i64 ((rd_T67 l0 x15_1).f0), .int .i64 ((rd_T67 l0 x15_1).f1), .int .i64 ((rd_T67 l0 x15_1).f2), .int .i64 ((rd_T67 l0 x15_1).f3), .int .i64 ((rd_T67 l0 x15_1).f4), .int .i64 ((rd_T67 l0 x15_1).f5), .int .i64 0]) ?_ 6 _ rfl; (with_reducible repeat (first | refine blk_drewN ?_ _ | refine blk_drew ?_ | refine blk_alloc ?_ _)); refine blk_put (cs := #[.int .i64 ((rd_T67 l0 x15_1).f0), .int .i64 ((rd_T67 l0 x15_1).f1), .int .i64 ((rd_T67 l0 x15_1).f2), .int .i64 ((rd_T67 l0 x15_1).f3), .int .i64 ((rd_T67 l0 x15_1).f4), .int .i64 0, .int .i64 0]) ?_ 5 _ rfl; (with_reducible repeat (first | refine blk_drewN ?_ _ | refine blk_drew ?_ | refine blk_alloc ?_ _)); refine blk_put (cs := #[.int .i64 ((rd_T67 l0 x15_1).f0), .int .i64 ((rd_T67 l0 x15_1).f1), .int .i64 ((rd_T67 l0 x15_1).f2), .int .i64 ((rd_T67 l0 x15_1).f3), .int .i64 0, .int .i64 0, .int .i64 0]) ?_ 4 _ rfl; (with_reducible repeat (first | refine blk_drewN ?_ _ | refine blk_drew ?_ | refine blk_alloc ?_ _)); refine blk_put (cs := #[.int .i64 ((rd_T67 l0 x15_1).f0), .int .i64 ((rd_T67 l0 x15_1).f1), .int .i64 ((rd_T67 l0 x15_1).f2), .int .i64 0, .int .i64 0, .int .i64 0, .int .i64 0]) ?_ 3 _ rfl; (with_reducible repeat (first | refine blk_drewN ?_ _ | refine blk_drew ?_ | refine blk_alloc ?_ _)); refine blk_put (cs := #[.int .i64 ((rd_T67 l0 x15_1).f0), .int .i64 ((rd_T67 l0 x15_1).f1), .int .i64 0, .int .i64 0, .int .i64 0, .int .i64 0, .int .i64 0]) ?_ 2 _ rfl; (with_reducible repeat (first | refine blk_drewN ?_ _ | refine blk_drew ?_ | refine blk_alloc ?_ _)); refine blk_put (cs := #[.int .i64 ((rd_T67 l0 x15_1).f0), .int .i64 0, .int .i64 0, .int .i64 0, .int .i64 0, .int .i64 0, .int .i64 0]) ?_ 1 _ rfl; (with_reducible repeat (first | refine blk_drewN ?_ _ | refine blk_drew ?_ | refine blk_alloc ?_ _)); refine blk_put (cs := #[.int .i64 0, .int .i64 0, .int .i64 0, .int .i64 0, .int .i64 0, .int .i64 0, .int .i64 0]) ?_ 0 _ rfl; (with_reducible repeat (first | refine blk_drewN ?_ _ | refine blk_drew ?_ | refine blk_alloc ?_ _)); exact BK243.out) k_ hk⟩)); (case aO => exact (by (with_reducible repeat (first | apply Kd.R_alloc | apply Kd.R_drewN | apply Kd.R_drew)); exact Kd.R_mono (Kd.R_far (p := ⟨gb243, 4, none⟩) (Kd.R_far (p := ⟨gb243, 6, none⟩) (Kd.R_far (p := ⟨gb243, 5, none⟩) (Kd.R_far (p := ⟨gb243, 4, none⟩) (Kd.R_far (p := ⟨gb243, 3, none⟩) (Kd.R_far (p := ⟨gb243, 2, none⟩) (Kd.R_far (p := ⟨gb243, 1, none⟩) (Kd.R_far (p := ⟨gb243, 0, none⟩) (Kd.R_mono HO_242001.out (fun k_ hk => (⟨hk, hk.2⟩ : _ ∧ k_ ≠ gb243))) (fun _ hk => hk.2) (.int .i64 ((rd_T67 l0 x15_1).f0))) (fun _ hk => hk.2) (.int .i64 ((rd_T67 l0 x15_1).f1))) (fun _ hk => hk.2) (.int .i64 ((rd_T67 l0 x15_1).f2))) (fun _ hk => hk.2) (.int .i64 ((rd_T67 l0 x15_1).f3))) (fun _ hk => hk.2) (.int .i64 ((rd_T67 l0 x15_1).f4))) (fun _ hk => hk.2) (.int .i64 ((rd_T67 l0 x15_1).f5))) (fun _ hk => hk.2) (.int .i64 ((rd_T67 l0 x15_1).f6))) (fun _ hk => hk.2) (.int .i64 (wrap64 (((rd_T67 l0 x15_1).f4) - 1)))) (fun _ hk => ⟨hk.1.1, hk.1.2⟩))); (case aS => exact (below_size (by repeat (first | (with_reducible first | exact HB.out | apply below_alloc | apply pw_below_drewN | apply below_drew1 | refine below_set ?_ GE239.out | refine below_set ?_ GE241.out | refine below_set ?_ GE243.out) | exact HB.out)))); (case aL => have := LMc13.out; omega); intro v245 w20 ho hb hg hat; rw [← Ny244.out] at ho; have n0_ := Aside0.mk (Kd.R_after (ok := (fun k_ => k_ ≠ gb243)) (by (with_reducible repeat (first | apply Kd.R_alloc | apply Kd.R_drewN | apply Kd.R_drew)); exact Kd.R_mono (Kd.R_far (p := ⟨gb243, 4, none⟩) (Kd.R_far (p := ⟨gb243, 6, none⟩) (Kd.R_far (p := ⟨gb243, 5, none⟩) (Kd.R_far (p := ⟨gb243, 4, none⟩) (Kd.R_far (p := ⟨gb243, 3, none⟩) (Kd.R_far (p := ⟨gb243, 2, none⟩) (Kd.R_far (p := ⟨gb243, 1, none⟩) (Kd.R_far (p := ⟨gb243, 0, none⟩) (Kd.R_mono HO_242002.out (fun k_ hk => (⟨hk, hk.2⟩ : _ ∧ k_ ≠ gb243))) (fun _ hk => hk.2) (.int .i64 ((rd_T67 l0 x15_1).f0))) (fun _ hk => hk.2) (.int .i64 ((rd_T67 l0 x15_1).f1))) (fun _ hk => hk.2) (.int .i64 ((rd_T67 l0 x15_1).f2))) (fun _ hk => hk.2) (.int .i64 ((rd_T67 l0 x15_1).f3))) (fun _ hk => hk.2) (.int .i64 ((rd_T67 l0 x15_1).f4))) (fun _ hk => hk.2) (.int .i64 ((rd_T67 l0 x15_1).f5))) (fun _ hk => hk.2) (.int .i64 ((rd_T67 l0 x15_1).f6))) (fun _ hk => hk.2) (.int .i64 (wrap64 (((rd_T67 l0 x15_1).f4) - 1)))) (fun _ hk => ⟨hk.1.2, hk.1.1⟩)) hg hat); have n1_ := Aside0.mk (blk_grown (g := gb239) (o := .cells #[.int .i64 0, .slice none 0 0, .slice none 0 0] 27 (0, 0)) (by (with_reducible repeat (first | refine blk_drewN ?_ _ | refine blk_drew ?_ | refine blk_alloc ?_ _)); refine blk_far ?_ NB239_243.out _; (with_reducible repeat (first | refine blk_drewN ?_ _ | refine blk_drew ?_ | refine blk_alloc ?_ _)); refine blk_far ?_ NB239_243.out _; (with_reducible repeat (first | refine blk_drewN ?_ _ | refine blk_drew ?_ | refine blk_alloc ?_ _)); refine blk_far ?_ NB239_243.out _; (with_reducible repeat (first | refine blk_drewN ?_ _ | refine blk_drew ?_ | refine blk_alloc ?_ _)); refine blk_far ?_ NB239_243.out _; (with_reducible repeat (first | refine blk_drewN ?_ _ | refine blk_drew ?_ | refine blk_alloc ?_ _)); refine blk_far ?_ NB239_243.out _; (with_reducible repeat (first | refine blk_drewN ?_ _ | refine blk_drew ?_ | refine blk_alloc ?_ _)); refine blk_far ?_ NB239_243.out _; (with_reducible repeat (first | refine blk_drewN ?_ _ | refine blk_drew ?_ | refine blk_alloc ?_ _)); refine blk_far ?_ NB239_243.out _; (with_reducible repeat (first | refine blk_drewN ?_ _ | refine blk_drew ?_ | refine blk_alloc ?_ _)); refine blk_far ?_ NB239_243.out _; (with_reducible repeat (first | refine blk_drewN ?_ _ | refine blk_drew ?_ | refine blk_alloc ?_ _)); exact BK239.out) hg (Kd.R_ne HO_242001.out BK239.out (by decide))); have n2_ := Aside0.mk (blk_grown (g := gb241) (o := .cells #[.int .i64 t240, u242001, u242002] 27 (0, 0)) (by (with_reducible repeat (first | refine blk_drewN ?_ _ | refine blk_drew ?_ | refine blk_alloc ?_ _)); refine blk_far ?_ NB241_243.out _; (with_reducible repeat (first | refine blk_drewN ?_ _ | refine blk_drew ?_ | refine blk_alloc ?_ _)); refine blk_far ?_ NB241_243.out _; (with_reducible repeat (first | refine blk_drewN ?_ _ | refine blk_drew ?_ | refine blk_alloc ?_ _)); refine blk_far ?_ NB241_243.out _; (with_reducible repeat (first | refine blk_drewN ?_ _ | refine blk_drew ?_ | refine blk_alloc ?_ _)); refine blk_far ?_ NB241_243.out _; (with_reducible repeat (first | refine blk_drewN ?_ _ | refine blk_drew ?_ | refine blk_alloc ?_ _)); refine blk_far ?_ NB241_243.out _; (with_reducible repeat (first | refine blk_drewN ?_ _ | refine blk_drew ?_ | refine blk_alloc ?_ _)); refine blk_far ?_ NB241_243.out _; (with_reducible repeat (first | refine blk_drewN ?_ _ | refine blk_drew ?_ | refine blk_alloc ?_ _)); refine blk_far ?_ NB241_243.out _; (with_reducible repeat (first | refine blk_drewN ?_ _ | refine blk_drew ?_ | refine blk_alloc ?_ _)); refine blk_far ?_ NB241_243.out _; (with_reducible repeat (first | refine blk_drewN ?_ _ | refine blk_drew ?_ | refine blk_alloc ?_ _)); exact BK241.out) hg (Kd.R_ne HO_242001.out BK241.out (by decide))); have n3_ := Aside0.mk (blk_grown (g := gb243) (o := .cells #[.int .i64 ((rd_T67 l0 x15_1).f0), .int .i64 ((rd_T67 l0 x15_1).f1), .int .i64 ((rd_T67 l0 x15_1).f2), .int .i64 ((rd_T67 l0 x15_1).f3), .int .i64 (wrap64 (((rd_T67 l0 x15_1).f4) - 1)), .int .i64 ((rd_T67 l0 x15_1).f5), .int .i64 ((rd_T67 l0 x15_1).f6)] 67 (0, 0)) (by (with_reducible repeat (first | refine blk_drewN ?_ _ | refine blk_drew ?_ | refine blk_alloc ?_ _)); refine blk_put (cs := #[.int .i64 ((rd_T67 l0 x15_1).f0), .int .i64 ((rd_T67 l0 x15_1).f1), .int .i64 ((rd_T67 l0 x15_1).f2), .int .i64 ((rd_T67 l0 x15_1).f3), .int .i64 ((rd_T67 l0 x15_1).f4), .int .i64 ((rd_T67 l0 x15_1).f5), .int .i64 ((rd_T67 l0 x15_1).f6)]) ?_ 4 _ rfl; (with_reducible repeat (first | refine blk_drewN ?_ _ | refine blk_drew ?_ | refine blk_alloc ?_ _)); refine blk_put (cs := #[.int .i64 ((rd_T67 l0 x15_1).f0), .int .i64 ((rd_T67 l0 x15_1).f1), .int .i64 ((rd_T67 l0 x15_1).f2), .int .i64 ((rd_T67 l0 x15_1).f3), .int .i64 ((rd_T67 l0 x15_1).f4), .int .i64 ((rd_T67 l0 x15_1).f5), .int .i64 0]) ?_ 6 _ rfl; (with_reducible repeat (first | refine blk_drewN ?_ _ | refine blk_drew ?_ | refine blk_alloc ?_ _)); refine blk_put (cs := #[.int .i64 ((rd_T67 l0 x15_1).f0), .int .i64 ((rd_T67 l0 x15_1).f1), .int .i64 ((rd_T67 l0 x15_1).f2), .int .i64 ((rd_T67 l0 x15_1).f3), .int .i64 ((rd_T67 l0 x15_1).f4), .int .i64 0, .int .i64 0]) ?_ 5 _ rfl; (with_reducible repeat (first | refine blk_drewN ?_ _ | refine blk_drew ?_ | refine blk_alloc ?_ _)); refine blk_put (cs := #[.int .i64 ((rd_T67 l0 x15_1).f0), .int .i64 ((rd_T67 l0 x15_1).f1), .int .i64 ((rd_T67 l0 x15_1).f2), .int .i64 ((rd_T67 l0 x15_1).f3), .int .i64 0, .int .i64 0, .int .i64 0]) ?_ 4 _ rfl; (with_reducible repeat (first | refine blk_drewN ?_ _ | refine blk_drew ?_ | refine blk_alloc ?_ _)); refine blk_put (cs := #[.int .i64 ((rd_T67 l0 x15_1).f0), .int .i64 ((rd_T67 l0 x15_1).f1), .int .i64 ((rd_T67 l0 x15_1).f2), .int .i64 0, .int .i64 0, .int .i64 0, .int .i64 0]) ?_ 3 _ rfl; (with_reducible repeat (first | refine blk_drewN ?_ _ | refine blk_drew ?_ | refine blk_alloc ?_ _)); refine blk_put (cs := #[.int .i64 ((rd_T67 l0 x15_1).f0), .int .i64 ((rd_T67 l0 x15_1).f1), .int .i64 0, .int .i64 0, .int .i64 0, .int .i64 0, .int .i64 0]) ?_ 2 _ rfl; (with_reducible repeat (first | refine blk_drewN ?_ _ | refine blk_drew ?_ | refine blk_alloc ?_ _)); refine blk_put (cs := #[.int .i64 ((rd_T67 l0 x15_1).f0), .int .i64 0, .int .i64 0, .int .i64 0, .int .i64 0, .int .i64 0, .int .i64 0]) ?_ 1 _ rfl; (with_reducible repeat (first | refine blk_drewN ?_ _ | refine blk_drew ?_ | refine blk_alloc ?_ _)); refine blk_put (cs := #[.int .i64 0, .int .i64 0, .int .i64 0, .int .i64 0, .int .i64 0, .int .i64 0, .int .i64 0]) ?_ 0 _ rfl; (with_reducible repeat (first | refine blk_drewN ?_ _ | refine blk_drew ?_ | refine blk_alloc ?_ _)); exact BK243.out) hg (Kd.R_away HO_242001.out (fun _ hk => hk.2))); have n4_ := Aside0.mk (hb); have n5_ := Aside0.mk (ho); clear HO_242002; clear BK239; clear BK241; clear BK243; clear HB; clear HO_242001; have HO_242002 := n0_; have BK239 := n1_; have BK241 := n2_; have BK243 := n3_; have HB := n4_; have HO246 := n5_; clear n0_ n1_ n2_ n3_ n4_ n5_; clear ho hb hg hat; obtain ⟨Ao21, co21, eo21⟩ := Kd.R_slice HO246.out; subst eo21; have hcz22_0 : w20.cell? ⟨gb241, 0, none⟩ = some (.int .i64 t240) := (blk_cell BK241.out 0).trans rfl; have hcz22_1 : w20.cell? ⟨gb241, 1, none⟩ = some (u242001) := (blk_cell BK241.out 1).trans rfl; have hcz22_2 : w20.cell? ⟨gb241, 2, none⟩ = some (u242002) := (blk_cell BK241.out 2).trans rfl; have hfz22_0 := blk_frozen BK241.out 0; have hfz22_1 := blk_frozen BK241.out 1; have hfz22_2 := blk_frozen BK241.out 2))
                  go_roundg k1
                  case measure => have := HK1.out; omega
                  case rel => exact ⟨(wrap64 (x15_1 + 1)), (y244), (x242002_1), (.slice Ao21 y244.length co21), (u242002), (by first | rfl | (simp; done) | (simp [*]; done)), H', ⟨by have := HK1.out; omega⟩, ⟨by (with_reducible repeat (first | apply Kd.R_alloc | apply Kd.R_drewN | apply Kd.R_drew)); exact Kd.R_mono (Kd.R_far (p := ⟨gb241, 1, none⟩) (Kd.R_types HO246.out BK241.out (by decide)) (fun _ hk => hk.2) (.slice Ao21 y244.length co21)) (fun _ hk => hk.1.1)⟩, ⟨by (with_reducible repeat (first | apply Kd.R_alloc | apply Kd.R_drewN | apply Kd.R_drew)); exact Kd.R_mono (Kd.R_far (p := ⟨gb241, 1, none⟩) (Kd.R_types HO_242002.out BK241.out (by decide)) (fun _ hk => hk.2) (.slice Ao21 y244.length co21)) (fun _ hk => hk.1.2)⟩, ⟨by (with_reducible repeat (first | refine blk_drewN ?_ _ | refine blk_drew ?_ | refine blk_alloc ?_ _)); refine blk_far ?_ NB239_241.out _; (with_reducible repeat (first | refine blk_drewN ?_ _ | refine blk_drew ?_ | refine blk_alloc ?_ _)); exact BK239.out⟩, ⟨by (with_reducible repeat (first | refine blk_drewN ?_ _ | refine blk_drew ?_ | refine blk_alloc ?_ _)); refine blk_put (cs := #[.int .i64 t240, u242001, u242002]) ?_ 1 _ rfl; (with_reducible repeat (first | refine blk_drewN ?_ _ | refine blk_drew ?_ | refine blk_alloc ?_ _)); exact BK241.out⟩, ⟨by repeat (first | (with_reducible first | exact HB.out | apply below_alloc | apply pw_below_drewN | apply below_drew1 | refine below_set ?_ GE239.out | refine below_set ?_ GE241.out | refine below_set ?_ GE243.out) | exact HB.out)⟩⟩
                · rw [if_neg c13] at H
                  exact absurd H (by simp)
              · rw [if_neg c12] at H
                have c12b0 : decide (0 < (wrap64 (((rd_T67 l0 x15_1).f4) - 1))) = false := decide_eq_false c12
                (try (have c12b1 : decide (0 < (IntKind.i64.wrap (((rd_T67 l0 x15_1).f4) - 1))) = false := by simp only [i64_w]; exact decide_eq_false c12))
                clear c12
                by_cases c23 : x242002_1.length < 2513169434916
                · rw [if_pos c23] at H
                  have LMc23 := Aside0.mk c23
                  clear c23
                  obtain ⟨y247, hy247⟩ : ∃ y_ : List (S67), y_ = (x242002_1 ++ [(⟨(rd_T67 l0 x15_1).f0, (rd_T67 l0 x15_1).f1, (rd_T67 l0 x15_1).f2, (rd_T67 l0 x15_1).f3, wrap64 (((rd_T67 l0 x15_1).f4) - 1), (rd_T67 l0 x15_1).f5, (rd_T67 l0 x15_1).f6⟩ : S67)]) := ⟨_, rfl⟩
                  replace H : (impl_AgeWaits.l0 k1 l0 (l0.length : Int) (wrap64 (x15_1 + 1)) t240 x242001_1 y247) = some (r1, r2, r3) := by first | (rw [hy247]; with_reducible exact H) | (have H2_ := (Option.bind_some _ _).symm.trans H; rw [hy247]; with_reducible exact H2_) | (have H2_ := (Option.bind_some _ _).symm.trans H; with_reducible exact H2_) | with_reducible exact H | (rw [hy247]; exact H) | exact H
                  have Ny247 := Aside0.mk hy247
                  clear hy247
                  have H' := Aside0.mk H
                  clear H
                  have p242 : 0 ≤ (x15_1 : Int) := of_decide_eq_true (by first | (with_reducible assumption) | assumption)
                  have q242 : x15_1 < (l0.length : Int) := of_decide_eq_true (by first | (with_reducible assumption) | assumption)
                  obtain ⟨ad242, e242, hx242_0, hx242_1, hx242_2, hx242_3, hx242_4, hx242_5, hx242_6⟩ := at_T67 HR0.out x15_1 p242 q242
                  cases e242
                  replace hx242_0 := (HB.out.cell (World.block_lt_of_cell? w _ hx242_0)).trans hx242_0
                  replace hx242_1 := (HB.out.cell (World.block_lt_of_cell? w _ hx242_1)).trans hx242_1
                  replace hx242_2 := (HB.out.cell (World.block_lt_of_cell? w _ hx242_2)).trans hx242_2
                  replace hx242_3 := (HB.out.cell (World.block_lt_of_cell? w _ hx242_3)).trans hx242_3
                  replace hx242_4 := (HB.out.cell (World.block_lt_of_cell? w _ hx242_4)).trans hx242_4
                  replace hx242_5 := (HB.out.cell (World.block_lt_of_cell? w _ hx242_5)).trans hx242_5
                  replace hx242_6 := (HB.out.cell (World.block_lt_of_cell? w _ hx242_6)).trans hx242_6
                  replace p242 := eq_true p242
                  replace q242 := eq_true q242
                  go_wp2_with (first | ((with_reducible refine gate_dst (N := 5) rfl ?_); refine box_event ?hg (N := 5) ?hd (cs := #[.int .i64 0, .int .i64 0, .int .i64 0, .int .i64 0, .int .i64 0, .int .i64 0, .int .i64 0]) (t := 67) ?hr ?_; (case hd => rfl); (case hg => rfl); (case hr => first | (go_simp; done) | (go_simp; rfl)); intro gb243 hg w24 hbox hb; have n0_ := Aside0.mk (Kd.R_below (Kd.R_elderB (by (with_reducible repeat (first | apply Kd.R_alloc | apply Kd.R_drewN | apply Kd.R_drew)); exact HO_242001.out) gb243 (Nat.le_of_eq hg.symm)) hb); have n1_ := Aside0.mk (Kd.R_below (Kd.R_elderB (by (with_reducible repeat (first | apply Kd.R_alloc | apply Kd.R_drewN | apply Kd.R_drew)); exact HO_242002.out) gb243 (Nat.le_of_eq hg.symm)) hb); have n2_ := Aside0.mk (blk_below (g := gb239) (o := .cells #[.int .i64 0, .slice none 0 0, .slice none 0 0] 27 (0, 0)) (by (with_reducible repeat (first | refine blk_drewN ?_ _ | refine blk_drew ?_ | refine blk_alloc ?_ _)); exact BK239.out) hb); have n3_ := Aside0.mk (blk_below (g := gb241) (o := .cells #[.int .i64 t240, u242001, u242002] 27 (0, 0)) (by (with_reducible repeat (first | refine blk_drewN ?_ _ | refine blk_drew ?_ | refine blk_alloc ?_ _)); exact BK241.out) hb); have n4_ := Aside0.mk (below_step (by repeat (first | (with_reducible first | exact HB.out | apply below_alloc | apply pw_below_drewN | apply below_drew1 | refine below_set ?_ GE239.out | refine below_set ?_ GE241.out) | exact HB.out)) hb); have n5_ := Aside0.mk (hbox); have n6_ := Aside0.mk ((by rw [hg]; exact (below_size (by repeat (first | (with_reducible first | exact HB.out | apply below_alloc | apply pw_below_drewN | apply below_drew1 | refine below_set ?_ GE239.out | refine below_set ?_ GE241.out) | exact HB.out))) : w.heap.size ≤ gb243)); have n7_ := Aside0.mk ((by rw [hg]; exact (below_size (by repeat (first | (with_reducible first | exact HB.out | apply below_alloc | apply pw_below_drewN | apply below_drew1 | refine below_set ?_ GE239.out | refine below_set ?_ GE241.out) | exact HB.out))) : w.heap.size ≤ gb243)); have n8_ := Aside0.mk ((by rw [hg]; exact Nat.ne_of_lt (blk_lt (g := gb239) (o := .cells #[.int .i64 0, .slice none 0 0, .slice none 0 0] 27 (0, 0)) (by (with_reducible repeat (first | refine blk_drewN ?_ _ | refine blk_drew ?_ | refine blk_alloc ?_ _)); exact BK239.out)) : gb239 ≠ gb243)); have n9_ := Aside0.mk ((by rw [hg]; exact Nat.ne_of_gt (blk_lt (g := gb239) (o := .cells #[.int .i64 0, .slice none 0 0, .slice none 0 0] 27 (0, 0)) (by (with_reducible repeat (first | refine blk_drewN ?_ _ | refine blk_drew ?_ | refine blk_alloc ?_ _)); exact BK239.out)) : gb243 ≠ gb239)); have n10_ := Aside0.mk ((by rw [hg]; exact Nat.ne_of_lt (blk_lt (g := gb241) (o := .cells #[.int .i64 t240, u242001, u242002] 27 (0, 0)) (by (with_reducible repeat (first | refine blk_drewN ?_ _ | refine blk_drew ?_ | refine blk_alloc ?_ _)); exact BK241.out)) : gb241 ≠ gb243)); have n11_ := Aside0.mk ((by rw [hg]; exact Nat.ne_of_gt (blk_lt (g := gb241) (o := .cells #[.int .i64 t240, u242001, u242002] 27 (0, 0)) (by (with_reducible repeat (first | refine blk_drewN ?_ _ | refine blk_drew ?_ | refine blk_alloc ?_ _)); exact BK241.out)) : gb243 ≠ gb241)); clear HO_242001; clear HO_242002; clear BK239; clear BK241; clear HB; have HO_242001 := n0_; have HO_242002 := n1_; have BK239 := n2_; have BK241 := n3_; have HB := n4_; have BK243 := n5_; have GW243 := n6_; have GE243 := n7_; have NB239_243 := n8_; have NB243_239 := n9_; have NB241_243 := n10_; have NB243_241 := n11_; clear n0_ n1_ n2_ n3_ n4_ n5_ n6_ n7_ n8_ n9_ n10_ n11_; clear hb hbox hg; have hnb25 := NB243_239.out; have hnc25 := NB239_243.out; have hnb26 := NB243_241.out; have hnc26 := NB241_243.out; have hcz27_0 : w24.cell? ⟨gb243, 0, none⟩ = some (.int .i64 0) := (blk_cell BK243.out 0).trans rfl; have hcz27_1 : w24.cell? ⟨gb243, 1, none⟩ = some (.int .i64 0) := (blk_cell BK243.out 1).trans rfl; have hcz27_2 : w24.cell? ⟨gb243, 2, none⟩ = some (.int .i64 0) := (blk_cell BK243.out 2).trans rfl; have hcz27_3 : w24.cell? ⟨gb243, 3, none⟩ = some (.int .i64 0) := (blk_cell BK243.out 3).trans rfl; have hcz27_4 : w24.cell? ⟨gb243, 4, none⟩ = some (.int .i64 0) := (blk_cell BK243.out 4).trans rfl; have hcz27_5 : w24.cell? ⟨gb243, 5, none⟩ = some (.int .i64 0) := (blk_cell BK243.out 5).trans rfl; have hcz27_6 : w24.cell? ⟨gb243, 6, none⟩ = some (.int .i64 0) := (blk_cell BK243.out 6).trans rfl; have hfz27_0 := blk_frozen BK243.out 0; have hfz27_1 := blk_frozen BK243.out 1; have hfz27_2 := blk_frozen BK243.out 2; have hfz27_3 := blk_frozen BK243.out 3; have hfz27_4 := blk_frozen BK243.out 4; have hfz27_5 := blk_frozen BK243.out 5; have hfz27_6 := blk_frozen BK243.out 6; have hnb28 := NB241_239.out; have hnc28 := NB239_241.out; have hcz29_0 : w24.cell? ⟨gb241, 0, none⟩ = some (.int .i64 t240) := (blk_cell BK241.out 0).trans rfl; have hcz29_1 : w24.cell? ⟨gb241, 1, none⟩ = some (u242001) := (blk_cell BK241.out 1).trans rfl; have hcz29_2 : w24.cell? ⟨gb241, 2, none⟩ = some (u242002) := (blk_cell BK241.out 2).trans rfl; have hfz29_0 := blk_frozen BK241.out 0; have hfz29_1 := blk_frozen BK241.out 1; have hfz29_2 := blk_frozen BK241.out 2) | ((with_reducible refine gate_builtin (b := .append) (xs := #[.tmp 33, .tmp 35]) rfl ?_); at_builtin; refine Kd.R_append k67 (w0 := w) w.heap.size rfl (.tmp 33) (.tmp 35) 24 67 (.agg #[(.int .i64 0), (.int .i64 0), (.int .i64 0), (.int .i64 0), (.int .i64 0), (.int .i64 0), (.int .i64 0)]) 56 rfl Try.underlying24 info67 rfl (by decide) (by omega) u242002 x242002_1 (⟨(rd_T67 l0 x15_1).f0, (rd_T67 l0 x15_1).f1, (rd_T67 l0 x15_1).f2, (rd_T67 l0 x15_1).f3, wrap64 (((rd_T67 l0 x15_1).f4) - 1), (rd_T67 l0 x15_1).f5, (rd_T67 l0 x15_1).f6⟩ : S67) [.int .i64 ((rd_T67 l0 x15_1).f0), .int .i64 ((rd_T67 l0 x15_1).f1), .int .i64 ((rd_T67 l0 x15_1).f2), .int .i64 ((rd_T67 l0 x15_1).f3), .int .i64 (wrap64 (((rd_T67 l0 x15_1).f4) - 1)), .int .i64 ((rd_T67 l0 x15_1).f5), .int .i64 ((rd_T67 l0 x15_1).f6)] (fun k_ => some k_ ≠ (u242001 : Value).ownBlock ∧ k_ ≠ gb243) (fun _ => False) rfl (by first | (go_simp; done) | (go_simp; rfl)) ?aP (fun _ hk => hk.elim) ?aF ?aO ?aB ?aS ?aL ?_; (case aP => exact k67_mkM _ _ _ (⟨(rd_T67 l0 x15_1).f0, (rd_T67 l0 x15_1).f1, (rd_T67 l0 x15_1).f2, (rd_T67 l0 x15_1).f3, wrap64 (((rd_T67 l0 x15_1).f4) - 1), (rd_T67 l0 x15_1).f5, (rd_T67 l0 x15_1).f6⟩ : S67)); (case aB => exact (by repeat (first | (with_reducible first | exact HB.out | apply below_alloc | apply pw_below_drewN | apply below_drew1 | refine below_set ?_ GE239.out | refine below_set ?_ GE241.out | refine below_set ?_ GE243.out) | exact HB.out))); (case aF => exact (fun k_ hk => ⟨Kd.fresh' (Kd.R_lt (by (with_reducible repeat (first | apply Kd.R_alloc | apply Kd.R_drewN | apply Kd.R_drew)); exact (Kd.R_mono (Kd.R_far (p := ⟨gb243, 4, none⟩) (Kd.R_far (p := ⟨gb243, 6, none⟩) (Kd.R_far (p := ⟨gb243, 5, none⟩) (Kd.R_far (p := ⟨gb243, 4, none⟩) (Kd.R_far (p := ⟨gb243, 3, none⟩) (Kd.R_far (p := ⟨gb243, 2, none⟩) (Kd.R_far (p := ⟨gb243, 1, none⟩) (Kd.R_far (p := ⟨gb243, 0, none⟩) (Kd.R_mono HO_242001.out (fun k_ hk => (⟨hk, hk.2⟩ : _ ∧ k_ ≠ gb243))) (fun _ hk => hk.2) (.int .i64 ((rd_T67 l0 x15_1).f0))) (fun _ hk => hk.2) (.int .i64 ((rd_T67 l0 x15_1).f1))) (fun _ hk => hk.2) (.int .i64 ((rd_T67 l0 x15_1).f2))) (fun _ hk => hk.2) (.int .i64 ((rd_T67 l0 x15_1).f3))) (fun _ hk => hk.2) (.int .i64 ((rd_T67 l0 x15_1).f4))) (fun _ hk => hk.2) (.int .i64 ((rd_T67 l0 x15_1).f5))) (fun _ hk => hk.2) (.int .i64 ((rd_T67 l0 x15_1).f6))) (fun _ hk => hk.2) (.int .i64 (wrap64 (((rd_T67 l0 x15_1).f4) - 1)))) (fun _ h_ => h_.1)))) k_ hk, Kd.freshB (g := gb243) (o := .cells #[.int .i64 ((rd_T67 l0 x15_1).f0), .int .i64 ((rd_T67 l0 x15_1).f1), .int .i64 ((rd_T67 l0 x15_1).f2), .int .i64 ((rd_T67 l0 x15_1).f3), .int .i64 (wrap64 (((rd_T67 l0 x15_1).f4) - 1)), .int .i64 ((rd_T67 l0 x15_1).f5), .int .i64 ((rd_T67 l0 x15_1).f6)] 67 (0, 0)) (by (with_reducible repeat (first | refine blk_drewN ?_ _ | refine blk_drew ?_ | refine blk_alloc ?_ _)); refine blk_put (cs := #[.int .i64 ((rd_T67 l0 x15_1).f0), .int .i64 ((rd_T67 l0 x15_1).f1), .int .i64 ((rd_T67 l0 x15_1).f2), .int .i64 ((rd_T67 l0 x15_1).f3), .int .i64 ((rd_T67 l0 x15_1).f4), .int .i64 ((rd_T67 l0 x15_1).f5), .int .i64 ((rd_T67 l0 x15_1).f6)]) ?_ 4 _ rfl; (with_reducible repeat (first | refine blk_drewN ?_ _ | refine blk_drew ?_ | refine blk_alloc ?_ _)); refine blk_put (cs := #[.int .i64 ((rd_T67 l0 x15_1).f0), .int .i64 ((rd_T67 l0 x15_1).f1), .int .i64 ((rd_T67 l0 x15_1).f2), .int .i64 ((rd_T67 l0 x15_1).f3), .int .i64 ((rd_T67 l0 x15_1).f4), .int .i64 ((rd_T67 l0 x15_1).f5), .int .i64 0]) ?_ 6 _ rfl; (with_reducible repeat (first | refine blk_drewN ?_ _ | refine blk_drew ?_ | refine blk_alloc ?_ _)); refine blk_put (cs := #[.int .i64 ((rd_T67 l0 x15_1).f0), .int .i64 ((rd_T67 l0 x15_1).f1), .int .i64 ((rd_T67 l0 x15_1).f2), .int .i64 ((rd_T67 l0 x15_1).f3), .int .i64 ((rd_T67 l0 x15_1).f4), .int .i64 0, .int .i64 0]) ?_ 5 _ rfl; (with_reducible repeat (first | refine blk_drewN ?_ _ | refine blk_drew ?_ | refine blk_alloc ?_ _)); refine blk_put (cs := #[.int .i64 ((rd_T67 l0 x15_1).f0), .int .i64 ((rd_T67 l0 x15_1).f1), .int .i64 ((rd_T67 l0 x15_1).f2), .int .i64 ((rd_T67 l0 x15_1).f3), .int .i64 0, .int .i64 0, .int .i64 0]) ?_ 4 _ rfl; (with_reducible repeat (first | refine blk_drewN ?_ _ | refine blk_drew ?_ | refine blk_alloc ?_ _)); refine blk_put (cs := #[.int .i64 ((rd_T67 l0 x15_1).f0), .int .i64 ((rd_T67 l0 x15_1).f1), .int .i64 ((rd_T67 l0 x15_1).f2), .int .i64 0, .int .i64 0, .int .i64 0, .int .i64 0]) ?_ 3 _ rfl; (with_reducible repeat (first | refine blk_drewN ?_ _ | refine blk_drew ?_ | refine blk_alloc ?_ _)); refine blk_put (cs := #[.int .i64 ((rd_T67 l0 x15_1).f0), .int .i64 ((rd_T67 l0 x15_1).f1), .int .i64 0, .int .i64 0, .int .i64 0, .int .i64 0, .int .i64 0]) ?_ 2 _ rfl; (with_reducible repeat (first | refine blk_drewN ?_ _ | refine blk_drew ?_ | refine blk_alloc ?_ _)); refine blk_put (cs := #[.int .i64 ((rd_T67 l0 x15_1).f0), .int .i64 0, .int .i64 0, .int .i64 0, .int .i64 0, .int .i64 0, .int .i64 0]) ?_ 1 _ rfl; (with_reducible repeat (first | refine blk_drewN ?_ _ | refine blk_drew ?_ | refine blk_alloc ?_ _)); refine blk_put (cs := #[.int .i64 0, .int .i64 0, .int .i64 0, .int .i64 0, .int .i64 0, .int .i64 0, .int .i64 0]) ?_ 0 _ rfl; (with_reducible repeat (first | refine blk_drewN ?_ _ | refine blk_drew ?_ | refine blk_alloc ?_ _)); exact BK243.out) k_ hk⟩)); (case aO => exact (by (with_reducible repeat (first | apply Kd.R_alloc | apply Kd.R_drewN | apply Kd.R_drew)); exact Kd.R_mono (Kd.R_far (p := ⟨gb243, 4, none⟩) (Kd.R_far (p := ⟨gb243, 6, none⟩) (Kd.R_far (p := ⟨gb243, 5, none⟩) (Kd.R_far (p := ⟨gb243, 4, none⟩) (Kd.R_far (p := ⟨gb243, 3, none⟩) (Kd.R_far (p := ⟨gb243, 2, none⟩) (Kd.R_far (p := ⟨gb243, 1, none⟩) (Kd.R_far (p := ⟨gb243, 0, none⟩) (Kd.R_mono HO_242002.out (fun k_ hk => (⟨hk, hk.2⟩ : _ ∧ k_ ≠ gb243))) (fun _ hk => hk.2) (.int .i64 ((rd_T67 l0 x15_1).f0))) (fun _ hk => hk.2) (.int .i64 ((rd_T67 l0 x15_1).f1))) (fun _ hk => hk.2) (.int .i64 ((rd_T67 l0 x15_1).f2))) (fun _ hk => hk.2) (.int .i64 ((rd_T67 l0 x15_1).f3))) (fun _ hk => hk.2) (.int .i64 ((rd_T67 l0 x15_1).f4))) (fun _ hk => hk.2) (.int .i64 ((rd_T67 l0 x15_1).f5))) (fun _ hk => hk.2) (.int .i64 ((rd_T67 l0 x15_1).f6))) (fun _ hk => hk.2) (.int .i64 (wrap64 (((rd_T67 l0 x15_1).f4) - 1)))) (fun _ hk => ⟨hk.1.1, hk.1.2⟩))); (case aS => exact (below_size (by repeat (first | (with_reducible first | exact HB.out | apply below_alloc | apply pw_below_drewN | apply below_drew1 | refine below_set ?_ GE239.out | refine below_set ?_ GE241.out | refine below_set ?_ GE243.out) | exact HB.out)))); (case aL => have := LMc23.out; omega); intro v248 w30 ho hb hg hat; rw [← Ny247.out] at ho; have n0_ := Aside0.mk (Kd.R_after (ok := (fun k_ => k_ ≠ gb243)) (by (with_reducible repeat (first | apply Kd.R_alloc | apply Kd.R_drewN | apply Kd.R_drew)); exact Kd.R_mono (Kd.R_far (p := ⟨gb243, 4, none⟩) (Kd.R_far (p := ⟨gb243, 6, none⟩) (Kd.R_far (p := ⟨gb243, 5, none⟩) (Kd.R_far (p := ⟨gb243, 4, none⟩) (Kd.R_far (p := ⟨gb243, 3, none⟩) (Kd.R_far (p := ⟨gb243, 2, none⟩) (Kd.R_far (p := ⟨gb243, 1, none⟩) (Kd.R_far (p := ⟨gb243, 0, none⟩) (Kd.R_mono HO_242001.out (fun k_ hk => (⟨hk, hk.2⟩ : _ ∧ k_ ≠ gb243))) (fun _ hk => hk.2) (.int .i64 ((rd_T67 l0 x15_1).f0))) (fun _ hk => hk.2) (.int .i64 ((rd_T67 l0 x15_1).f1))) (fun _ hk => hk.2) (.int .i64 ((rd_T67 l0 x15_1).f2))) (fun _ hk => hk.2) (.int .i64 ((rd_T67 l0 x15_1).f3))) (fun _ hk => hk.2) (.int .i64 ((rd_T67 l0 x15_1).f4))) (fun _ hk => hk.2) (.int .i64 ((rd_T67 l0 x15_1).f5))) (fun _ hk => hk.2) (.int .i64 ((rd_T67 l0 x15_1).f6))) (fun _ hk => hk.2) (.int .i64 (wrap64 (((rd_T67 l0 x15_1).f4) - 1)))) (fun _ hk => ⟨hk.1.2, hk.1.1⟩)) hg hat); have n1_ := Aside0.mk (blk_grown (g := gb239) (o := .cells #[.int .i64 0, .slice none 0 0, .slice none 0 0] 27 (0, 0)) (by (with_reducible repeat (first | refine blk_drewN ?_ _ | refine blk_drew ?_ | refine blk_alloc ?_ _)); refine blk_far ?_ NB239_243.out _; (with_reducible repeat (first | refine blk_drewN ?_ _ | refine blk_drew ?_ | refine blk_alloc ?_ _)); refine blk_far ?_ NB239_243.out _; (with_reducible repeat (first | refine blk_drewN ?_ _ | refine blk_drew ?_ | refine blk_alloc ?_ _)); refine blk_far ?_ NB239_243.out _; (with_reducible repeat (first | refine blk_drewN ?_ _ | refine blk_drew ?_ | refine blk_alloc ?_ _)); refine blk_far ?_ NB239_243.out _; (with_reducible repeat (first | refine blk_drewN ?_ _ | refine blk_drew ?_ | refine blk_alloc ?_ _)); refine blk_far ?_ NB239_243.out _; (with_reducible repeat (first | refine blk_drewN ?_ _ | refine blk_drew ?_ | refine blk_alloc ?_ _)); refine blk_far ?_ NB239_243.out _; (with_reducible repeat (first | refine blk_drewN ?_ _ | refine blk_drew ?_ | refine blk_alloc ?_ _)); refine blk_far ?_ NB239_243.out _; (with_reducible repeat (first | refine blk_drewN ?_ _ | refine blk_drew ?_ | refine blk_alloc ?_ _)); refine blk_far ?_ NB239_243.out _; (with_reducible repeat (first | refine blk_drewN ?_ _ | refine blk_drew ?_ | refine blk_alloc ?_ _)); exact BK239.out) hg (Kd.R_ne HO_242002.out BK239.out (by decide))); have n2_ := Aside0.mk (blk_grown (g := gb241) (o := .cells #[.int .i64 t240, u242001, u242002] 27 (0, 0)) (by (with_reducible repeat (first | refine blk_drewN ?_ _ | refine blk_drew ?_ | refine blk_alloc ?_ _)); refine blk_far ?_ NB241_243.out _; (with_reducible repeat (first | refine blk_drewN ?_ _ | refine blk_drew ?_ | refine blk_alloc ?_ _)); refine blk_far ?_ NB241_243.out _; (with_reducible repeat (first | refine blk_drewN ?_ _ | refine blk_drew ?_ | refine blk_alloc ?_ _)); refine blk_far ?_ NB241_243.out _; (with_reducible repeat (first | refine blk_drewN ?_ _ | refine blk_drew ?_ | refine blk_alloc ?_ _)); refine blk_far ?_ NB241_243.out _; (with_reducible repeat (first | refine blk_drewN ?_ _ | refine blk_drew ?_ | refine blk_alloc ?_ _)); refine blk_far ?_ NB241_243.out _; (with_reducible repeat (first | refine blk_drewN ?_ _ | refine blk_drew ?_ | refine blk_alloc ?_ _)); refine blk_far ?_ NB241_243.out _; (with_reducible repeat (first | refine blk_drewN ?_ _ | refine blk_drew ?_ | refine blk_alloc ?_ _)); refine blk_far ?_ NB241_243.out _; (with_reducible repeat (first | refine blk_drewN ?_ _ | refine blk_drew ?_ | refine blk_alloc ?_ _)); refine blk_far ?_ NB241_243.out _; (with_reducible repeat (first | refine blk_drewN ?_ _ | refine blk_drew ?_ | refine blk_alloc ?_ _)); exact BK241.out) hg (Kd.R_ne HO_242002.out BK241.out (by decide))); have n3_ := Aside0.mk (blk_grown (g := gb243) (o := .cells #[.int .i64 ((rd_T67 l0 x15_1).f0), .int .i64 ((rd_T67 l0 x15_1).f1), .int .i64 ((rd_T67 l0 x15_1).f2), .int .i64 ((rd_T67 l0 x15_1).f3), .int .i64 (wrap64 (((rd_T67 l0 x15_1).f4) - 1)), .int .i64 ((rd_T67 l0 x15_1).f5), .int .i64 ((rd_T67 l0 x15_1).f6)] 67 (0, 0)) (by (with_reducible repeat (first | refine blk_drewN ?_ _ | refine blk_drew ?_ | refine blk_alloc ?_ _)); refine blk_put (cs := #[.int .i64 ((rd_T67 l0 x15_1).f0), .int .i64 ((rd_T67 l0 x15_1).f1), .int .i64 ((rd_T67 l0 x15_1).f2), .int .i64 ((rd_T67 l0 x15_1).f3), .int .i64 ((rd_T67 l0 x15_1).f4), .int .i64 ((rd_T67 l0 x15_1).f5), .int .i64 ((rd_T67 l0 x15_1).f6)]) ?_ 4 _ rfl; (with_reducible repeat (first | refine blk_drewN ?_ _ | refine blk_drew ?_ | refine blk_alloc ?_ _)); refine blk_put (cs := #[.int .i64 ((rd_T67 l0 x15_1).f0), .int .i64 ((rd_T67 l0 x15_1).f1), .int .i64 ((rd_T67 l0 x15_1).f2), .int .i64 ((rd_T67 l0 x15_1).f3), .int .i64 ((rd_T67 l0 x15_1).f4), .int .i64 ((rd_T67 l0 x15_1).f5), .int .i64 0]) ?_ 6 _ rfl; (with_reducible repeat (first | refine blk_drewN ?_ _ | refine blk_drew ?_ | refine blk_alloc ?_ _)); refine blk_put (cs := #[.int .i64 ((rd_T67 l0 x15_1).f0), .int .i64 ((rd_T67 l0 x15_1).f1), .int .i64 ((rd_T67 l0 x15_1).f2), .int .i64 ((rd_T67 l0 x15_1).f3), .int .i64 ((rd_T67 l0 x15_1).f4), .int .i64 0, .int .i64 0]) ?_ 5 _ rfl; (with_reducible repeat (first | refine blk_drewN ?_ _ | refine blk_drew ?_ | refine blk_alloc ?_ _)); refine blk_put (cs := #[.int .i64 ((rd_T67 l0 x15_1).f0), .int .i64 ((rd_T67 l0 x15_1).f1), .int .i64 ((rd_T67 l0 x15_1).f2), .int .i64 ((rd_T67 l0 x15_1).f3), .int .i64 0, .int .i64 0, .int .i64 0]) ?_ 4 _ rfl; (with_reducible repeat (first | refine blk_drewN ?_ _ | refine blk_drew ?_ | refine blk_alloc ?_ _)); refine blk_put (cs := #[.int .i64 ((rd_T67 l0 x15_1).f0), .int .i64 ((rd_T67 l0 x15_1).f1), .int .i64 ((rd_T67 l0 x15_1).f2), .int .i64 0, .int .i64 0, .int .i64 0, .int .i64 0]) ?_ 3 _ rfl; (with_reducible repeat (first | refine blk_drewN ?_ _ | refine blk_drew ?_ | refine blk_alloc ?_ _)); refine blk_put (cs := #[.int .i64 ((rd_T67 l0 x15_1).f0), .int .i64 ((rd_T67 l0 x15_1).f1), .int .i64 0, .int .i64 0, .int .i64 0, .int .i64 0, .int .i64 0]) ?_ 2 _ rfl; (with_reducible repeat (first | refine blk_drewN ?_ _ | refine blk_drew ?_ | refine blk_alloc ?_ _)); refine blk_put (cs := #[.int .i64 ((rd_T67 l0 x15_1).f0), .int .i64 0, .int .i64 0, .int .i64 0, .int .i64 0, .int .i64 0, .int .i64 0]) ?_ 1 _ rfl; (with_reducible repeat (first | refine blk_drewN ?_ _ | refine blk_drew ?_ | refine blk_alloc ?_ _)); refine blk_put (cs := #[.int .i64 0, .int .i64 0, .int .i64 0, .int .i64 0, .int .i64 0, .int .i64 0, .int .i64 0]) ?_ 0 _ rfl; (with_reducible repeat (first | refine blk_drewN ?_ _ | refine blk_drew ?_ | refine blk_alloc ?_ _)); exact BK243.out) hg (Kd.R_away HO_242002.out (fun _ hk => hk.2))); have n4_ := Aside0.mk (hb); have n5_ := Aside0.mk (ho); clear HO_242001; clear BK239; clear BK241; clear BK243; clear HB; clear HO_242002; have HO_242001 := n0_; have BK239 := n1_; have BK241 := n2_; have BK243 := n3_; have HB := n4_; have HO249 := n5_; clear n0_ n1_ n2_ n3_ n4_ n5_; clear ho hb hg hat; obtain ⟨Ao31, co31, eo31⟩ := Kd.R_slice HO249.out; subst eo31; have hcz32_0 : w30.cell? ⟨gb241, 0, none⟩ = some (.int .i64 t240) := (blk_cell BK241.out 0).trans rfl; have hcz32_1 : w30.cell? ⟨gb241, 1, none⟩ = some (u242001) := (blk_cell BK241.out 1).trans rfl; have hcz32_2 : w30.cell? ⟨gb241, 2, none⟩ = some (u242002) := (blk_cell BK241.out 2).trans rfl; have hfz32_0 := blk_frozen BK241.out 0; have hfz32_1 := blk_frozen BK241.out 1; have hfz32_2 := blk_frozen BK241.out 2))
                  go_roundg k1
                  case measure => have := HK1.out; omega
                  case rel => exact ⟨(wrap64 (x15_1 + 1)), (x242001_1), (y247), (u242001), (.slice Ao31 y247.length co31), (by first | rfl | (simp; done) | (simp [*]; done)), H', ⟨by have := HK1.out; omega⟩, ⟨by (with_reducible repeat (first | apply Kd.R_alloc | apply Kd.R_drewN | apply Kd.R_drew)); exact Kd.R_mono (Kd.R_far (p := ⟨gb241, 2, none⟩) (Kd.R_types HO_242001.out BK241.out (by decide)) (fun _ hk => hk.2) (.slice Ao31 y247.length co31)) (fun _ hk => hk.1.2)⟩, ⟨by (with_reducible repeat (first | apply Kd.R_alloc | apply Kd.R_drewN | apply Kd.R_drew)); exact Kd.R_mono (Kd.R_far (p := ⟨gb241, 2, none⟩) (Kd.R_types HO249.out BK241.out (by decide)) (fun _ hk => hk.2) (.slice Ao31 y247.length co31)) (fun _ hk => hk.1.1)⟩, ⟨by (with_reducible repeat (first | refine blk_drewN ?_ _ | refine blk_drew ?_ | refine blk_alloc ?_ _)); refine blk_far ?_ NB239_241.out _; (with_reducible repeat (first | refine blk_drewN ?_ _ | refine blk_drew ?_ | refine blk_alloc ?_ _)); exact BK239.out⟩, ⟨by (with_reducible repeat (first | refine blk_drewN ?_ _ | refine blk_drew ?_ | refine blk_alloc ?_ _)); refine blk_put (cs := #[.int .i64 t240, u242001, u242002]) ?_ 2 _ rfl; (with_reducible repeat (first | refine blk_drewN ?_ _ | refine blk_drew ?_ | refine blk_alloc ?_ _)); exact BK241.out⟩, ⟨by repeat (first | (with_reducible first | exact HB.out | apply below_alloc | apply pw_below_drewN | apply below_drew1 | refine below_set ?_ GE239.out | refine below_set ?_ GE241.out | refine below_set ?_ GE243.out) | exact HB.out)⟩⟩
                · rw [if_neg c23] at H
                  exact absurd H (by simp)
            · rw [if_neg c11] at H
              exact absurd H (by simp)
          · rw [if_neg c10] at H
            exact absurd H (by simp)
        · rw [if_neg c9] at H
          have c9b0 : decide (x15_1 < (l0.length : Int)) = false := decide_eq_false c9
          clear c9
          simp only [Option.some.injEq, Prod.mk.injEq] at H
          obtain ⟨rfl, rfl, rfl⟩ := H
          have hnb33 := NB241_239.out
          have hnc33 := NB239_241.out
          have hcz34_0 : wr.cell? ⟨gb241, 0, none⟩ = some (.int .i64 t240) := (blk_cell BK241.out 0).trans rfl
          have hcz34_1 : wr.cell? ⟨gb241, 1, none⟩ = some (u242001) := (blk_cell BK241.out 1).trans rfl
          have hcz34_2 : wr.cell? ⟨gb241, 2, none⟩ = some (u242002) := (blk_cell BK241.out 2).trans rfl
          have hfz34_0 := blk_frozen BK241.out 0
          have hfz34_1 := blk_frozen BK241.out 1
          have hfz34_2 := blk_frozen BK241.out 2
          have hcz35_0 : wr.cell? ⟨gb239, 0, none⟩ = some (.int .i64 0) := (blk_cell BK239.out 0).trans rfl
          have hcz35_1 : wr.cell? ⟨gb239, 1, none⟩ = some (.slice none 0 0) := (blk_cell BK239.out 1).trans rfl
          have hcz35_2 : wr.cell? ⟨gb239, 2, none⟩ = some (.slice none 0 0) := (blk_cell BK239.out 2).trans rfl
          have hfz35_0 := blk_frozen BK239.out 0
          have hfz35_1 := blk_frozen BK239.out 1
          have hfz35_2 := blk_frozen BK239.out 2
          obtain ⟨Ao36, co36, eo36⟩ := Kd.R_slice HO_242001.out
          subst eo36
          obtain ⟨Ao37, co37, eo37⟩ := Kd.R_slice HO_242002.out
          subst eo37
          go_wp2
          refine bodyPost_ret (results_cell_row rfl _ _ gb239 27 #[.int .i64 t240, .slice Ao36 x242001_1.length co36, .slice Ao37 x242002_1.length co37] (0, 0) _ rfl (by (with_reducible repeat (first | refine blk_drewN ?_ _ | refine blk_drew ?_ | refine blk_alloc ?_ _)); refine blk_put (cs := #[.int .i64 t240, .slice Ao36 x242001_1.length co36, .slice none 0 0]) ?_ 2 _ rfl; (with_reducible repeat (first | refine blk_drewN ?_ _ | refine blk_drew ?_ | refine blk_alloc ?_ _)); refine blk_put (cs := #[.int .i64 t240, .slice none 0 0, .slice none 0 0]) ?_ 1 _ rfl; (with_reducible repeat (first | refine blk_drewN ?_ _ | refine blk_drew ?_ | refine blk_alloc ?_ _)); refine blk_put (cs := #[.int .i64 0, .slice none 0 0, .slice none 0 0]) ?_ 0 _ rfl; (with_reducible repeat (first | refine blk_drewN ?_ _ | refine blk_drew ?_ | refine blk_alloc ?_ _)); exact BK239.out) Try.underlying27 rfl (by kernel_rfl)) rfl ?_
          exact ⟨_, _, by first | rfl | (simp [errW_none, errW_some] <;> rfl) | (simp [*, errW_none, errW_some] <;> rfl), by (with_reducible repeat (first | apply Kd.R_alloc | apply Kd.R_drewN | apply Kd.R_drew)); exact Kd.R_mono (Kd.R_far (p := ⟨gb239, 2, none⟩) (Kd.R_far (p := ⟨gb239, 1, none⟩) (Kd.R_far (p := ⟨gb239, 0, none⟩) (Kd.R_types HO_242001.out BK239.out (by decide)) (fun _ hk => hk.2) (.int .i64 t240)) (fun _ hk => hk.2) (.slice Ao36 x242001_1.length co36)) (fun _ hk => hk.2) (.slice Ao37 x242002_1.length co37)) (fun _ hk => hk.1), by (with_reducible repeat (first | apply Kd.R_alloc | apply Kd.R_drewN | apply Kd.R_drew)); exact Kd.R_mono (Kd.R_far (p := ⟨gb239, 2, none⟩) (Kd.R_far (p := ⟨gb239, 1, none⟩) (Kd.R_far (p := ⟨gb239, 0, none⟩) (Kd.R_types HO_242002.out BK239.out (by decide)) (fun _ hk => hk.2) (.int .i64 t240)) (fun _ hk => hk.2) (.slice Ao36 x242001_1.length co36)) (fun _ hk => hk.2) (.slice Ao37 x242002_1.length co37)) (fun _ hk => hk.1), by repeat (first | (with_reducible first | exact HB.out | apply below_alloc | apply pw_below_drewN | apply below_drew1 | refine below_set ?_ GE239.out | refine below_set ?_ GE241.out) | exact HB.out)⟩
  · rw [if_neg c3] at H
    have c3b0 : (t240 == 0) = false := beq_eq_false_iff_ne.mpr c3
    have c3b1 : (t240 != 0) = true := bne_iff_ne.mpr c3
    simp only [Option.some.injEq, Prod.mk.injEq] at H
    obtain ⟨rfl, rfl, rfl⟩ := H
    go_enter Try.func9, Try.ntmps9
    go_wp2_with (first | ((with_reducible refine gate_dst (N := 2) rfl ?_); refine box_event ?hg (N := 2) ?hd (cs := #[.int .i64 0, .slice none 0 0, .slice none 0 0]) (t := 27) ?hr ?_; (case hd => rfl); (case hg => rfl); (case hr => first | (go_simp; done) | (go_simp; rfl)); intro gb239 hg w38 hbox hb; have n0_ := Aside0.mk (below_step (by repeat (first | (with_reducible first | exact HB.out | apply below_alloc | apply pw_below_drewN | apply below_drew1) | exact HB.out)) hb); have n1_ := Aside0.mk (hbox); have n2_ := Aside0.mk ((by rw [hg]; exact (below_size (by repeat (first | (with_reducible first | exact HB.out | apply below_alloc | apply pw_below_drewN | apply below_drew1) | exact HB.out))) : w.heap.size ≤ gb239)); have n3_ := Aside0.mk ((by rw [hg]; exact (below_size (by repeat (first | (with_reducible first | exact HB.out | apply below_alloc | apply pw_below_drewN | apply below_drew1) | exact HB.out))) : w.heap.size ≤ gb239)); clear HB; have HB := n0_; have BK239 := n1_; have GW239 := n2_; have GE239 := n3_; clear n0_ n1_ n2_ n3_; clear hb hbox hg) | ((with_reducible refine gate_callee (f := 15) rfl ?_); refine goesL_ (some 7) rfl rfl Try.func15 (by kernel_rfl) rfl #[.slice A0 l0.length c0] rfl (by (try simp only [List.map_toArray, List.map_cons, List.map_nil]); first | done | rfl | (simp only [List.length_drop, List.length_take]; rfl)) ?_; (with_reducible refine (impl_WaitsFault.calls k _ _ l0 t240 _ ?side1 ?side2 A2.out).mono ?_); (case side1 => repeat (first | exact (Kd.C_below HR0.out HB.out) | (with_reducible refine Kd.C_alloc ?_ _) | (with_reducible refine Kd.C_drewN ?_ _) | (with_reducible refine Kd.C_drew ?_))); (case side2 => exact HC0.out); rintro e w39 ⟨rfl, hb⟩; refine ⟨_, rfl, ?_⟩; have n0_ := Aside0.mk (blk_below (g := gb239) (o := .cells #[.int .i64 0, .slice none 0 0, .slice none 0 0] 27 (0, 0)) (by (with_reducible repeat (first | refine blk_drewN ?_ _ | refine blk_drew ?_ | refine blk_alloc ?_ _)); exact BK239.out) hb); have n1_ := Aside0.mk (below_step (by repeat (first | (with_reducible first | exact HB.out | apply below_alloc | apply pw_below_drewN | apply below_drew1 | refine below_set ?_ GE239.out) | exact HB.out)) hb); clear BK239; clear HB; have BK239 := n0_; have HB := n1_; clear n0_ n1_; (try clear hb); (try clear hb2); (try clear hk); (try clear hi)) | ((with_reducible refine gate_dst (N := 3) rfl ?_); refine box_event ?hg (N := 3) ?hd (cs := #[.int .i64 0, .slice none 0 0, .slice none 0 0]) (t := 27) ?hr ?_; (case hd => rfl); (case hg => rfl); (case hr => first | (go_simp; done) | (go_simp; rfl)); intro gb241 hg w40 hbox hb; have n0_ := Aside0.mk (blk_below (g := gb239) (o := .cells #[.int .i64 0, .slice none 0 0, .slice none 0 0] 27 (0, 0)) (by (with_reducible repeat (first | refine blk_drewN ?_ _ | refine blk_drew ?_ | refine blk_alloc ?_ _)); exact BK239.out) hb); have n1_ := Aside0.mk (below_step (by repeat (first | (with_reducible first | exact HB.out | apply below_alloc | apply pw_below_drewN | apply below_drew1 | refine below_set ?_ GE239.out) | exact HB.out)) hb); have n2_ := Aside0.mk (hbox); have n3_ := Aside0.mk ((by rw [hg]; exact (below_size (by repeat (first | (with_reducible first | exact HB.out | apply below_alloc | apply pw_below_drewN | apply below_drew1 | refine below_set ?_ GE239.out) | exact HB.out))) : w.heap.size ≤ gb241)); have n4_ := Aside0.mk ((by rw [hg]; exact (below_size (by repeat (first | (with_reducible first | exact HB.out | apply below_alloc | apply pw_below_drewN | apply below_drew1 | refine below_set ?_ GE239.out) | exact HB.out))) : w.heap.size ≤ gb241)); have n5_ := Aside0.mk ((by rw [hg]; exact Nat.ne_of_lt (blk_lt (g := gb239) (o := .cells #[.int .i64 0, .slice none 0 0, .slice none 0 0] 27 (0, 0)) (by (with_reducible repeat (first | refine blk_drewN ?_ _ | refine blk_drew ?_ | refine blk_alloc ?_ _)); exact BK239.out)) : gb239 ≠ gb241)); have n6_ := Aside0.mk ((by rw [hg]; exact Nat.ne_of_gt (blk_lt (g := gb239) (o := .cells #[.int .i64 0, .slice none 0 0, .slice none 0 0] 27 (0, 0)) (by (with_reducible repeat (first | refine blk_drewN ?_ _ | refine blk_drew ?_ | refine blk_alloc ?_ _)); exact BK239.out)) : gb241 ≠ gb239)); clear BK239; clear HB; have BK239 := n0_; have HB := n1_; have BK241 := n2_; have GW241 := n3_; have GE241 := n4_; have NB239_241 := n5_; have NB241_239 := n6_; clear n0_ n1_ n2_ n3_ n4_ n5_ n6_; clear hb hbox hg; have hnb41 := NB241_239.out; have hnc41 := NB239_241.out; have hcz42_0 : w40.cell? ⟨gb241, 0, none⟩ = some (.int .i64 0) := (blk_cell BK241.out 0).trans rfl; have hcz42_1 : w40.cell? ⟨gb241, 1, none⟩ = some (.slice none 0 0) := (blk_cell BK241.out 1).trans rfl; have hcz42_2 : w40.cell? ⟨gb241, 2, none⟩ = some (.slice none 0 0) := (blk_cell BK241.out 2).trans rfl; have hfz42_0 := blk_frozen BK241.out 0; have hfz42_1 := blk_frozen BK241.out 1; have hfz42_2 := blk_frozen BK241.out 2; have hcz43_0 : w40.cell? ⟨gb239, 0, none⟩ = some (.int .i64 0) := (blk_cell BK239.out 0).trans rfl; have hcz43_1 : w40.cell? ⟨gb239, 1, none⟩ = some (.slice none 0 0) := (blk_cell BK239.out 1).trans rfl; have hcz43_2 : w40.cell? ⟨gb239, 2, none⟩ = some (.slice none 0 0) := (blk_cell BK239.out 2).trans rfl; have hfz43_0 := blk_frozen BK239.out 0; have hfz43_1 := blk_frozen BK239.out 1; have hfz43_2 := blk_frozen BK239.out 2))
    refine bodyPost_ret (results_cell_row rfl _ _ gb239 27 #[.int .i64 t240, .slice none 0 0, .slice none 0 0] (0, 0) _ rfl (by (with_reducible repeat (first | refine blk_drewN ?_ _ | refine blk_drew ?_ | refine blk_alloc ?_ _)); refine blk_put (cs := #[.int .i64 t240, .slice none 0 0, .slice none 0 0]) ?_ 2 _ rfl; (with_reducible repeat (first | refine blk_drewN ?_ _ | refine blk_drew ?_ | refine blk_alloc ?_ _)); refine blk_put (cs := #[.int .i64 t240, .slice none 0 0, .slice none 0 0]) ?_ 1 _ rfl; (with_reducible repeat (first | refine blk_drewN ?_ _ | refine blk_drew ?_ | refine blk_alloc ?_ _)); refine blk_put (cs := #[.int .i64 0, .slice none 0 0, .slice none 0 0]) ?_ 0 _ rfl; (with_reducible repeat (first | refine blk_drewN ?_ _ | refine blk_drew ?_ | refine blk_alloc ?_ _)); refine blk_far ?_ NB239_241.out _; (with_reducible repeat (first | refine blk_drewN ?_ _ | refine blk_drew ?_ | refine blk_alloc ?_ _)); refine blk_far ?_ NB239_241.out _; (with_reducible repeat (first | refine blk_drewN ?_ _ | refine blk_drew ?_ | refine blk_alloc ?_ _)); refine blk_far ?_ NB239_241.out _; (with_reducible repeat (first | refine blk_drewN ?_ _ | refine blk_drew ?_ | refine blk_alloc ?_ _)); exact BK239.out) Try.underlying27 rfl (by kernel_rfl)) rfl ?_
    exact ⟨_, _, by first | rfl | (simp [errW_none, errW_some] <;> rfl) | (simp [*, errW_none, errW_some] <;> rfl), by first | exact Kd.R_nil _ _ _ _ _ | exact Kd.N_nil _ _ _ _ _ | exact Kd.V_nil _ _ _ _ _ | exact Kd.Q_nil _ _ _ _ _ | exact Kd.S_nil _ _ _ _ _, by first | exact Kd.R_nil _ _ _ _ _ | exact Kd.N_nil _ _ _ _ _ | exact Kd.V_nil _ _ _ _ _ | exact Kd.Q_nil _ _ _ _ _ | exact Kd.S_nil _ _ _ _ _, by repeat (first | (with_reducible first | exact HB.out | apply below_alloc | apply pw_below_drewN | apply below_drew1 | refine below_set ?_ GE239.out | refine below_set ?_ GE241.out) | exact HB.out)⟩

/-! ### spec_DrawClearWaits: function 10 -/
def spec_DrawClearWaits.f (k : Nat) (l0 : List Int) : Option ((List (S67)) × Int) := (spec_l1Source.f l0).bind fun bt250 => ((spec_l9Bent.f k bt250.1 bt250.2).bind fun bt253 => ((spec_l1Pick.f bt250.1 bt253.2 (([0, 1, 2, 3, (-1), 1000001] : List Int))).bind fun bt260 => (some (bt253.1, bt260.1))))
theorem spec_DrawClearWaits.mono : ∀ a0 k, LeO (spec_DrawClearWaits.f k a0) (spec_DrawClearWaits.f (k + 1) a0) := by
  intro a0 k
  unfold spec_DrawClearWaits.f
  repeat' first
      | (with_reducible exact spec_l9Bent.mono _ _ _)
      | (with_reducible exact LeO.refl _)
      | (with_reducible exact LeO.none _)
      | (with_reducible refine LeO.ite ?_ ?_)
      | (with_reducible refine LeO.bind ?_ (fun _ => ?_))
      | exact spec_l9Bent.mono _ _ _
      | exact LeO.none _
      | refine LeO.ite ?_ ?_
      | refine LeO.bind ?_ (fun _ => ?_)
set_option maxHeartbeats 8000000 in
set_option maxRecDepth 100000 in
theorem spec_DrawClearWaits.calls (k : Nat) (A0 : Option Addr) (c0 : Nat) (l0 : List Int) (r1 : List (S67)) (r2 : Int) (w : World) (hr0 : Kd.C (Kd.int .u8) w A0 l0.length l0) (hc0 : l0.length ≤ c0) (h : spec_DrawClearWaits.f k l0 = some (r1, r2)) :
    Calls Try.prog 10 #[.slice A0 l0.length c0] w fun e w' => ∃ v0_ : Value, e = .returned (.tuple #[v0_, .int .i64 r2]) ∧ Kd.R k67 67 w' w.heap.size (fun _ => True) v0_ r1 ∧ Below w.heap.size w w' := by
  have HR0 := Aside0.mk hr0
  have HC0 := Aside0.mk hc0
  clear hr0 hc0
  have HB := Aside0.mk (Below.refl w.heap.size w)
  have H : ((spec_l1Source.f l0).bind fun bt250 => ((spec_l9Bent.f k bt250.1 bt250.2).bind fun bt253 => ((spec_l1Pick.f bt250.1 bt253.2 (([0, 1, 2, 3, (-1), 1000001] : List Int))).bind fun bt260 => (some (bt253.1, bt260.1))))) = some (r1, r2) := h
  clear h
  replace H := Option.bind_eq_some_iff.mp H
  obtain ⟨⟨t250, t251⟩, A20, H⟩ := H
  replace H : ((spec_l9Bent.f k t250 t251).bind fun bt253 => ((spec_l1Pick.f t250 bt253.2 (([0, 1, 2, 3, (-1), 1000001] : List Int))).bind fun bt260 => (some (bt253.1, bt260.1)))) = some (r1, r2) := H
  have A2 := Aside0.mk A20
  clear A20
  replace H := Option.bind_eq_some_iff.mp H
  obtain ⟨⟨t253, t256⟩, A30, H⟩ := H
  replace H : ((spec_l1Pick.f t250 t256 (([0, 1, 2, 3, (-1), 1000001] : List Int))).bind fun bt260 => (some (t253, bt260.1))) = some (r1, r2) := H
  have A3 := Aside0.mk A30
  clear A30
  obtain ⟨y257, hy257⟩ : ∃ y_ : List Int, y_ = (([0, 1, 2, 3, (-1), 1000001] : List Int)) := ⟨_, rfl⟩
  replace H : ((spec_l1Pick.f t250 t256 y257).bind fun bt260 => (some (t253, bt260.1))) = some (r1, r2) := by first | (rw [hy257]; with_reducible exact H) | (have H2_ := (Option.bind_some _ _).symm.trans H; rw [hy257]; with_reducible exact H2_) | (have H2_ := (Option.bind_some _ _).symm.trans H; with_reducible exact H2_) | with_reducible exact H | (rw [hy257]; exact H) | exact H
  have Ny257 := Aside0.mk hy257
  clear hy257
  replace H := Option.bind_eq_some_iff.mp H
  obtain ⟨⟨t260, t261⟩, A40, H⟩ := H
  replace H : (some (t253, t260)) = some (r1, r2) := H
  have A4 := Aside0.mk A40
  clear A40
  simp only [Option.some.injEq, Prod.mk.injEq] at H
  obtain ⟨rfl, rfl⟩ := H
  go_enter Try.func10, Try.ntmps10
  go_wp2_with (first | ((with_reducible refine gate_callee (f := 46) rfl ?_); refine goesL_ (some 6) rfl rfl Try.func46 (by kernel_rfl) rfl #[.slice A0 l0.length c0] rfl (by (try simp only [List.map_toArray, List.map_cons, List.map_nil]); first | done | rfl | (simp only [List.length_drop, List.length_take]; rfl)) ?_; (with_reducible refine (spec_l1Source.calls _ _ l0 t250 t251 w _ ?side1 ?side2 ?side3 A2.out).mono ?_); (case side1 => repeat (first | (with_reducible first | exact HB.out | apply below_alloc | apply pw_below_drewN | apply below_drew1) | exact HB.out)); (case side2 => exact HR0.out); (case side3 => exact HC0.out); rintro e w5 ⟨g252, rfl, hi, hb, hb2⟩; refine ⟨_, rfl, ?_⟩; have n0_ := Aside0.mk (hb); have n1_ := Aside0.mk (hi); clear HB; have HB := n0_; have HI252 := n1_; clear n0_ n1_; (try clear hb); (try clear hb2); (try clear hk); (try clear hi)) | ((with_reducible refine gate_callee (f := 45) rfl ?_); refine goesL_ (some 8) rfl rfl Try.func45 (by kernel_rfl) rfl #[.pointer (some ⟨g252, 0, none⟩)] rfl (by (try simp only [List.map_toArray, List.map_cons, List.map_nil]); first | done | rfl | (simp only [List.length_drop, List.length_take]; rfl)) ?_; (with_reducible refine (spec_l9Bent.calls k g252 t250 t251 t253 t256 w _ ?side1 ?side2 A3.out).mono ?_); (case side1 => repeat (first | (with_reducible first | exact HI252.out | apply IsS99.alloc | apply IsS99.drewN | apply IsS99.drew | apply IsS99.set_1) | exact HI252.out)); (case side2 => repeat (first | (with_reducible first | exact HB.out | apply below_alloc | apply pw_below_drewN | apply below_drew1 | refine below_set ?_ (IsS99.ge HI252.out)) | exact HB.out)); rintro e w6 ⟨v254, rfl, ho0, hi, hb, hk⟩; refine ⟨_, rfl, ?_⟩; have n0_ := Aside0.mk (Kd.R_lower ho0 (below_size (by repeat (first | (with_reducible first | exact HB.out | apply below_alloc | apply pw_below_drewN | apply below_drew1 | refine below_set ?_ (IsS99.ge HI252.out)) | exact HB.out)))); have n1_ := Aside0.mk (hb); have n2_ := Aside0.mk (hi); clear HB; clear HI252; have HO255 := n0_; have HB := n1_; have HI252 := n2_; clear n0_ n1_ n2_; (try clear hb); (try clear hb2); (try clear hk); (try clear hi); (try clear ho0)) | ((with_reducible refine gate_dst (N := 10) rfl ?_); refine Kd.R_lit (Kd.int .i64) _ 2 ?hg (N := 10) ?hd (xs := ([0, 1, 2, 3, (-1), 1000001] : List Int)) (inner := [.int .i64 0, .int .i64 1, .int .i64 2, .int .i64 3, .int .i64 (-1), .int .i64 1000001]) (ok := fun _ => True) (okp := fun _ => True) ?hr ?hp (fun _ hk => hk) trivial (Below.refl _ _) (Nat.le_refl _) (by simp) ?_; (case hd => rfl); (case hg => rfl); (case hr => first | (go_simp; done) | (go_simp; rfl)); (case hp => exact (Reps.one (show Kd.M (Kd.int .i64) _ _ _ 0 [.int .i64 0] from rfl) (Reps.one (show Kd.M (Kd.int .i64) _ _ _ 1 [.int .i64 1] from rfl) (Reps.one (show Kd.M (Kd.int .i64) _ _ _ 2 [.int .i64 2] from rfl) (Reps.one (show Kd.M (Kd.int .i64) _ _ _ 3 [.int .i64 3] from rfl) (Reps.one (show Kd.M (Kd.int .i64) _ _ _ (-1) [.int .i64 (-1)] from rfl) (Reps.one (show Kd.M (Kd.int .i64) _ _ _ 1000001 [.int .i64 1000001] from rfl) (Reps.none _ _)))))))); intro v258 w7 ho8 hb hg_ hnew_; clear hg_ hnew_; (first | rw [← Ny257.out] at ho8 | (simp only [Int.reduceToNat] at ho8; rw [← Ny257.out] at ho8)); have n0_ := Aside0.mk (Kd.R_below (by (with_reducible repeat (first | apply Kd.R_alloc | apply Kd.R_drewN | apply Kd.R_drew)); exact HO255.out) hb); have n1_ := Aside0.mk (Kd.R_lower ho8 (below_size (by repeat (first | (with_reducible first | exact HB.out | apply below_alloc | apply pw_below_drewN | apply below_drew1 | refine below_set ?_ (IsS99.ge HI252.out)) | exact HB.out)))); have n2_ := Aside0.mk (IsS99.below (by repeat (first | (with_reducible first | exact HI252.out | apply IsS99.alloc | apply IsS99.drewN | apply IsS99.drew | apply IsS99.set_1) | exact HI252.out)) hb); have n3_ := Aside0.mk (below_step (by repeat (first | (with_reducible first | exact HB.out | apply below_alloc | apply pw_below_drewN | apply below_drew1 | refine below_set ?_ (IsS99.ge HI252.out)) | exact HB.out)) hb); clear HO255; clear HI252; clear HB; have HO255 := n0_; have HO259 := n1_; have HI252 := n2_; have HB := n3_; clear n0_ n1_ n2_ n3_; clear hb ho8; obtain ⟨Ao9, co9, eo9⟩ := Kd.R_slice HO259.out; subst eo9) | ((with_reducible refine gate_callee (f := 47) rfl ?_); refine goesL_ (some 11) rfl rfl Try.func47 (by kernel_rfl) rfl #[.pointer (some ⟨g252, 0, none⟩), .slice Ao9 y257.length co9] rfl (by (try simp only [List.map_toArray, List.map_cons, List.map_nil]); first | done | rfl | (simp only [List.length_drop, List.length_take]; rfl)) ?_; (with_reducible refine (spec_l1Pick.calls g252 t250 t256 _ _ y257 t260 t261 w _ ?side1 ?side2 ?side3 ?side4 ?side5 A4.out).mono ?_); (case side1 => repeat (first | (with_reducible first | exact HI252.out | apply IsS99.alloc | apply IsS99.drewN | apply IsS99.drew | apply IsS99.set_1) | exact HI252.out)); (case side2 => repeat (first | (with_reducible first | exact HB.out | apply below_alloc | apply pw_below_drewN | apply below_drew1 | refine below_set ?_ (IsS99.ge HI252.out)) | exact HB.out)); (case side3 => repeat (first | exact (Kd.R_reads' HO259.out).2.2 | (with_reducible refine Kd.C_alloc ?_ _) | (with_reducible refine Kd.C_drewN ?_ _) | (with_reducible refine Kd.C_drew ?_))); (case side4 => exact (Kd.R_reads' HO259.out).2.1); (case side5 => exact far_slice (IsS99.own_ne HI252.out HO259.out (by decide))); rintro e w10 ⟨rfl, hi, hb, hk⟩; refine ⟨_, rfl, ?_⟩; have n0_ := Aside0.mk (Kd.R_mono (Kd.R_keep (IsS99.apart (show IsS99 w _ g252 t250 t256 from by repeat (first | (with_reducible first | exact HI252.out | apply IsS99.alloc | apply IsS99.drewN | apply IsS99.drew | apply IsS99.set_1) | exact HI252.out)) (by (with_reducible repeat (first | apply Kd.R_alloc | apply Kd.R_drewN | apply Kd.R_drew)); exact HO255.out) (by decide)) hk (fun _ h => h.2)) (fun _ h => h.1)); have n1_ := Aside0.mk (Kd.R_mono (Kd.R_keep (IsS99.apart (show IsS99 w _ g252 t250 t256 from by repeat (first | (with_reducible first | exact HI252.out | apply IsS99.alloc | apply IsS99.drewN | apply IsS99.drew | apply IsS99.set_1) | exact HI252.out)) (by (with_reducible repeat (first | apply Kd.R_alloc | apply Kd.R_drewN | apply Kd.R_drew)); exact HO259.out) (by decide)) hk (fun _ h => h.2)) (fun _ h => h.1)); have n2_ := Aside0.mk (hb); have n3_ := Aside0.mk (hi); clear HO255; clear HO259; clear HB; clear HI252; have HO255 := n0_; have HO259 := n1_; have HB := n2_; have HI252 := n3_; clear n0_ n1_ n2_ n3_; (try clear hb); (try clear hb2); (try clear hk); (try clear hi)))
  go_ret2
  exact ⟨_, by first | rfl | (simp [errW_none, errW_some] <;> rfl) | (simp [*, errW_none, errW_some] <;> rfl), by (with_reducible repeat (first | apply Kd.R_alloc | apply Kd.R_drewN | apply Kd.R_drew)); exact HO255.out, by repeat (first | (with_reducible first | exact HB.out | apply below_alloc | apply pw_below_drewN | apply below_drew1 | refine below_set ?_ (IsS99.ge HI252.out)) | exact HB.out)⟩

end Go.Proofs.Ytpinapnhohjipaa.MFnWaits
