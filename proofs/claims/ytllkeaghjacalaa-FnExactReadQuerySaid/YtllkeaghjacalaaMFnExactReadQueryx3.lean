-- Laid by a program of this session (the kit's print, turned where it falls short; the texts of functions that it does not take are proved by hand).
import Derived.Test.YtllkeaghjacalaaMFnExactReadQueryx0
namespace Go.Proofs.Ytllkeaghjacalaa.MFnExactReadQuery
open Go.RowKit Go.Proofs.YtllkeaghjacalaaW.PrintWords Go.Proofs.YtllkeaghjacalaaW.PrintLast Go.Proofs.YtllkeaghjacalaaW.PrintMore
attribute [local go_sem] max2_int min2_int max_two min_two max_three min_three max_four min_four   -- for this text's walks alone
set_option linter.unusedVariables false
set_option linter.unusedSimpArgs false

attribute [local go_sem] isSome_setCell
/-! ### spec_l10Name: function 40 -/
theorem C_past {W w1 : World} {g n : Nat} {xs : List Int} {row : Option Nat} (h : Kd.C (Kd.int .u8) W (some ⟨g, 0, none⟩) n xs) (hg : W.grownBy w1 row) (hne : some g ≠ row) : Kd.C (Kd.int .u8) w1 (some ⟨g, 0, none⟩) n xs := by
  refine Kd.C_of_reads (enc := Value.int .u8) (d := (0 : Int)) (h1 := fun _ => rfl) ?_
  obtain ⟨h1, h2, h3⟩ := Kd.reads_of_C (enc := Value.int .u8) (d := (0 : Int)) (h1 := fun _ => rfl) h
  refine ⟨h1, h2, fun hn => ?_⟩
  obtain ⟨ad, e, hc⟩ := h3 hn
  refine ⟨ad, e, fun j hj => hg.cell (hc j hj) ?_⟩
  cases e
  rw [add_block]
  exact hne
def spec_l10Name.l0 : Nat → List ByteArray → List Int → Int → Option (List Int)
  | 0, _, _, _ => none
  | k + 1, x0, x3, x4 => if x4 < (x0.length : Int) then (if 0 ≤ x4 then (if x3.length + 1 + (rdOf ByteArray.empty x0 x4).size < 140737488355328 then (spec_l10Name.l0 k x0 ((x3 ++ [(((rdOf ByteArray.empty x0 x4).size : Int)) % 256]) ++ bytesOf (rdOf ByteArray.empty x0 x4)) (wrap64 (x4 + 1))) else (none)) else (none)) else (if x3.length < 140737488355328 then (some (x3 ++ [0])) else (none))
def spec_l10Name.f (k : Nat) (l0 : List ByteArray) : Option (List Int) := spec_l10Name.l0 k l0 ([] : List Int) 0
theorem spec_l10Name.mono_l : ∀ k, (∀ y0 y1 y2, LeO (spec_l10Name.l0 k y0 y1 y2) (spec_l10Name.l0 (k + 1) y0 y1 y2))
  | 0 => fun _ _ _ r h => by simp [spec_l10Name.l0] at h
  | k + 1 => by
    have ih0 := spec_l10Name.mono_l k
    · intro y0 y1 y2
      unfold spec_l10Name.l0
      repeat' first
      | (with_reducible exact ih0 _ _ _)
      | (with_reducible exact LeO.refl _)
      | (with_reducible exact LeO.none _)
      | (with_reducible refine LeO.ite ?_ ?_)
theorem spec_l10Name.mono : ∀ a0 k, LeO (spec_l10Name.f k a0) (spec_l10Name.f (k + 1) a0) := fun a0 k => spec_l10Name.mono_l k _ _ _
set_option maxHeartbeats 8000000 in
set_option maxRecDepth 100000 in
theorem spec_l10Name.calls (k : Nat) (A0 : Option Addr) (c0 : Nat) (l0 : List ByteArray) (r : List Int) (w : World) (hr0 : Kd.C Kd.string w A0 l0.length l0) (hc0 : l0.length ≤ c0) (h : spec_l10Name.f k l0 = some r) :
    Calls Try.prog 40 #[.slice A0 l0.length c0] w fun e w' => ∃ v0_ : Value, e = .returned (v0_) ∧ Kd.R (Kd.int .u8) 5 w' w.heap.size (fun _ => True) v0_ r ∧ Below w.heap.size w w' := by
  have HR0 := Aside0.mk hr0
  have HC0 := Aside0.mk hc0
  clear hr0 hc0
  have HB := Aside0.mk (Below.refl w.heap.size w)
  have H' := Aside0.mk (show spec_l10Name.l0 k l0 ([] : List Int) 0 = some r from h)
  clear h
  go_enter Try.func40, Try.ntmps40
  go_wp2_with (first | ((with_reducible refine gate_dst (N := 5) rfl ?_); refine Kd.R_lit (Kd.int .u8) _ 5 ?hg (N := 5) ?hd (xs := ([] : List Int)) (inner := []) (ok := fun _ => True) (okp := fun _ => True) ?hr ?hp (fun _ hk => hk) trivial HB.out HB.out.size (by simp) ?_; (case hd => rfl); (case hg => rfl); (case hr => first | (go_simp; done) | (go_simp; rfl)); (case hp => exact (Reps.none _ _)); intro v5_ w5_ ho hb hg_ hnew_; clear hg_ hnew_; have HO := Aside0.mk ho; have HB5 := Aside0.mk hb; clear HB ho hb))
  go_loopg [3, 4] k (fun kq v3 v4 w' => ∃ (x3_1 : List Int) (x4_1 : Int), v4 = .int .i64 x4_1 ∧ Aside0 (spec_l10Name.l0 kq l0 x3_1 x4_1 = some r) ∧ Aside0 (kq ≤ k) ∧ Aside0 (Kd.R (Kd.int .u8) 5 w' w.heap.size (fun _ => True) v3 x3_1) ∧ Aside0 (Below w.heap.size w w'))
  case atStart => exact ⟨([] : List Int), 0, rfl, H', ⟨Nat.le_refl _⟩, HO, HB5⟩
  case round =>
    clear H' HO HB5
    obtain ⟨x3_1, x4_1, rfl, HA, HK1, HO, HB⟩ := hrel
    cases gk with
    | zero => exact absurd HA.out (by simp [spec_l10Name.l0])
    | succ k1 =>
      have H := HA.out
      clear HA
      simp only [spec_l10Name.l0] at H
      by_cases c1 : x4_1 < (l0.length : Int)
      · rw [if_pos c1] at H
        by_cases c2 : 0 ≤ x4_1
        · rw [if_pos c2] at H
          by_cases c3 : x3_1.length + 1 + (rdOf ByteArray.empty l0 x4_1).size < 140737488355328
          · rw [if_pos c3] at H
            have LM := Aside0.mk c3
            clear c3
            have H' := Aside0.mk H
            clear H
            have c1b : decide (x4_1 < (l0.length : Int)) = true := decide_eq_true c1
            obtain ⟨ad, e0, hx0⟩ := Kd.at_string HR0.out x4_1 c2 c1
            cases e0
            have p1 := eq_true c2
            have q1 := eq_true c1
            clear c1 c2
            generalize rdOf ByteArray.empty l0 x4_1 = s at *
            have hlt : (ad.add x4_1.toNat).block < w.heap.size := World.block_lt_of_cell? w _ hx0
            have HX := Aside0.mk hx0
            have HLT := Aside0.mk hlt
            clear hx0 hlt
            have kb := fun (W : World) => print_bytes (P := Try.prog) 9 24 5 Try.underlying9 Try.underlying24 Try.underlying5 s W
            go_wp2
            refine start_ (n := 16) (S := fun w' => Below w.heap.size w w') (ds := []) #[false, false, false, false, false, false, false, false, false, false, false, false, false, false, false, false] (by kernel_rfl) rfl rfl (below_drew1 HB.out) (fun hHeld => ?_)
            replace HO := Aside0.mk (Kd.R_drew HO.out)
            generalize World.drew _ = W0 at *
            refine pure_ (i := 0) (N := some 12) (v := ?_) (a' := ?_) #[true, false, false, false, false, false, false, false, false, false, false, false, false, false, false, false] rfl rfl (by kernel_rfl) (fun _ _ _ h => h) (Or.inl ⟨by rfl, ?_⟩) ?_ ?_
            rotate_left
            · intro w'
              go_simp
              with_reducible rfl
            rotate_left
            · simp only [Act.put, List.setIfInBounds_toArray, List.set_cons_zero, List.set_cons_succ, i64_w, i32_w]
              rfl
            refine pure_ (i := 1) (N := some 13) (v := ?_) (a' := ?_) #[true, true, false, false, false, false, false, false, false, false, false, false, false, false, false, false] rfl rfl (by kernel_rfl) (fun _ _ _ h => h) (Or.inl ⟨by rfl, ?_⟩) ?_ ?_
            rotate_left
            · intro w'
              go_simp
              with_reducible rfl
            rotate_left
            · simp only [Act.put, List.setIfInBounds_toArray, List.set_cons_zero, List.set_cons_succ, i64_w, i32_w]
              rfl
            refine pure_ (i := 2) (N := some 14) (v := ?_) (a' := ?_) #[true, true, true, false, false, false, false, false, false, false, false, false, false, false, false, false] rfl rfl (by kernel_rfl) (fun _ _ _ h => h) (Or.inl ⟨by rfl, ?_⟩) ?_ ?_
            rotate_left
            · intro w'
              go_simp
              with_reducible rfl
            rotate_left
            · simp only [Act.put, List.setIfInBounds_toArray, List.set_cons_zero, List.set_cons_succ, i64_w, i32_w]
              rfl
            refine pure_ (i := 3) (N := some 15) (v := ?_) (a' := ?_) #[true, true, true, true, false, false, false, false, false, false, false, false, false, false, false, false] rfl rfl (by kernel_rfl) (fun _ _ _ h => h) (Or.inl ⟨by rfl, ?_⟩) ?_ ?_
            rotate_left
            · intro w'
              go_simp
              with_reducible rfl
            rotate_left
            · simp only [Act.put, List.setIfInBounds_toArray, List.set_cons_zero, List.set_cons_succ, i64_w, i32_w]
              rfl
            refine take_ (i := 4) (N := some 16) (v := ?_) (a' := ?_) #[true, true, true, true, true, false, false, false, false, false, false, false, false, false, false, false] rfl rfl (by kernel_rfl) (fun _ _ _ h => h) (Or.inl ⟨by rfl, ?_⟩) hHeld ?_ ?_
            rotate_left
            · intro w' s0
              have hx := (s0.cell HLT.out).trans HX.out
              go_simp
              with_reducible rfl
            rotate_left
            · simp only [Act.put, List.setIfInBounds_toArray, List.set_cons_zero, List.set_cons_succ, i64_w, i32_w]
              rfl
            refine pure_ (i := 5) (N := some 17) (v := ?_) (a' := ?_) #[true, true, true, true, true, true, false, false, false, false, false, false, false, false, false, false] rfl rfl (by kernel_rfl) (fun _ _ _ h => h) (Or.inl ⟨by rfl, ?_⟩) ?_ ?_
            rotate_left
            · intro w'
              go_simp
              with_reducible rfl
            rotate_left
            · simp only [Act.put, List.setIfInBounds_toArray, List.set_cons_zero, List.set_cons_succ, i64_w, i32_w]
              rfl
            refine pure_ (i := 6) (N := some 18) (v := ?_) (a' := ?_) #[true, true, true, true, true, true, true, false, false, false, false, false, false, false, false, false] rfl rfl (by kernel_rfl) (fun _ _ _ h => h) (Or.inl ⟨by rfl, ?_⟩) ?_ ?_
            rotate_left
            · intro w'
              go_simp
              with_reducible rfl
            rotate_left
            · simp only [Act.put, List.setIfInBounds_toArray, List.set_cons_zero, List.set_cons_succ, i64_w, i32_w]
              rfl
            refine pure_ (i := 9) (N := some 21) (v := ?_) (a' := ?_) #[true, true, true, true, true, true, true, false, false, true, false, false, false, false, false, false] rfl rfl (by kernel_rfl) (fun _ _ _ h => h) (Or.inl ⟨by rfl, ?_⟩) ?_ ?_
            rotate_left
            · intro w'
              go_simp
              with_reducible rfl
            rotate_left
            · simp only [Act.put, List.setIfInBounds_toArray, List.set_cons_zero, List.set_cons_succ, i64_w, i32_w]
              rfl
            refine pure_ (i := 10) (N := some 22) (v := ?_) (a' := ?_) #[true, true, true, true, true, true, true, false, false, true, true, false, false, false, false, false] rfl rfl (by kernel_rfl) (fun _ _ _ h => h) (Or.inl ⟨by rfl, ?_⟩) ?_ ?_
            rotate_left
            · intro w'
              go_simp
              with_reducible rfl
            rotate_left
            · simp only [Act.put, List.setIfInBounds_toArray, List.set_cons_zero, List.set_cons_succ, i64_w, i32_w]
              rfl
            refine pure_ (i := 11) (N := some 23) (v := ?_) (a' := ?_) #[true, true, true, true, true, true, true, false, false, true, true, true, false, false, false, false] rfl rfl (by kernel_rfl) (fun _ _ _ h => h) (Or.inl ⟨by rfl, ?_⟩) ?_ ?_
            rotate_left
            · intro w'
              go_simp
              with_reducible rfl
            rotate_left
            · simp only [Act.put, List.setIfInBounds_toArray, List.set_cons_zero, List.set_cons_succ, i64_w, i32_w]
              rfl
            refine take_ (i := 12) (N := some 24) (v := ?_) (a' := ?_) #[true, true, true, true, true, true, true, false, false, true, true, true, true, false, false, false] rfl rfl (by kernel_rfl) (fun _ _ _ h => h) (Or.inl ⟨by rfl, ?_⟩) hHeld ?_ ?_
            rotate_left
            · intro w' s0
              have hx := (s0.cell HLT.out).trans HX.out
              go_simp
              with_reducible rfl
            rotate_left
            · simp only [Act.put, List.setIfInBounds_toArray, List.set_cons_zero, List.set_cons_succ, i64_w, i32_w]
              rfl
            refine two_ (i := 7) (j := 13) (Ni := some 19) (Nj := some 25) #[true, true, true, true, true, true, true, true, false, true, true, true, true, false, false, false] #[true, true, true, true, true, true, true, false, false, true, true, true, true, true, false, false] rfl rfl rfl rfl (by kernel_rfl) (by decide) (by decide) (fun K hK => ?_) (fun K hK => ?_)
            · skip
              refine Kd.R_lit_step (Kd.int .u8) (w0 := w) w.heap.size 5 (by rfl) (N := 19) rfl (xs := [(((s.size : Int)) % 256)]) (inner := [.int .u8 (((s.size : Int)) % 256)]) (ok := fun _ => True) (okp := fun _ => True) (by first | (go_simp; done) | (go_simp; rfl)) (Reps.one (show Kd.M (Kd.int .u8) _ _ _ (((s.size : Int)) % 256) [.int .u8 (((s.size : Int)) % 256)] from rfl) (Reps.none _ _)) (fun _ hk => hk) trivial hHeld hHeld.size (by simp) ?_
              intro v7 W7 hl7 hb7 hg7 hn7
              replace HO := Aside0.mk (Kd.R_grown HO.out hg7 (fun _ _ => by simp))
              obtain ⟨A7, c7, e7⟩ := Kd.R_slice hl7
              subst e7
              have C7 := Aside0.mk (Kd.R_reads' hl7).2.2
              clear hl7 hg7 hn7
              refine hK.out _ _ (hb7) (fun hHeld => ?_)
              clear hK K
              refine norm_ (a' := ?_) ?_ ?_
              rotate_left
              · show Act.put _ (some 19) _ = _
                simp only [Act.put, List.setIfInBounds_toArray, List.set_cons_zero, List.set_cons_succ, i64_w, i32_w]
                rfl
              clear hb7
              refine two_ (i := 8) (j := 13) (Ni := some 20) (Nj := some 25) #[true, true, true, true, true, true, true, true, true, true, true, true, true, false, false, false] #[true, true, true, true, true, true, true, true, false, true, true, true, true, true, false, false] rfl rfl rfl rfl (by kernel_rfl) (by decide) (by decide) (fun K hK => ?_) (fun K hK => ?_)
              · skip
                refine Kd.R_append_rows_step (Kd.int .u8) (w0 := w) w.heap.size (by rfl) (.tmp 12) (.tmp 19) 24 5 (.int .u8 0) 1 rfl Try.underlying24 info5 rfl (by decide) (by omega) u3 x3_1 [(((s.size : Int)) % 256)] _ _ _ (fun _ => True) (fun _ => False) rfl rfl HO.out C7.out (fun _ _ h => h) (fun _ h => h.elim) (fun _ _ => trivial) hHeld hHeld.size (by have := LM.out; simp only [List.length_cons, List.length_nil]; omega) ?_
                intro v8 W8 ho8 hb8 hg8 hat8
                clear HO C7 hg8 hat8
                have HO := Aside0.mk ho8
                clear ho8
                refine hK.out _ _ (hb8) (fun hHeld => ?_)
                clear hK K
                refine norm_ (a' := ?_) ?_ ?_
                rotate_left
                · show Act.put _ (some 20) _ = _
                  simp only [Act.put, List.setIfInBounds_toArray, List.set_cons_zero, List.set_cons_succ, i64_w, i32_w]
                  rfl
                clear hb8
                refine one_ (i := 13) (N := some 25) #[true, true, true, true, true, true, true, true, true, true, true, true, true, true, false, false] rfl rfl (by kernel_rfl) (by decide) (fun K hK => ?_)
                refine value_ (w1 := ?_) (v := ?_) (by rfl) rfl ?_ ?_
                rotate_left 2
                · go_simp
                  constructor
                  · rfl
                  · rfl
                have hbb := bytes_below (Below.refl W8.heap.size W8) (Nat.le_refl _) 5 s
                replace HO := Aside0.mk (Kd.R_below HO.out hbb)
                have C25 := Aside0.mk (show Kd.C (Kd.int .u8) (Lib.bytesWorld W8 5 s) (some ⟨W8.heap.size, 0, none⟩) s.size (bytesOf s) from Kd.C_of_reads (enc := Value.int .u8) (d := (0 : Int)) (h1 := fun _ => rfl) (bytes_reads W8 5 s (by have := LM.out; omega)))
                clear hbb
                refine hK.out _ _ (bytes_below hHeld hHeld.size 5 s) (fun hHeld => ?_)
                clear hK K
                refine norm_ (a' := ?_) ?_ ?_
                rotate_left
                · show Act.put _ (some 25) _ = _
                  simp only [Act.put, List.setIfInBounds_toArray, List.set_cons_zero, List.set_cons_succ, i64_w, i32_w]
                  rfl
                refine one_ (i := 14) (N := some 26) #[true, true, true, true, true, true, true, true, true, true, true, true, true, true, true, false] rfl rfl (by kernel_rfl) (by decide) (fun K hK => ?_)
                refine Kd.R_append_rows_step (Kd.int .u8) (w0 := w) w.heap.size (by rfl) (.tmp 20) (.tmp 25) 24 5 (.int .u8 0) 1 rfl Try.underlying24 info5 rfl (by decide) (by omega) v8 (x3_1 ++ [(((s.size : Int)) % 256)]) (bytesOf s) _ _ _ (fun _ => True) (fun _ => False) rfl rfl HO.out C25.out (fun _ _ h => h) (fun _ h => h.elim) (fun _ _ => trivial) hHeld hHeld.size (by have := LM.out; simp only [List.length_append, List.length_cons, List.length_nil]; omega) ?_
                intro v14 W14 ho14 hb14 hg14 hat14
                clear HO C25 hg14 hat14
                have HO := Aside0.mk ho14
                have HB' := Aside0.mk hb14
                clear ho14
                refine hK.out _ _ (hb14) (fun hHeld => ?_)
                clear hK K
                refine norm_ (a' := ?_) ?_ ?_
                rotate_left
                · show Act.put _ (some 26) _ = _
                  simp only [Act.put, List.setIfInBounds_toArray, List.set_cons_zero, List.set_cons_succ, i64_w, i32_w]
                  rfl
                clear hb14
                refine pure_ (i := 15) (N := some 3) (v := ?_) (a' := ?_) #[true, true, true, true, true, true, true, true, true, true, true, true, true, true, true, true] rfl rfl (by kernel_rfl) (fun _ _ _ h => h) (Or.inl ⟨by rfl, ?_⟩) ?_ ?_
                rotate_left
                · intro w'
                  go_simp
                  with_reducible rfl
                rotate_left
                · simp only [Act.put, List.setIfInBounds_toArray, List.set_cons_zero, List.set_cons_succ, i64_w, i32_w]
                  rfl
                refine done_ (by kernel_rfl) ?_
                go_wp2
                go_roundg k1
                case measure => have := HK1.out; omega
                case rel => exact ⟨_, _, (by first | rfl | (simp; done) | (simp [*]; done)), H', ⟨by have := HK1.out; omega⟩, HO, HB'⟩
              · skip
                refine value_ (w1 := ?_) (v := ?_) (by rfl) rfl ?_ ?_
                rotate_left 2
                · go_simp
                  constructor
                  · rfl
                  · rfl
                have hbb := bytes_below (Below.refl W7.heap.size W7) (Nat.le_refl _) 5 s
                have LT25 := Aside0.mk (Kd.R_lt HO.out)
                replace HO := Aside0.mk (Kd.R_below HO.out hbb)
                replace C7 := Aside0.mk (Kd.C_below C7.out hbb)
                have C25 := Aside0.mk (show Kd.C (Kd.int .u8) (Lib.bytesWorld W7 5 s) (some ⟨W7.heap.size, 0, none⟩) s.size (bytesOf s) from Kd.C_of_reads (enc := Value.int .u8) (d := (0 : Int)) (h1 := fun _ => rfl) (bytes_reads W7 5 s (by have := LM.out; omega)))
                clear hbb
                refine hK.out _ _ (bytes_below hHeld hHeld.size 5 s) (fun hHeld => ?_)
                clear hK K
                refine norm_ (a' := ?_) ?_ ?_
                rotate_left
                · show Act.put _ (some 25) _ = _
                  simp only [Act.put, List.setIfInBounds_toArray, List.set_cons_zero, List.set_cons_succ, i64_w, i32_w]
                  rfl
                refine one_ (i := 8) (N := some 20) #[true, true, true, true, true, true, true, true, true, true, true, true, true, true, false, false] rfl rfl (by kernel_rfl) (by decide) (fun K hK => ?_)
                refine Kd.R_append_rows_step (Kd.int .u8) (w0 := w) w.heap.size (by rfl) (.tmp 12) (.tmp 19) 24 5 (.int .u8 0) 1 rfl Try.underlying24 info5 rfl (by decide) (by omega) u3 x3_1 [(((s.size : Int)) % 256)] _ _ _ (fun _ => True) (fun _ => False) rfl rfl HO.out C7.out (fun _ _ h => h) (fun _ h => h.elim) (fun _ _ => trivial) hHeld hHeld.size (by have := LM.out; simp only [List.length_cons, List.length_nil]; omega) ?_
                intro v8 W8 ho8 hb8 hg8 hat8
                replace C25 := Aside0.mk (C_past C25.out hg8 (fun e => Nat.lt_irrefl _ (LT25.out _ e.symm)))
                clear HO C7 hg8 hat8
                have HO := Aside0.mk ho8
                clear ho8
                refine hK.out _ _ (hb8) (fun hHeld => ?_)
                clear hK K
                refine norm_ (a' := ?_) ?_ ?_
                rotate_left
                · show Act.put _ (some 20) _ = _
                  simp only [Act.put, List.setIfInBounds_toArray, List.set_cons_zero, List.set_cons_succ, i64_w, i32_w]
                  rfl
                clear hb8
                refine one_ (i := 14) (N := some 26) #[true, true, true, true, true, true, true, true, true, true, true, true, true, true, true, false] rfl rfl (by kernel_rfl) (by decide) (fun K hK => ?_)
                refine Kd.R_append_rows_step (Kd.int .u8) (w0 := w) w.heap.size (by rfl) (.tmp 20) (.tmp 25) 24 5 (.int .u8 0) 1 rfl Try.underlying24 info5 rfl (by decide) (by omega) v8 (x3_1 ++ [(((s.size : Int)) % 256)]) (bytesOf s) _ _ _ (fun _ => True) (fun _ => False) rfl rfl HO.out C25.out (fun _ _ h => h) (fun _ h => h.elim) (fun _ _ => trivial) hHeld hHeld.size (by have := LM.out; simp only [List.length_append, List.length_cons, List.length_nil]; omega) ?_
                intro v14 W14 ho14 hb14 hg14 hat14
                clear HO C25 hg14 hat14
                have HO := Aside0.mk ho14
                have HB' := Aside0.mk hb14
                clear ho14
                refine hK.out _ _ (hb14) (fun hHeld => ?_)
                clear hK K
                refine norm_ (a' := ?_) ?_ ?_
                rotate_left
                · show Act.put _ (some 26) _ = _
                  simp only [Act.put, List.setIfInBounds_toArray, List.set_cons_zero, List.set_cons_succ, i64_w, i32_w]
                  rfl
                clear hb14
                refine pure_ (i := 15) (N := some 3) (v := ?_) (a' := ?_) #[true, true, true, true, true, true, true, true, true, true, true, true, true, true, true, true] rfl rfl (by kernel_rfl) (fun _ _ _ h => h) (Or.inl ⟨by rfl, ?_⟩) ?_ ?_
                rotate_left
                · intro w'
                  go_simp
                  with_reducible rfl
                rotate_left
                · simp only [Act.put, List.setIfInBounds_toArray, List.set_cons_zero, List.set_cons_succ, i64_w, i32_w]
                  rfl
                refine done_ (by kernel_rfl) ?_
                go_wp2
                go_roundg k1
                case measure => have := HK1.out; omega
                case rel => exact ⟨_, _, (by first | rfl | (simp; done) | (simp [*]; done)), H', ⟨by have := HK1.out; omega⟩, HO, HB'⟩
            · skip
              refine value_ (w1 := ?_) (v := ?_) (by rfl) rfl ?_ ?_
              rotate_left 2
              · go_simp
                constructor
                · rfl
                · rfl
              have hbb := bytes_below (Below.refl W0.heap.size W0) (Nat.le_refl _) 5 s
              have LT25 := Aside0.mk (Kd.R_lt HO.out)
              replace HO := Aside0.mk (Kd.R_below HO.out hbb)
              have C25 := Aside0.mk (show Kd.C (Kd.int .u8) (Lib.bytesWorld W0 5 s) (some ⟨W0.heap.size, 0, none⟩) s.size (bytesOf s) from Kd.C_of_reads (enc := Value.int .u8) (d := (0 : Int)) (h1 := fun _ => rfl) (bytes_reads W0 5 s (by have := LM.out; omega)))
              clear hbb
              refine hK.out _ _ (bytes_below hHeld hHeld.size 5 s) (fun hHeld => ?_)
              clear hK K
              refine norm_ (a' := ?_) ?_ ?_
              rotate_left
              · show Act.put _ (some 25) _ = _
                simp only [Act.put, List.setIfInBounds_toArray, List.set_cons_zero, List.set_cons_succ, i64_w, i32_w]
                rfl
              refine one_ (i := 7) (N := some 19) #[true, true, true, true, true, true, true, true, false, true, true, true, true, true, false, false] rfl rfl (by kernel_rfl) (by decide) (fun K hK => ?_)
              refine Kd.R_lit_step (Kd.int .u8) (w0 := w) w.heap.size 5 (by rfl) (N := 19) rfl (xs := [(((s.size : Int)) % 256)]) (inner := [.int .u8 (((s.size : Int)) % 256)]) (ok := fun _ => True) (okp := fun _ => True) (by first | (go_simp; done) | (go_simp; rfl)) (Reps.one (show Kd.M (Kd.int .u8) _ _ _ (((s.size : Int)) % 256) [.int .u8 (((s.size : Int)) % 256)] from rfl) (Reps.none _ _)) (fun _ hk => hk) trivial hHeld hHeld.size (by simp) ?_
              intro v7 W7 hl7 hb7 hg7 hn7
              replace HO := Aside0.mk (Kd.R_grown HO.out hg7 (fun _ _ => by simp))
              replace C25 := Aside0.mk (C_past C25.out hg7 (by simp))
              obtain ⟨A7, c7, e7⟩ := Kd.R_slice hl7
              subst e7
              have C7 := Aside0.mk (Kd.R_reads' hl7).2.2
              clear hl7 hg7 hn7
              refine hK.out _ _ (hb7) (fun hHeld => ?_)
              clear hK K
              refine norm_ (a' := ?_) ?_ ?_
              rotate_left
              · show Act.put _ (some 19) _ = _
                simp only [Act.put, List.setIfInBounds_toArray, List.set_cons_zero, List.set_cons_succ, i64_w, i32_w]
                rfl
              clear hb7
              refine one_ (i := 8) (N := some 20) #[true, true, true, true, true, true, true, true, true, true, true, true, true, true, false, false] rfl rfl (by kernel_rfl) (by decide) (fun K hK => ?_)
              refine Kd.R_append_rows_step (Kd.int .u8) (w0 := w) w.heap.size (by rfl) (.tmp 12) (.tmp 19) 24 5 (.int .u8 0) 1 rfl Try.underlying24 info5 rfl (by decide) (by omega) u3 x3_1 [(((s.size : Int)) % 256)] _ _ _ (fun _ => True) (fun _ => False) rfl rfl HO.out C7.out (fun _ _ h => h) (fun _ h => h.elim) (fun _ _ => trivial) hHeld hHeld.size (by have := LM.out; simp only [List.length_cons, List.length_nil]; omega) ?_
              intro v8 W8 ho8 hb8 hg8 hat8
              replace C25 := Aside0.mk (C_past C25.out hg8 (fun e => Nat.lt_irrefl _ (LT25.out _ e.symm)))
              clear HO C7 hg8 hat8
              have HO := Aside0.mk ho8
              clear ho8
              refine hK.out _ _ (hb8) (fun hHeld => ?_)
              clear hK K
              refine norm_ (a' := ?_) ?_ ?_
              rotate_left
              · show Act.put _ (some 20) _ = _
                simp only [Act.put, List.setIfInBounds_toArray, List.set_cons_zero, List.set_cons_succ, i64_w, i32_w]
                rfl
              clear hb8
              refine one_ (i := 14) (N := some 26) #[true, true, true, true, true, true, true, true, true, true, true, true, true, true, true, false] rfl rfl (by kernel_rfl) (by decide) (fun K hK => ?_)
              refine Kd.R_append_rows_step (Kd.int .u8) (w0 := w) w.heap.size (by rfl) (.tmp 20) (.tmp 25) 24 5 (.int .u8 0) 1 rfl Try.underlying24 info5 rfl (by decide) (by omega) v8 (x3_1 ++ [(((s.size : Int)) % 256)]) (bytesOf s) _ _ _ (fun _ => True) (fun _ => False) rfl rfl HO.out C25.out (fun _ _ h => h) (fun _ h => h.elim) (fun _ _ => trivial) hHeld hHeld.size (by have := LM.out; simp only [List.length_append, List.length_cons, List.length_nil]; omega) ?_
              intro v14 W14 ho14 hb14 hg14 hat14
              clear HO C25 hg14 hat14
              have HO := Aside0.mk ho14
              have HB' := Aside0.mk hb14
              clear ho14
              refine hK.out _ _ (hb14) (fun hHeld => ?_)
              clear hK K
              refine norm_ (a' := ?_) ?_ ?_
              rotate_left
              · show Act.put _ (some 26) _ = _
                simp only [Act.put, List.setIfInBounds_toArray, List.set_cons_zero, List.set_cons_succ, i64_w, i32_w]
                rfl
              clear hb14
              refine pure_ (i := 15) (N := some 3) (v := ?_) (a' := ?_) #[true, true, true, true, true, true, true, true, true, true, true, true, true, true, true, true] rfl rfl (by kernel_rfl) (fun _ _ _ h => h) (Or.inl ⟨by rfl, ?_⟩) ?_ ?_
              rotate_left
              · intro w'
                go_simp
                with_reducible rfl
              rotate_left
              · simp only [Act.put, List.setIfInBounds_toArray, List.set_cons_zero, List.set_cons_succ, i64_w, i32_w]
                rfl
              refine done_ (by kernel_rfl) ?_
              go_wp2
              go_roundg k1
              case measure => have := HK1.out; omega
              case rel => exact ⟨_, _, (by first | rfl | (simp; done) | (simp [*]; done)), H', ⟨by have := HK1.out; omega⟩, HO, HB'⟩
          · rw [if_neg c3] at H
            exact absurd H (by simp)
        · rw [if_neg c2] at H
          exact absurd H (by simp)
      · rw [if_neg c1] at H
        have c1b : decide (x4_1 < (l0.length : Int)) = false := decide_eq_false c1
        clear c1
        by_cases c2 : x3_1.length < 140737488355328
        · rw [if_pos c2] at H
          have LM := Aside0.mk c2
          clear c2
          obtain rfl := Option.some.inj H
          go_wp2_with (first | ((with_reducible refine gate_builtin (b := .append) (xs := #[.tmp 27, .tmp 28]) rfl ?_); at_builtin; refine Kd.R_append (Kd.int .u8) (w0 := w) w.heap.size rfl (.tmp 27) (.tmp 28) 24 5 (.int .u8 0) 1 rfl Try.underlying24 info5 rfl (by decide) (by omega) u3 x3_1 0 [.int .u8 0] (fun _ => True) (fun _ => False) rfl rfl ?aP (fun _ hk => hk.elim) ?aF ?aO ?aB ?aS ?aL ?_; (case aP => exact rfl); (case aB => exact HB.out); (case aF => exact (fun _ _ => trivial)); (case aO => exact HO.out); (case aS => exact HB.out.size); (case aL => have := LM.out; omega); intro v29_ w29_ ho hb hg hat; clear HO HB hg hat; have HO := Aside0.mk ho; have HB := Aside0.mk hb; clear ho hb))
          go_ret
          exact ⟨_, rfl, HO.out, HB.out⟩
        · rw [if_neg c2] at H
          exact absurd H (by simp)

/-! ### spec_l1Pack: function 70 -/
def spec_l1Pack.l0 : Nat → Int → List Int → Int → Option (List Int)
 | 0, _, _, _ => none
 | k + 1, x0, x5, x6 => if x6 ≥ 0 then (if 0 ≤ x6 then (if x6 < (x5.length : Int) then (spec_l1Pack.l0 k (wrap64 (Int.tdiv x0 256)) (x5.set (x6 : Int).toNat ((Int.tmod x0 256) % 256)) (wrap64 (x6 - 1))) else (none)) else (none)) else (some x5)
def spec_l1Pack.f (k : Nat) (a0 : Int) (a1 : Int) : Option (List Int) := if 0 ≤ a1 then (if (a1 : Int).toNat ≤ 281474976710656 then (spec_l1Pack.l0 k a0 (List.replicate (a1 : Int).toNat 0) (wrap64 (a1 - 1))) else (none)) else (none)
theorem spec_l1Pack.mono_l : ∀ k, (∀ y0 y1 y2, LeO (spec_l1Pack.l0 k y0 y1 y2) (spec_l1Pack.l0 (k + 1) y0 y1 y2))
 | 0 => fun _ _ _ r h => by simp [spec_l1Pack.l0] at h
 | k + 1 => by
  have ih0 := spec_l1Pack.mono_l k
  ·
   intro y0 y1 y2
   unfold spec_l1Pack.l0
   repeat' first
   | (with_reducible exact ih0 _ _ _)
   | (with_reducible exact LeO.refl _)
   | (with_reducible exact LeO.none _)
   | (with_reducible refine LeO.ite ?_ ?_)
   | (with_reducible refine LeO.bind ?_ (fun _ => ?_))
   | exact ih0 _ _ _
   | exact LeO.none _
   | refine LeO.ite ?_ ?_
   | refine LeO.bind ?_ (fun _ => ?_)
theorem spec_l1Pack.mono : ∀ a0 a1 k, LeO (spec_l1Pack.f k a0 a1) (spec_l1Pack.f (k + 1) a0 a1) := by
 intro a0 a1 k
 have ih0 := spec_l1Pack.mono_l k
 unfold spec_l1Pack.f
 repeat' first
   | (with_reducible exact ih0 _ _ _)
   | (with_reducible exact LeO.refl _)
   | (with_reducible exact LeO.none _)
   | (with_reducible refine LeO.ite ?_ ?_)
   | (with_reducible refine LeO.bind ?_ (fun _ => ?_))
   | exact ih0 _ _ _
   | exact LeO.none _
   | refine LeO.ite ?_ ?_
   | refine LeO.bind ?_ (fun _ => ?_)
set_option maxHeartbeats 8000000 in
set_option maxRecDepth 100000 in
theorem spec_l1Pack.calls (k : Nat) (a0 : Int) (a1 : Int) (r : List Int) (w : World) (h : spec_l1Pack.f k a0 a1 = some r) :
  Calls Try.prog 70 #[.int .i64 a0, .int .i64 a1] w fun e w' => ∃ v0_ : Value, e = .returned (v0_) ∧ Kd.R (Kd.int .u8) 5 w' w.heap.size (fun _ => True) v0_ r ∧ Below w.heap.size w w' := by
 have HB := Aside0.mk (Below.refl w.heap.size w)
 have H : (if 0 ≤ a1 then (if (a1 : Int).toNat ≤ 281474976710656 then (spec_l1Pack.l0 k a0 (List.replicate (a1 : Int).toNat 0) (wrap64 (a1 - 1))) else (none)) else (none)) = some r := h
 clear h
 by_cases c3 : 0 ≤ a1
 ·
  rw [if_pos c3] at H; have c3b0 := eq_true c3; have c3b1 : decide (0 ≤ a1) = true := decide_eq_true c3; clear c3
  by_cases c4 : (a1 : Int).toNat ≤ 281474976710656
  ·
   rw [if_pos c4] at H; have c4b0 := eq_true c4; have c4b1 : decide ((a1 : Int).toNat ≤ 281474976710656) = true := decide_eq_true c4; clear c4; obtain ⟨y119, hy119⟩ : ∃ y_ : List Int, y_ = (List.replicate (a1 : Int).toNat 0) := ⟨_, rfl⟩; replace H : (spec_l1Pack.l0 k a0 y119 (wrap64 (a1 - 1))) = some r := by first | (rw [hy119]; with_reducible exact H) | (have H2_ := (Option.bind_some _ _).symm.trans H; rw [hy119]; with_reducible exact H2_) | (have H2_ := (Option.bind_some _ _).symm.trans H; with_reducible exact H2_) | with_reducible exact H | (rw [hy119]; exact H) | exact H
   have Ny119 := Aside0.mk hy119; clear hy119; have H' := Aside0.mk H; clear H
   go_enter Try.func70, Try.ntmps70
   go_wp2_with (first | ((with_reducible refine gate_dst (N := 8) rfl ?_); refine Kd.R_make (Kd.int .u8) _ 5 rfl (N := 8) rfl 24 _ _ rfl a1 rfl rfl Try.underlying24 (.int .u8 0) 1 info5 rfl (by decide) (by omega) 0 (ok := fun _ => True) (okp := fun _ => True) rfl (fun _ hk => hk) trivial (of_decide_eq_true (by first | (with_reducible assumption) | assumption)) (Nat.le_trans (Nat.mul_le_mul_right _ (of_decide_eq_true (by first | (with_reducible assumption) | assumption) : a1.toNat ≤ 281474976710656)) (by omega)) (Below.refl _ _) (Nat.le_refl _) ?_; intro v120 w5 ho6 hb hg_ hnew_; clear hg_ hnew_; (first | rw [← Ny119.out] at ho6 | (simp only [Int.reduceToNat] at ho6; rw [← Ny119.out] at ho6)); have HO121 := Aside0.mk (Kd.R_lower ho6 (below_size below_a)); replace HB := Aside0.mk (below_step below_a hb); clear hb ho6))
   go_loopg [0, 6] k (fun kq v0 v6 w' => ∃ (x0_1 : Int) (x5_1 : List Int) (x6_1 : Int), v0 = .int .i64 x0_1 ∧ v6 = .int .i64 x6_1 ∧ Aside0 (spec_l1Pack.l0 kq x0_1 x5_1 x6_1 = some r) ∧ Aside0 (kq ≤ k) ∧ Aside0 (Kd.R (Kd.int .u8) 5 w' w.heap.size (fun _ => True) v120 x5_1) ∧ Aside0 (Below w.heap.size w w'))
   case atStart => exact ⟨(a0), (y119), (wrap64 (a1 - 1)), eq_b, eq_b, H', ⟨Nat.le_refl _⟩, ⟨R_a HO121.out⟩, ⟨below_a⟩⟩
   case round =>
    clear H'
    try clear p2
    try clear c3 c3b0 c3b1
    try clear c4 c4b0 c4b1
    try clear p6
    obtain ⟨x0_1, x5_1, x6_1, rfl, rfl, HA, HK1, HO_5, HB⟩ := hrel
    cases gk with
    | zero => exact absurd HA.out (by simp [spec_l1Pack.l0])
    | succ k1 =>
     have H := HA.out; clear HA; simp only [spec_l1Pack.l0] at H
     by_cases c7 : x6_1 ≥ 0
     ·
      rw [if_pos c7] at H; have c7b0 : decide (0 ≤ x6_1) = true := decide_eq_true c7; clear c7
      by_cases c8 : 0 ≤ x6_1
      ·
       rw [if_pos c8] at H; have c8b0 : decide (0 ≤ x6_1) = true := decide_eq_true c8; clear c8
       by_cases c9 : x6_1 < (x5_1.length : Int)
       ·
        rw [if_pos c9] at H; have c9b0 : decide (x6_1 < (x5_1.length : Int)) = true := decide_eq_true c9; clear c9; obtain ⟨y122, hy122⟩ : ∃ y_ : List Int, y_ = (x5_1.set (x6_1 : Int).toNat ((Int.tmod x0_1 256) % 256)) := ⟨_, rfl⟩; replace H : (spec_l1Pack.l0 k1 (wrap64 (Int.tdiv x0_1 256)) y122 (wrap64 (x6_1 - 1))) = some r := by first | (rw [hy122]; with_reducible exact H) | (have H2_ := (Option.bind_some _ _).symm.trans H; rw [hy122]; with_reducible exact H2_) | (have H2_ := (Option.bind_some _ _).symm.trans H; with_reducible exact H2_) | with_reducible exact H | (rw [hy122]; exact H) | exact H
        have Ny122 := Aside0.mk hy122; clear hy122; have H' := Aside0.mk H; clear H; have p10 : 0 ≤ (x6_1 : Int) := of_decide_eq_true (by first | (with_reducible assumption) | assumption); have q10 : (x6_1 : Int) < ((x5_1.length : Int) : Int) := of_decide_eq_true (by first | (with_reducible assumption) | assumption); obtain ⟨go10, co10, eo10, gb10, gl10, cl10, HG10⟩ := Kd.R_form HO_5.out (by omega); (first | cases eo10 | (injection eo10 with ea_ en_ ec_; (first | subst ea_ | (injection ea_ with ea_; subst ea_)); subst ec_; clear en_)); have GB10 := Aside0.mk gb10; have GG10 := Aside0.mk HG10; clear gb10 gl10 HG10; obtain ⟨hx10_0, hf10_0⟩ := Kd.R_celln 0 HO_5.out (x6_1 : Int) p10 q10; replace p10 := eq_true p10; replace q10 := eq_true q10; have HP11 := Kd.R_putg HO_5.out (x6_1 : Int) ((Int.tmod x0_1 256) % 256)
        go_wp2_with (first | ((with_reducible refine gate_store (t := 5) (p := 20) rfl ?_); refine store_event (t := 5) (p := 20) (v := ?vo_w12) (w1 := (wr.setCell ⟨go10, (x6_1 : Int).toNat, none⟩ (.int .u8 ((Int.tmod x0_1 256) % 256)))) ?hg ?ho ?hn ?hr ?_; (case ho => rfl); (case hg => rfl); (case hn => rfl); (case hr => first | (go_simp; done) | (go_simp; rfl)); intro w12 hw; have hg : wr.grownBy w12 (some go10) := (by rw [hw]; exact HP11.2); have hp_ : Kd.R (Kd.int .u8) 5 w12 w.heap.size (fun _ => True) (.slice (some ⟨go10, 0, none⟩) x5_1.length co10) y122 := (by rw [hw, Ny122.out]; exact HP11.1); clear HP11; replace HO_5 := Aside0.mk (hp_); replace HB := Aside0.mk ((by rw [hw]; exact below_set (HB.out) GB10.out : Below w.heap.size w w12)); clear hg hw hp_))
        go_roundg k1
        case measure => have := HK1.out; omega
        case rel => exact ⟨(wrap64 (Int.tdiv x0_1 256)), (y122), (wrap64 (x6_1 - 1)), eq_b, eq_b, H', ⟨by have := HK1.out; omega⟩, ⟨R_a HO_5.out⟩, ⟨below_a⟩⟩
       ·
        rw [if_neg c9] at H; exact absurd H (by simp)
      ·
       rw [if_neg c8] at H; exact absurd H (by simp)
     ·
      rw [if_neg c7] at H; have c7b0 : decide (0 ≤ x6_1) = false := decide_eq_false c7; clear c7; obtain rfl := Option.some.inj H
      go_wp2
      go_ret
      exact ⟨_, eq_a, R_a HO_5.out, below_a⟩
  ·
   rw [if_neg c4] at H; exact absurd H (by simp)
 ·
  rw [if_neg c3] at H; exact absurd H (by simp)

/-! ### spec_l10Pair: function 65 -/
def spec_l10Pair.f (k : Nat) (a0 : Int) : Option (List Int) := (spec_l1Pack.f k a0 2).bind fun t123 => (some t123)
theorem spec_l10Pair.mono : ∀ a0 k, LeO (spec_l10Pair.f k a0) (spec_l10Pair.f (k + 1) a0) := by
 intro a0 k
 unfold spec_l10Pair.f
 repeat' first
   | (with_reducible exact spec_l1Pack.mono _ _ _)
   | (with_reducible exact LeO.refl _)
   | (with_reducible exact LeO.none _)
   | (with_reducible refine LeO.ite ?_ ?_)
   | (with_reducible refine LeO.bind ?_ (fun _ => ?_))
   | exact spec_l1Pack.mono _ _ _
   | exact LeO.none _
   | refine LeO.ite ?_ ?_
   | refine LeO.bind ?_ (fun _ => ?_)
set_option maxHeartbeats 8000000 in
set_option maxRecDepth 100000 in
theorem spec_l10Pair.calls (k : Nat) (a0 : Int) (r : List Int) (w : World) (h : spec_l10Pair.f k a0 = some r) :
  Calls Try.prog 65 #[.int .i64 a0] w fun e w' => ∃ v0_ : Value, e = .returned (v0_) ∧ Kd.R (Kd.int .u8) 5 w' w.heap.size (fun _ => True) v0_ r ∧ Below w.heap.size w w' := by
 have HB := Aside0.mk (Below.refl w.heap.size w)
 have H : ((spec_l1Pack.f k a0 2).bind fun t123 => (some t123)) = some r := h
 clear h
 replace H := Option.bind_eq_some_iff.mp H
 obtain ⟨t123, A20, H⟩ := H
 replace H : (some t123) = some r := H
 have A2 := Aside0.mk A20
 clear A20
 obtain rfl := Option.some.inj H
 go_enter Try.func65, Try.ntmps65
 go_wp2_with (first | ((with_reducible refine gate_callee (f := 70) rfl ?_); refine goesL_ (some 4) rfl rfl Try.func70 (by kernel_rfl) rfl #[.int .i64 a0, .int .i64 2] rfl args_a ?_; (with_reducible refine (spec_l1Pack.calls k a0 2 t123 _ A2.out).mono ?_); rintro e w3 ⟨v124, rfl, ho0, hb⟩; refine ⟨_, rfl, ?_⟩; have HO125 := Aside0.mk (Kd.R_lower ho0 (below_size below_a)); replace HB := Aside0.mk (below_step below_a hb); (try clear hb); (try clear hb2); (try clear hk); (try clear hi); (try clear ho0)))
 go_ret
 exact ⟨_, eq_a, R_a HO125.out, below_a⟩

/-! ### spec_l10Query: function 56 -/
def spec_l10Query.f (k : Nat) (a0_0 : Int) (l0_1 : List ByteArray) (a0_2 : Int) : Option (List Int) := (spec_l10Pair.f k a0_0).bind fun t126 => ((some (([1, 0, 0, 1, 0, 0, 0, 0, 0, 0] : List Int) : List Int)).bind fun y129 => (if t126.length + y129.length < 140737488355328 then ((some (t126 ++ y129 : List Int)).bind fun y132 => ((spec_l10Name.f k l0_1).bind fun t135 => (if y132.length + t135.length < 140737488355328 then ((some (y132 ++ t135 : List Int)).bind fun y138 => ((spec_l10Pair.f k a0_2).bind fun t141 => (if y138.length + t141.length < 140737488355328 then ((some (y138 ++ t141 : List Int)).bind fun y144 => ((some (([0, 1] : List Int) : List Int)).bind fun y147 => (if y144.length + y147.length < 140737488355328 then (some (y144 ++ y147)) else (none)))) else (none)))) else (none)))) else (none)))
theorem spec_l10Query.mono : ∀ a0 a1 a2 k, LeO (spec_l10Query.f k a0 a1 a2) (spec_l10Query.f (k + 1) a0 a1 a2) := by
 intro a0 a1 a2 k
 unfold spec_l10Query.f
 repeat' first
   | (with_reducible exact spec_l10Name.mono _ _)
   | (with_reducible exact spec_l10Pair.mono _ _)
   | (with_reducible exact LeO.refl _)
   | (with_reducible exact LeO.none _)
   | (with_reducible refine LeO.ite ?_ ?_)
   | (with_reducible refine LeO.bind ?_ (fun _ => ?_))
   | exact spec_l10Name.mono _ _
   | exact spec_l10Pair.mono _ _
   | exact LeO.none _
   | refine LeO.ite ?_ ?_
   | refine LeO.bind ?_ (fun _ => ?_)
def spec_l10Query.T2 : Bool × List (List Nat × List Nat) := (true, [([], []), ([], []), ([1], [1]), ([2], [2]), ([3], [3]), ([4], [4]), ([0, 5, 5], [0, 5]), ([], []), ([7], [7]), ([8], [8]), ([9], [9]), ([10, 6], [10]), ([6, 11, 11], [6, 11]), ([12, 12, 0, 1, 2, 3, 4, 5, 6, 7, 8, 9, 10, 11, 12], [0, 12])])
def spec_l10Query.B2 : List Nat := [0, 0, 2, 6, 14, 30, 63, 0, 128, 384, 896, 2047, 4095, 8191]
theorem spec_l10Query.tab2 : rtab .any (opsOf Try.f56 2) = spec_l10Query.T2 := by kernel_rfl
theorem spec_l10Query.bits2 : waitsOk spec_l10Query.T2.2 spec_l10Query.B2 = true := by kernel_rfl
set_option maxHeartbeats 8000000 in
set_option maxRecDepth 100000 in
theorem spec_l10Query.calls (k : Nat) (p : Addr) (a0_0 : Int) (A0_1 : Option Addr) (c0_1 : Nat) (l0_1 : List ByteArray) (a0_2 : Int) (r : List Int) (w : World) (hr0_1 : Kd.C Kd.string w A0_1 l0_1.length l0_1) (hc0_1 : l0_1.length ≤ c0_1) (hxp_0 : w.cell? p = some (.int .i64 a0_0)) (hxp_1 : w.cell? ⟨p.block, p.off + 1, none⟩ = some (.slice A0_1 l0_1.length c0_1)) (hxp_2 : w.cell? ⟨p.block, p.off + 2, none⟩ = some (.int .i64 a0_2)) (h : spec_l10Query.f k a0_0 l0_1 a0_2 = some r) :
  Calls Try.prog 56 #[.pointer (some p)] w fun e w' => ∃ v0_ : Value, e = .returned (v0_) ∧ Kd.R (Kd.int .u8) 5 w' w.heap.size (fun _ => True) v0_ r ∧ Below w.heap.size w w' := by
 have HXP_0 := Aside0.mk hxp_0
 have HXP_1 := Aside0.mk hxp_1
 have HXP_2 := Aside0.mk hxp_2
 have HLP := Aside0.mk (show p.block < w.heap.size from World.block_lt_of_cell? w _ hxp_0)
 clear hxp_0 hxp_1 hxp_2
 have HR0_1 := Aside0.mk hr0_1
 have HC0_1 := Aside0.mk hc0_1
 clear hr0_1 hc0_1
 have HB := Aside0.mk (Below.refl w.heap.size w)
 have H : ((spec_l10Pair.f k a0_0).bind fun t126 => ((some (([1, 0, 0, 1, 0, 0, 0, 0, 0, 0] : List Int) : List Int)).bind fun y129 => (if t126.length + y129.length < 140737488355328 then ((some (t126 ++ y129 : List Int)).bind fun y132 => ((spec_l10Name.f k l0_1).bind fun t135 => (if y132.length + t135.length < 140737488355328 then ((some (y132 ++ t135 : List Int)).bind fun y138 => ((spec_l10Pair.f k a0_2).bind fun t141 => (if y138.length + t141.length < 140737488355328 then ((some (y138 ++ t141 : List Int)).bind fun y144 => ((some (([0, 1] : List Int) : List Int)).bind fun y147 => (if y144.length + y147.length < 140737488355328 then (some (y144 ++ y147)) else (none)))) else (none)))) else (none)))) else (none)))) = some r := h
 clear h
 replace H := Option.bind_eq_some_iff.mp H
 obtain ⟨t126, A20, H⟩ := H
 replace H : ((some (([1, 0, 0, 1, 0, 0, 0, 0, 0, 0] : List Int) : List Int)).bind fun y129 => (if t126.length + y129.length < 140737488355328 then ((some (t126 ++ y129 : List Int)).bind fun y132 => ((spec_l10Name.f k l0_1).bind fun t135 => (if y132.length + t135.length < 140737488355328 then ((some (y132 ++ t135 : List Int)).bind fun y138 => ((spec_l10Pair.f k a0_2).bind fun t141 => (if y138.length + t141.length < 140737488355328 then ((some (y138 ++ t141 : List Int)).bind fun y144 => ((some (([0, 1] : List Int) : List Int)).bind fun y147 => (if y144.length + y147.length < 140737488355328 then (some (y144 ++ y147)) else (none)))) else (none)))) else (none)))) else (none))) = some r := H
 have A2 := Aside0.mk A20
 clear A20
 obtain ⟨y129, hy129⟩ : ∃ y_ : List Int, y_ = (([1, 0, 0, 1, 0, 0, 0, 0, 0, 0] : List Int)) := ⟨_, rfl⟩
 replace H : (if t126.length + y129.length < 140737488355328 then ((some (t126 ++ y129 : List Int)).bind fun y132 => ((spec_l10Name.f k l0_1).bind fun t135 => (if y132.length + t135.length < 140737488355328 then ((some (y132 ++ t135 : List Int)).bind fun y138 => ((spec_l10Pair.f k a0_2).bind fun t141 => (if y138.length + t141.length < 140737488355328 then ((some (y138 ++ t141 : List Int)).bind fun y144 => ((some (([0, 1] : List Int) : List Int)).bind fun y147 => (if y144.length + y147.length < 140737488355328 then (some (y144 ++ y147)) else (none)))) else (none)))) else (none)))) else (none)) = some r := by first | (rw [hy129]; with_reducible exact H) | (have H2_ := (Option.bind_some _ _).symm.trans H; rw [hy129]; with_reducible exact H2_) | (have H2_ := (Option.bind_some _ _).symm.trans H; with_reducible exact H2_) | with_reducible exact H | (rw [hy129]; exact H) | exact H
 have Ny129 := Aside0.mk hy129
 clear hy129
 by_cases c3 : t126.length + y129.length < 140737488355328
 ·
  rw [if_pos c3] at H; have LMc3 := Aside0.mk c3; clear c3; obtain ⟨y132, hy132⟩ : ∃ y_ : List Int, y_ = (t126 ++ y129) := ⟨_, rfl⟩; replace H : ((spec_l10Name.f k l0_1).bind fun t135 => (if y132.length + t135.length < 140737488355328 then ((some (y132 ++ t135 : List Int)).bind fun y138 => ((spec_l10Pair.f k a0_2).bind fun t141 => (if y138.length + t141.length < 140737488355328 then ((some (y138 ++ t141 : List Int)).bind fun y144 => ((some (([0, 1] : List Int) : List Int)).bind fun y147 => (if y144.length + y147.length < 140737488355328 then (some (y144 ++ y147)) else (none)))) else (none)))) else (none))) = some r := by first | (rw [hy132]; with_reducible exact H) | (have H2_ := (Option.bind_some _ _).symm.trans H; rw [hy132]; with_reducible exact H2_) | (have H2_ := (Option.bind_some _ _).symm.trans H; with_reducible exact H2_) | with_reducible exact H | (rw [hy132]; exact H) | exact H
  have Ny132 := Aside0.mk hy132; clear hy132; replace H := Option.bind_eq_some_iff.mp H; obtain ⟨t135, A40, H⟩ := H; replace H : (if y132.length + t135.length < 140737488355328 then ((some (y132 ++ t135 : List Int)).bind fun y138 => ((spec_l10Pair.f k a0_2).bind fun t141 => (if y138.length + t141.length < 140737488355328 then ((some (y138 ++ t141 : List Int)).bind fun y144 => ((some (([0, 1] : List Int) : List Int)).bind fun y147 => (if y144.length + y147.length < 140737488355328 then (some (y144 ++ y147)) else (none)))) else (none)))) else (none)) = some r := H; have A4 := Aside0.mk A40; clear A40
  by_cases c5 : y132.length + t135.length < 140737488355328
  ·
   rw [if_pos c5] at H; have LMc5 := Aside0.mk c5; clear c5; obtain ⟨y138, hy138⟩ : ∃ y_ : List Int, y_ = (y132 ++ t135) := ⟨_, rfl⟩; replace H : ((spec_l10Pair.f k a0_2).bind fun t141 => (if y138.length + t141.length < 140737488355328 then ((some (y138 ++ t141 : List Int)).bind fun y144 => ((some (([0, 1] : List Int) : List Int)).bind fun y147 => (if y144.length + y147.length < 140737488355328 then (some (y144 ++ y147)) else (none)))) else (none))) = some r := by first | (rw [hy138]; with_reducible exact H) | (have H2_ := (Option.bind_some _ _).symm.trans H; rw [hy138]; with_reducible exact H2_) | (have H2_ := (Option.bind_some _ _).symm.trans H; with_reducible exact H2_) | with_reducible exact H | (rw [hy138]; exact H) | exact H
   have Ny138 := Aside0.mk hy138; clear hy138; replace H := Option.bind_eq_some_iff.mp H; obtain ⟨t141, A60, H⟩ := H; replace H : (if y138.length + t141.length < 140737488355328 then ((some (y138 ++ t141 : List Int)).bind fun y144 => ((some (([0, 1] : List Int) : List Int)).bind fun y147 => (if y144.length + y147.length < 140737488355328 then (some (y144 ++ y147)) else (none)))) else (none)) = some r := H; have A6 := Aside0.mk A60; clear A60
   by_cases c7 : y138.length + t141.length < 140737488355328
   ·
    rw [if_pos c7] at H; have LMc7 := Aside0.mk c7; clear c7; obtain ⟨y144, hy144⟩ : ∃ y_ : List Int, y_ = (y138 ++ t141) := ⟨_, rfl⟩; replace H : ((some (([0, 1] : List Int) : List Int)).bind fun y147 => (if y144.length + y147.length < 140737488355328 then (some (y144 ++ y147)) else (none))) = some r := by first | (rw [hy144]; with_reducible exact H) | (have H2_ := (Option.bind_some _ _).symm.trans H; rw [hy144]; with_reducible exact H2_) | (have H2_ := (Option.bind_some _ _).symm.trans H; with_reducible exact H2_) | with_reducible exact H | (rw [hy144]; exact H) | exact H
    have Ny144 := Aside0.mk hy144; clear hy144; obtain ⟨y147, hy147⟩ : ∃ y_ : List Int, y_ = (([0, 1] : List Int)) := ⟨_, rfl⟩; replace H : (if y144.length + y147.length < 140737488355328 then (some (y144 ++ y147)) else (none)) = some r := by first | (rw [hy147]; with_reducible exact H) | (have H2_ := (Option.bind_some _ _).symm.trans H; rw [hy147]; with_reducible exact H2_) | (have H2_ := (Option.bind_some _ _).symm.trans H; with_reducible exact H2_) | with_reducible exact H | (rw [hy147]; exact H) | exact H
    have Ny147 := Aside0.mk hy147; clear hy147
    by_cases c8 : y144.length + y147.length < 140737488355328
    ·
     rw [if_pos c8] at H; have LMc8 := Aside0.mk c8; clear c8; obtain ⟨y150, hy150⟩ : ∃ y_ : List Int, y_ = (y144 ++ y147) := ⟨_, rfl⟩; replace H : (some y150) = some r := by first | (rw [hy150]; with_reducible exact H) | (have H2_ := (Option.bind_some _ _).symm.trans H; rw [hy150]; with_reducible exact H2_) | (have H2_ := (Option.bind_some _ _).symm.trans H; with_reducible exact H2_) | with_reducible exact H | (rw [hy150]; exact H) | exact H
     have Ny150 := Aside0.mk hy150; clear hy150; obtain rfl := Option.some.inj H; have hcz9_0 : w.cell? p = some (.int .i64 a0_0) := (HB.out.cell (p := p) HLP.out).trans HXP_0.out; have hcz9_1 : w.cell? ⟨p.block, p.off + 1, none⟩ = some (.slice A0_1 l0_1.length c0_1) := (HB.out.cell (p := ⟨p.block, p.off + 1, none⟩) HLP.out).trans HXP_1.out; have hcz9_2 : w.cell? ⟨p.block, p.off + 2, none⟩ = some (.int .i64 a0_2) := (HB.out.cell (p := ⟨p.block, p.off + 2, none⟩) HLP.out).trans HXP_2.out
     go_enter Try.func56, Try.ntmps56
     try go_wp2_with (first | ((with_reducible refine gate_callee (f := 65) rfl ?_); refine goesL_ (some 8) rfl rfl Try.func65 (by kernel_rfl) rfl #[.int .i64 a0_0] rfl args_a ?_; (with_reducible refine (spec_l10Pair.calls k a0_0 t126 _ A2.out).mono ?_); rintro e w10 ⟨v127, rfl, ho0, hb⟩; refine ⟨_, rfl, ?_⟩; have HO128 := Aside0.mk (Kd.R_lower ho0 (below_size below_a)); replace HB := Aside0.mk (below_step below_a hb); (try clear hb); (try clear hb2); (try clear hk); (try clear hi); (try clear ho0)) | ((with_reducible refine gate_dst (N := 9) rfl ?_); refine Kd.R_lit (Kd.int .u8) _ 5 ?hg (N := 9) ?hd (xs := ([1, 0, 0, 1, 0, 0, 0, 0, 0, 0] : List Int)) (inner := [.int .u8 1, .int .u8 0, .int .u8 0, .int .u8 1, .int .u8 0, .int .u8 0, .int .u8 0, .int .u8 0, .int .u8 0, .int .u8 0]) (ok := fun _ => True) (okp := fun _ => True) ?hr ?hp (fun _ hk => hk) trivial (Below.refl _ _) (Nat.le_refl _) (by simp) ?_; (case hd => rfl); (case hg => rfl); (case hr => first | (go_simp; done) | (go_simp; rfl)); (case hp => exact (Reps.one (show Kd.M (Kd.int .u8) _ _ _ 1 [.int .u8 1] from rfl) (Reps.one (show Kd.M (Kd.int .u8) _ _ _ 0 [.int .u8 0] from rfl) (Reps.one (show Kd.M (Kd.int .u8) _ _ _ 0 [.int .u8 0] from rfl) (Reps.one (show Kd.M (Kd.int .u8) _ _ _ 1 [.int .u8 1] from rfl) (Reps.one (show Kd.M (Kd.int .u8) _ _ _ 0 [.int .u8 0] from rfl) (Reps.one (show Kd.M (Kd.int .u8) _ _ _ 0 [.int .u8 0] from rfl) (Reps.one (show Kd.M (Kd.int .u8) _ _ _ 0 [.int .u8 0] from rfl) (Reps.one (show Kd.M (Kd.int .u8) _ _ _ 0 [.int .u8 0] from rfl) (Reps.one (show Kd.M (Kd.int .u8) _ _ _ 0 [.int .u8 0] from rfl) (Reps.one (show Kd.M (Kd.int .u8) _ _ _ 0 [.int .u8 0] from rfl) (Reps.none _ _)))))))))))); intro v130 w11 ho12 hb hg_ hnew_; clear hg_ hnew_; (first | rw [← Ny129.out] at ho12 | (simp only [Int.reduceToNat] at ho12; rw [← Ny129.out] at ho12)); have n0_ := Aside0.mk (Kd.R_elder' (R_a HO128.out) (Kd.R_base ho12) hb); have HO131 := Aside0.mk (Kd.R_lower (Kd.R_new' ho12 (Kd.R_lt (R_a HO128.out))) (below_size below_a)); replace HB := Aside0.mk (below_step below_a hb); replace HO128 := n0_; clear n0_; clear hb ho12; obtain ⟨Ao14, co14, eo14⟩ := Kd.R_slice HO131.out; subst eo14) | ((with_reducible refine gate_builtin (b := .append) (xs := #[.tmp 8, .tmp 9]) rfl ?_); at_builtin; refine Kd.R_append_rows (Kd.int .u8) (w0 := w) w.heap.size rfl (.tmp 8) (.tmp 9) 24 5 (.int .u8 0) 1 rfl Try.underlying24 info5 rfl (by decide) (by omega) v127 t126 y129 _ _ _ (fun k_ => some k_ ≠ (.slice Ao14 y129.length co14 : Value).ownBlock) (fun _ => False) rfl rfl ?aO ?aR (fun _ _ h => h) (fun _ h => h.elim) ?aF ?aB ?aS ?aL ?_; (case aR => repeat (first | exact (Kd.R_reads' HO131.out).2.2 | (with_reducible refine Kd.C_alloc ?_ _) | (with_reducible refine Kd.C_drewN ?_ _) | (with_reducible refine Kd.C_drew ?_))); (case aB => exact below_a); (case aF => exact (fun k_ hk => Kd.fresh' (Kd.R_lt (R_a HO131.out)) k_ hk)); (case aO => exact (by (with_reducible repeat (first | apply Kd.R_alloc | apply Kd.R_drewN | apply Kd.R_drew)); exact Kd.R_mono HO128.out (fun _ hk => hk.2))); (case aS => exact (below_size below_a)); (case aL => have := LMc3.out; omega); intro v133 w13 ho hb hg hat; rw [← Ny132.out] at ho; replace HO131 := Aside0.mk (Kd.R_after (ok := (fun _ => True)) (R_a HO131.out) hg hat); replace HB := Aside0.mk (hb); have HO134 := Aside0.mk (ho); clear HO128; clear ho hb hg hat))
     replace HO131 := Aside0.mk (Kd.R_drew HO131.out); replace HO134 := Aside0.mk (Kd.R_drew HO134.out); replace HB := Aside0.mk (below_drew1 HB.out); refine start_ (n := 14) (S := fun w' => w'.cell? p = some (.int .i64 a0_0) ∧ w'.cell? ⟨p.block, p.off + 1, none⟩ = some (.slice A0_1 l0_1.length c0_1) ∧ w'.cell? ⟨p.block, p.off + 2, none⟩ = some (.int .i64 a0_2)) (ds := []) #[Z',Z',Z',Z',Z',Z',Z',Z',Z',Z',Z',Z',Z',Z'] (by kernel_rfl) rfl rfl ⟨((HB.out.cell (p := p) HLP.out).trans HXP_0.out), ((HB.out.cell (p := ⟨p.block, p.off + 1, none⟩) HLP.out).trans HXP_1.out), ((HB.out.cell (p := ⟨p.block, p.off + 2, none⟩) HLP.out).trans HXP_2.out)⟩ (fun hHeld => ?_); refine with_tabW spec_l10Query.tab2 spec_l10Query.bits2 (fun HT_ HW_ => ?_); generalize w13.drew = w15 at HO131 HO134 HB hHeld ⊢; refine pure_ (i := 0) (N := some 11) (v := ?_) (a' := ?_) #[Y',Z',Z',Z',Z',Z',Z',Z',Z',Z',Z',Z',Z',Z'] rfl rfl (any_of HT_.out (by kernel_rfl)) (fun _ _ _ h => h) (Or.inl ⟨by rfl, ?_⟩) ?_ ?_; rotate_left
     ·
      intro w'
      go_simp
      with_reducible rfl
     rotate_left
     ·
      simp only [Act.put, List.setIfInBounds_toArray, List.set_cons_zero, List.set_cons_succ, i64_w, i32_w]; rfl
     refine pure_ (i := 1) (N := some 12) (v := ?_) (a' := ?_) #[Y',Y',Z',Z',Z',Z',Z',Z',Z',Z',Z',Z',Z',Z'] rfl rfl (any_of HT_.out (by kernel_rfl)) (fun _ _ _ h => h) (Or.inl ⟨by rfl, ?_⟩) ?_ ?_; rotate_left
     ·
      intro w'
      go_simp
      with_reducible rfl
     rotate_left
     ·
      simp only [Act.put, List.setIfInBounds_toArray, List.set_cons_zero, List.set_cons_succ, i64_w, i32_w]; rfl
     refine pure_ (i := 2) (N := some 13) (v := ?_) (a' := ?_) #[Y',Y',Y',Z',Z',Z',Z',Z',Z',Z',Z',Z',Z',Z'] rfl rfl (any_of HT_.out (by kernel_rfl)) (fun _ _ _ h => h) (Or.inl ⟨by rfl, ?_⟩) ?_ ?_; rotate_left
     ·
      intro w'
      go_simp
      with_reducible rfl
     rotate_left
     ·
      simp only [Act.put, List.setIfInBounds_toArray, List.set_cons_zero, List.set_cons_succ, i64_w, i32_w]; rfl
     refine pure_ (i := 3) (N := some 14) (v := ?_) (a' := ?_) #[Y',Y',Y',Y',Z',Z',Z',Z',Z',Z',Z',Z',Z',Z'] rfl rfl (any_of HT_.out (by kernel_rfl)) (fun _ _ _ h => h) (Or.inl ⟨by rfl, ?_⟩) ?_ ?_; rotate_left
     ·
      intro w'
      go_simp
      with_reducible rfl
     rotate_left
     ·
      simp only [Act.put, List.setIfInBounds_toArray, List.set_cons_zero, List.set_cons_succ, i64_w, i32_w]; rfl
     refine pure_ (i := 7) (N := some 18) (v := ?_) (a' := ?_) #[Y',Y',Y',Y',Z',Z',Z',Y',Z',Z',Z',Z',Z',Z'] rfl rfl (any_of HT_.out (by kernel_rfl)) (fun _ _ _ h => h) (Or.inl ⟨by rfl, ?_⟩) ?_ ?_; rotate_left
     ·
      intro w'
      go_simp
      with_reducible rfl
     rotate_left
     ·
      simp only [Act.put, List.setIfInBounds_toArray, List.set_cons_zero, List.set_cons_succ, i64_w, i32_w]; rfl
     refine pure_ (i := 8) (N := some 19) (v := ?_) (a' := ?_) #[Y',Y',Y',Y',Z',Z',Z',Y',Y',Z',Z',Z',Z',Z'] rfl rfl (any_of HT_.out (by kernel_rfl)) (fun _ _ _ h => h) (Or.inl ⟨by rfl, ?_⟩) ?_ ?_; rotate_left
     ·
      intro w'
      go_simp
      with_reducible rfl
     rotate_left
     ·
      simp only [Act.put, List.setIfInBounds_toArray, List.set_cons_zero, List.set_cons_succ, i64_w, i32_w]; rfl
     refine pure_ (i := 9) (N := some 20) (v := ?_) (a' := ?_) #[Y',Y',Y',Y',Z',Z',Z',Y',Y',Y',Z',Z',Z',Z'] rfl rfl (any_of HT_.out (by kernel_rfl)) (fun _ _ _ h => h) (Or.inl ⟨by rfl, ?_⟩) ?_ ?_; rotate_left
     ·
      intro w'
      go_simp
      with_reducible rfl
     rotate_left
     ·
      simp only [Act.put, List.setIfInBounds_toArray, List.set_cons_zero, List.set_cons_succ, i64_w, i32_w]; rfl
     refine take_ (i := 4) (N := some 15) (v := ?_) (a' := ?_) #[Y',Y',Y',Y',Y',Z',Z',Y',Y',Y',Z',Z',Z',Z'] rfl rfl (take_ofW HT_.out HW_.out (by kernel_rfl)) (fun _ _ _ h => h) (Or.inl ⟨by rfl, ?_⟩) hHeld ?_ ?_; rotate_left
     ·
      rintro w' ⟨s0, s1, s2⟩
      go_simp
      with_reducible rfl
     rotate_left
     ·
      simp only [Act.put, List.setIfInBounds_toArray, List.set_cons_zero, List.set_cons_succ, i64_w, i32_w]; rfl
     refine take_ (i := 10) (N := some 21) (v := ?_) (a' := ?_) #[Y',Y',Y',Y',Y',Z',Z',Y',Y',Y',Y',Z',Z',Z'] rfl rfl (take_ofW HT_.out HW_.out (by kernel_rfl)) (fun _ _ _ h => h) (Or.inl ⟨by rfl, ?_⟩) hHeld ?_ ?_; rotate_left
     ·
      rintro w' ⟨s0, s1, s2⟩
      go_simp
      with_reducible rfl
     rotate_left
     ·
      simp only [Act.put, List.setIfInBounds_toArray, List.set_cons_zero, List.set_cons_succ, i64_w, i32_w]; rfl
     refine one_ (i := 5) (N := some 16) #[Y',Y',Y',Y',Y',Y',Z',Y',Y',Y',Y',Z',Z',Z'] rfl rfl (one_of HT_.out (by kernel_rfl)) (by decide) (fun K hK => ?_); refine goes_ Try.func40 (by kernel_rfl) rfl #[.slice A0_1 l0_1.length c0_1] (by rfl) rfl rfl args_a ?_
     with_reducible refine (spec_l10Name.calls k _ _ l0_1 t135 _ ?side1 ?side2 A4.out).mono ?_
     (case side1 => repeat (first | exact (Kd.C_below HR0_1.out HB.out) | (with_reducible refine Kd.C_alloc ?_ _) | (with_reducible refine Kd.C_drewN ?_ _) | (with_reducible refine Kd.C_drew ?_))); (case side2 => exact HC0_1.out); rintro e w16 ⟨v136, rfl, ho0, hb⟩; refine ⟨_, rfl, ?_⟩; have n0_ := Aside0.mk (Kd.R_elder' (R_a HO131.out) (Kd.R_base ho0) hb); have n1_ := Aside0.mk (Kd.R_elder' (R_a HO134.out) (Kd.R_base ho0) hb); have HO137 := Aside0.mk (Kd.R_lower (Kd.R_new' (Kd.R_new' ho0 (Kd.R_lt (R_a HO131.out))) (Kd.R_lt (R_a HO134.out))) (below_size below_a)); replace HB := Aside0.mk (below_step below_a hb); replace HO131 := n0_; replace HO134 := n1_; clear n0_ n1_; (try clear hb); (try clear hb2); (try clear hk); (try clear hi); (try clear ho0); obtain ⟨Ao18, co18, eo18⟩ := Kd.R_slice HO137.out; (first | subst eo18 | (injection eo18 with f1_ f2_ f3_; have f4_ := f1_.symm; have f5_ := f3_.symm; clear f1_ f2_ f3_; subst f4_; subst f5_)); refine hK.out _ _ ⟨((HB.out.cell (p := p) HLP.out).trans HXP_0.out), ((HB.out.cell (p := ⟨p.block, p.off + 1, none⟩) HLP.out).trans HXP_1.out), ((HB.out.cell (p := ⟨p.block, p.off + 2, none⟩) HLP.out).trans HXP_2.out)⟩ (fun hHeld => ?_); clear hK K; refine norm_ (a' := ?_) ?_ ?_; rotate_left
     ·
      show Act.put _ (some 16) _ = _; simp only [Act.put, List.setIfInBounds_toArray, List.set_cons_zero, List.set_cons_succ, i64_w, i32_w]; rfl
     refine one_ (i := 6) (N := some 17) #[Y',Y',Y',Y',Y',Y',Y',Y',Y',Y',Y',Z',Z',Z'] rfl rfl (one_of HT_.out (by kernel_rfl)) (by decide) (fun K hK => ?_); refine Kd.R_append_rows_step (Kd.int .u8) (w0 := w) w.heap.size (by rfl) (.tmp 11) (.tmp 16) 24 5 (.int .u8 0) 1 rfl Try.underlying24 info5 rfl (by decide) (by omega) v133 y132 t135 _ _ _ (fun k_ => some k_ ≠ (.slice Ao14 y129.length co14 : Value).ownBlock ∧ some k_ ≠ (.slice Ao18 t135.length co18 : Value).ownBlock) (fun _ => False) rfl rfl ?aO ?aR (fun _ _ h => h) (fun _ h => h.elim) ?aF ?aB ?aS ?aL ?_; (case aR => repeat (first | exact (Kd.R_reads' HO137.out).2.2 | (with_reducible refine Kd.C_alloc ?_ _) | (with_reducible refine Kd.C_drewN ?_ _) | (with_reducible refine Kd.C_drew ?_))); (case aB => exact below_a); (case aF => exact (fun k_ hk => ⟨Kd.fresh' (Kd.R_lt (R_a HO131.out)) k_ hk, Kd.fresh' (Kd.R_lt (R_a HO137.out)) k_ hk⟩)); (case aO => exact (R_a HO134.out)); (case aS => exact (below_size below_a)); (case aL => have := LMc5.out; omega); intro v139 w17 ho hb hg hat; rw [← Ny138.out] at ho; replace HO131 := Aside0.mk (Kd.R_after (ok := (fun k_ => some k_ ≠ (.slice Ao18 t135.length co18 : Value).ownBlock)) (by (with_reducible repeat (first | apply Kd.R_alloc | apply Kd.R_drewN | apply Kd.R_drew)); exact Kd.R_mono HO131.out (fun _ hk => ⟨hk.2, hk.1.2⟩)) hg hat); replace HO137 := Aside0.mk (Kd.R_after (ok := (fun k_ => some k_ ≠ (.slice Ao14 y129.length co14 : Value).ownBlock)) (by (with_reducible repeat (first | apply Kd.R_alloc | apply Kd.R_drewN | apply Kd.R_drew)); exact Kd.R_mono HO137.out (fun _ hk => ⟨hk.1.2, hk.2⟩)) hg hat); replace HB := Aside0.mk (hb); have HO140 := Aside0.mk (ho); clear HO134 ho hb hg hat; refine hK.out _ _ ⟨((HB.out.cell (p := p) HLP.out).trans HXP_0.out), ((HB.out.cell (p := ⟨p.block, p.off + 1, none⟩) HLP.out).trans HXP_1.out), ((HB.out.cell (p := ⟨p.block, p.off + 2, none⟩) HLP.out).trans HXP_2.out)⟩ (fun hHeld => ?_); clear hK K; refine norm_ (a' := ?_) ?_ ?_; rotate_left
     ·
      show Act.put _ (some 17) _ = _; simp only [Act.put, List.setIfInBounds_toArray, List.set_cons_zero, List.set_cons_succ, i64_w, i32_w]; rfl
     refine one_ (i := 11) (N := some 22) #[Y',Y',Y',Y',Y',Y',Y',Y',Y',Y',Y',Y',Z',Z'] rfl rfl (one_of HT_.out (by kernel_rfl)) (by decide) (fun K hK => ?_); refine goes_ Try.func65 (by kernel_rfl) rfl #[.int .i64 a0_2] (by rfl) rfl rfl args_a ?_
     with_reducible refine (spec_l10Pair.calls k a0_2 t141 _ A6.out).mono ?_
     rintro e w19 ⟨v142, rfl, ho0, hb⟩; refine ⟨_, rfl, ?_⟩; have n0_ := Aside0.mk (Kd.R_elder' (R_a HO131.out) (Kd.R_base ho0) hb); have n1_ := Aside0.mk (Kd.R_elder' (R_a HO137.out) (Kd.R_base ho0) hb); have n2_ := Aside0.mk (Kd.R_elder' (R_a HO140.out) (Kd.R_base ho0) hb); have HO143 := Aside0.mk (Kd.R_lower (Kd.R_new' (Kd.R_new' (Kd.R_new' ho0 (Kd.R_lt (R_a HO131.out))) (Kd.R_lt (R_a HO137.out))) (Kd.R_lt (R_a HO140.out))) (below_size below_a)); replace HB := Aside0.mk (below_step below_a hb); replace HO131 := n0_; replace HO137 := n1_; replace HO140 := n2_; clear n0_ n1_ n2_; (try clear hb); (try clear hb2); (try clear hk); (try clear hi); (try clear ho0); obtain ⟨Ao21, co21, eo21⟩ := Kd.R_slice HO143.out; (first | subst eo21 | (injection eo21 with f1_ f2_ f3_; have f4_ := f1_.symm; have f5_ := f3_.symm; clear f1_ f2_ f3_; subst f4_; subst f5_)); refine hK.out _ _ ⟨((HB.out.cell (p := p) HLP.out).trans HXP_0.out), ((HB.out.cell (p := ⟨p.block, p.off + 1, none⟩) HLP.out).trans HXP_1.out), ((HB.out.cell (p := ⟨p.block, p.off + 2, none⟩) HLP.out).trans HXP_2.out)⟩ (fun hHeld => ?_); clear hK K; refine norm_ (a' := ?_) ?_ ?_; rotate_left
     ·
      show Act.put _ (some 22) _ = _; simp only [Act.put, List.setIfInBounds_toArray, List.set_cons_zero, List.set_cons_succ, i64_w, i32_w]; rfl
     refine one_ (i := 12) (N := some 23) #[Y',Y',Y',Y',Y',Y',Y',Y',Y',Y',Y',Y',Y',Z'] rfl rfl (one_of HT_.out (by kernel_rfl)) (by decide) (fun K hK => ?_); refine Kd.R_append_rows_step (Kd.int .u8) (w0 := w) w.heap.size (by rfl) (.tmp 17) (.tmp 22) 24 5 (.int .u8 0) 1 rfl Try.underlying24 info5 rfl (by decide) (by omega) v139 y138 t141 _ _ _ (fun k_ => some k_ ≠ (.slice Ao14 y129.length co14 : Value).ownBlock ∧ some k_ ≠ (.slice Ao18 t135.length co18 : Value).ownBlock ∧ some k_ ≠ (.slice Ao21 t141.length co21 : Value).ownBlock) (fun _ => False) rfl rfl ?aO ?aR (fun _ _ h => h) (fun _ h => h.elim) ?aF ?aB ?aS ?aL ?_; (case aR => repeat (first | exact (Kd.R_reads' HO143.out).2.2 | (with_reducible refine Kd.C_alloc ?_ _) | (with_reducible refine Kd.C_drewN ?_ _) | (with_reducible refine Kd.C_drew ?_))); (case aB => exact below_a); (case aF => exact (fun k_ hk => ⟨Kd.fresh' (Kd.R_lt (R_a HO131.out)) k_ hk, Kd.fresh' (Kd.R_lt (R_a HO137.out)) k_ hk, Kd.fresh' (Kd.R_lt (R_a HO143.out)) k_ hk⟩)); (case aO => exact (by (with_reducible repeat (first | apply Kd.R_alloc | apply Kd.R_drewN | apply Kd.R_drew)); exact Kd.R_mono HO140.out (fun _ hk => ⟨hk.1.1, ⟨hk.1.2, hk.2⟩⟩))); (case aS => exact (below_size below_a)); (case aL => have := LMc7.out; omega); intro v145 w20 ho hb hg hat; rw [← Ny144.out] at ho; replace HO131 := Aside0.mk (Kd.R_after (ok := (fun k_ => some k_ ≠ (.slice Ao18 t135.length co18 : Value).ownBlock ∧ some k_ ≠ (.slice Ao21 t141.length co21 : Value).ownBlock)) (by (with_reducible repeat (first | apply Kd.R_alloc | apply Kd.R_drewN | apply Kd.R_drew)); exact Kd.R_mono HO131.out (fun _ hk => ⟨⟨hk.1.1, hk.2⟩, hk.1.2⟩)) hg hat); replace HO137 := Aside0.mk (Kd.R_after (ok := (fun k_ => some k_ ≠ (.slice Ao14 y129.length co14 : Value).ownBlock ∧ some k_ ≠ (.slice Ao21 t141.length co21 : Value).ownBlock)) (by (with_reducible repeat (first | apply Kd.R_alloc | apply Kd.R_drewN | apply Kd.R_drew)); exact Kd.R_mono HO137.out (fun _ hk => ⟨⟨hk.1.1, hk.2⟩, hk.1.2⟩)) hg hat); replace HO143 := Aside0.mk (Kd.R_after (ok := (fun k_ => some k_ ≠ (.slice Ao14 y129.length co14 : Value).ownBlock ∧ some k_ ≠ (.slice Ao18 t135.length co18 : Value).ownBlock)) (by (with_reducible repeat (first | apply Kd.R_alloc | apply Kd.R_drewN | apply Kd.R_drew)); exact Kd.R_mono HO143.out (fun _ hk => ⟨⟨hk.1.1.2, hk.1.2⟩, hk.2⟩)) hg hat); replace HB := Aside0.mk (hb); have HO146 := Aside0.mk (ho); clear HO140 ho hb hg hat; refine hK.out _ _ ⟨((HB.out.cell (p := p) HLP.out).trans HXP_0.out), ((HB.out.cell (p := ⟨p.block, p.off + 1, none⟩) HLP.out).trans HXP_1.out), ((HB.out.cell (p := ⟨p.block, p.off + 2, none⟩) HLP.out).trans HXP_2.out)⟩ (fun hHeld => ?_); clear hK K; refine norm_ (a' := ?_) ?_ ?_; rotate_left
     ·
      show Act.put _ (some 23) _ = _; simp only [Act.put, List.setIfInBounds_toArray, List.set_cons_zero, List.set_cons_succ, i64_w, i32_w]; rfl
     refine pure_ (i := 13) (N := some 3) (v := ?_) (a' := ?_) #[Y',Y',Y',Y',Y',Y',Y',Y',Y',Y',Y',Y',Y',Y'] rfl rfl (any_of HT_.out (by kernel_rfl)) (fun _ _ _ h => h) (Or.inl ⟨by rfl, ?_⟩) ?_ ?_; rotate_left
     ·
      intro w'
      go_simp
      with_reducible rfl
     rotate_left
     ·
      simp only [Act.put, List.setIfInBounds_toArray, List.set_cons_zero, List.set_cons_succ, i64_w, i32_w]; rfl
     refine done_ (done_of HT_.out (by kernel_rfl)) ?_
     try go_wp2_with (first | ((with_reducible refine gate_dst (N := 25) rfl ?_); refine Kd.R_lit (Kd.int .u8) _ 5 ?hg (N := 25) ?hd (xs := ([0, 1] : List Int)) (inner := [.int .u8 0, .int .u8 1]) (ok := fun _ => True) (okp := fun _ => True) ?hr ?hp (fun _ hk => hk) trivial (Below.refl _ _) (Nat.le_refl _) (by simp) ?_; (case hd => rfl); (case hg => rfl); (case hr => first | (go_simp; done) | (go_simp; rfl)); (case hp => exact (Reps.one (show Kd.M (Kd.int .u8) _ _ _ 0 [.int .u8 0] from rfl) (Reps.one (show Kd.M (Kd.int .u8) _ _ _ 1 [.int .u8 1] from rfl) (Reps.none _ _)))); intro v148 w22 ho23 hb hg_ hnew_; clear hg_ hnew_; (first | rw [← Ny147.out] at ho23 | (simp only [Int.reduceToNat] at ho23; rw [← Ny147.out] at ho23)); have n0_ := Aside0.mk (Kd.R_elder' (R_a HO131.out) (Kd.R_base ho23) hb); have n1_ := Aside0.mk (Kd.R_elder' (R_a HO137.out) (Kd.R_base ho23) hb); have n2_ := Aside0.mk (Kd.R_elder' (R_a HO143.out) (Kd.R_base ho23) hb); have n3_ := Aside0.mk (Kd.R_elder' (R_a HO146.out) (Kd.R_base ho23) hb); have HO149 := Aside0.mk (Kd.R_lower (Kd.R_new' (Kd.R_new' (Kd.R_new' (Kd.R_new' ho23 (Kd.R_lt (R_a HO131.out))) (Kd.R_lt (R_a HO137.out))) (Kd.R_lt (R_a HO143.out))) (Kd.R_lt (R_a HO146.out))) (below_size below_a)); replace HB := Aside0.mk (below_step below_a hb); replace HO131 := n0_; replace HO137 := n1_; replace HO143 := n2_; replace HO146 := n3_; clear n0_ n1_ n2_ n3_; clear hb ho23; obtain ⟨Ao25, co25, eo25⟩ := Kd.R_slice HO149.out; subst eo25) | ((with_reducible refine gate_builtin (b := .append) (xs := #[.tmp 24, .tmp 25]) rfl ?_); at_builtin; refine Kd.R_append_rows (Kd.int .u8) (w0 := w) w.heap.size rfl (.tmp 24) (.tmp 25) 24 5 (.int .u8 0) 1 rfl Try.underlying24 info5 rfl (by decide) (by omega) v145 y144 y147 _ _ _ (fun k_ => some k_ ≠ (.slice Ao14 y129.length co14 : Value).ownBlock ∧ some k_ ≠ (.slice Ao18 t135.length co18 : Value).ownBlock ∧ some k_ ≠ (.slice Ao21 t141.length co21 : Value).ownBlock ∧ some k_ ≠ (.slice Ao25 y147.length co25 : Value).ownBlock) (fun _ => False) rfl rfl ?aO ?aR (fun _ _ h => h) (fun _ h => h.elim) ?aF ?aB ?aS ?aL ?_; (case aR => repeat (first | exact (Kd.R_reads' HO149.out).2.2 | (with_reducible refine Kd.C_alloc ?_ _) | (with_reducible refine Kd.C_drewN ?_ _) | (with_reducible refine Kd.C_drew ?_))); (case aB => exact below_a); (case aF => exact (fun k_ hk => ⟨Kd.fresh' (Kd.R_lt (R_a HO131.out)) k_ hk, Kd.fresh' (Kd.R_lt (R_a HO137.out)) k_ hk, Kd.fresh' (Kd.R_lt (R_a HO143.out)) k_ hk, Kd.fresh' (Kd.R_lt (R_a HO149.out)) k_ hk⟩)); (case aO => exact (by (with_reducible repeat (first | apply Kd.R_alloc | apply Kd.R_drewN | apply Kd.R_drew)); exact Kd.R_mono HO146.out (fun _ hk => ⟨hk.1.1, ⟨hk.1.2.1, ⟨hk.1.2.2, hk.2⟩⟩⟩))); (case aS => exact (below_size below_a)); (case aL => have := LMc8.out; omega); intro v151 w24 ho hb hg hat; rw [← Ny150.out] at ho; replace HO131 := Aside0.mk (Kd.R_after (ok := (fun k_ => some k_ ≠ (.slice Ao18 t135.length co18 : Value).ownBlock ∧ some k_ ≠ (.slice Ao21 t141.length co21 : Value).ownBlock ∧ some k_ ≠ (.slice Ao25 y147.length co25 : Value).ownBlock)) (by (with_reducible repeat (first | apply Kd.R_alloc | apply Kd.R_drewN | apply Kd.R_drew)); exact Kd.R_mono HO131.out (fun _ hk => ⟨⟨hk.1.1.1, ⟨hk.1.1.2, hk.2⟩⟩, hk.1.2⟩)) hg hat); replace HO137 := Aside0.mk (Kd.R_after (ok := (fun k_ => some k_ ≠ (.slice Ao14 y129.length co14 : Value).ownBlock ∧ some k_ ≠ (.slice Ao21 t141.length co21 : Value).ownBlock ∧ some k_ ≠ (.slice Ao25 y147.length co25 : Value).ownBlock)) (by (with_reducible repeat (first | apply Kd.R_alloc | apply Kd.R_drewN | apply Kd.R_drew)); exact Kd.R_mono HO137.out (fun _ hk => ⟨⟨hk.1.1.1, ⟨hk.1.1.2, hk.2⟩⟩, hk.1.2⟩)) hg hat); replace HO143 := Aside0.mk (Kd.R_after (ok := (fun k_ => some k_ ≠ (.slice Ao14 y129.length co14 : Value).ownBlock ∧ some k_ ≠ (.slice Ao18 t135.length co18 : Value).ownBlock ∧ some k_ ≠ (.slice Ao25 y147.length co25 : Value).ownBlock)) (by (with_reducible repeat (first | apply Kd.R_alloc | apply Kd.R_drewN | apply Kd.R_drew)); exact Kd.R_mono HO143.out (fun _ hk => ⟨⟨hk.1.1.1, ⟨hk.1.1.2, hk.2⟩⟩, hk.1.2⟩)) hg hat); replace HO149 := Aside0.mk (Kd.R_after (ok := (fun k_ => some k_ ≠ (.slice Ao14 y129.length co14 : Value).ownBlock ∧ some k_ ≠ (.slice Ao18 t135.length co18 : Value).ownBlock ∧ some k_ ≠ (.slice Ao21 t141.length co21 : Value).ownBlock)) (by (with_reducible repeat (first | apply Kd.R_alloc | apply Kd.R_drewN | apply Kd.R_drew)); exact Kd.R_mono HO149.out (fun _ hk => ⟨⟨hk.1.1.1.2, ⟨hk.1.1.2, hk.1.2⟩⟩, hk.2⟩)) hg hat); replace HB := Aside0.mk (hb); have HO152 := Aside0.mk (ho); clear HO146; clear ho hb hg hat))
     go_ret
     exact ⟨_, eq_a, by (with_reducible repeat (first | apply Kd.R_alloc | apply Kd.R_drewN | apply Kd.R_drew)); exact Kd.R_mono HO152.out (fun _ hk => trivial), below_a⟩
    ·
     rw [if_neg c8] at H; exact absurd H (by simp)
   ·
    rw [if_neg c7] at H; exact absurd H (by simp)
  ·
   rw [if_neg c5] at H; exact absurd H (by simp)
 ·
  rw [if_neg c3] at H; exact absurd H (by simp)

/-! ### spec_l1Read: function 68 -/
def spec_l1Read.l0 : Nat → List Int → Int → Int → Int → Int → Option (Int)
 | 0, _, _, _, _, _ => none
 | k + 1, x0, x1, x2, x7, x8 => if x8 < x2 then (if 0 ≤ (wrap64 (x1 + x8)) then (if (wrap64 (x1 + x8)) < (x0.length : Int) then (spec_l1Read.l0 k x0 x1 x2 (wrap64 ((wrap64 (x7 * 256)) + (wrap64 (rd x0 (wrap64 (x1 + x8)))))) (wrap64 (x8 + 1))) else (none)) else (none)) else (some x7)
def spec_l1Read.f (k : Nat) (l0 : List Int) (a1 : Int) (a2 : Int) : Option (Int) := spec_l1Read.l0 k l0 a1 a2 0 0
theorem spec_l1Read.mono_l : ∀ k, (∀ y0 y1 y2 y3 y4, LeO (spec_l1Read.l0 k y0 y1 y2 y3 y4) (spec_l1Read.l0 (k + 1) y0 y1 y2 y3 y4))
 | 0 => fun _ _ _ _ _ r h => by simp [spec_l1Read.l0] at h
 | k + 1 => by
  have ih0 := spec_l1Read.mono_l k
  ·
   intro y0 y1 y2 y3 y4
   unfold spec_l1Read.l0
   repeat' first
   | (with_reducible exact ih0 _ _ _ _ _)
   | (with_reducible exact LeO.refl _)
   | (with_reducible exact LeO.none _)
   | (with_reducible refine LeO.ite ?_ ?_)
   | (with_reducible refine LeO.bind ?_ (fun _ => ?_))
   | exact ih0 _ _ _ _ _
   | exact LeO.none _
   | refine LeO.ite ?_ ?_
   | refine LeO.bind ?_ (fun _ => ?_)
theorem spec_l1Read.mono : ∀ a0 a1 a2 k, LeO (spec_l1Read.f k a0 a1 a2) (spec_l1Read.f (k + 1) a0 a1 a2) := by
 intro a0 a1 a2 k
 have ih0 := spec_l1Read.mono_l k
 unfold spec_l1Read.f
 repeat' first
   | (with_reducible exact ih0 _ _ _ _ _)
   | (with_reducible exact LeO.refl _)
   | (with_reducible exact LeO.none _)
   | (with_reducible refine LeO.ite ?_ ?_)
   | (with_reducible refine LeO.bind ?_ (fun _ => ?_))
   | exact ih0 _ _ _ _ _
   | exact LeO.none _
   | refine LeO.ite ?_ ?_
   | refine LeO.bind ?_ (fun _ => ?_)
set_option maxHeartbeats 8000000 in
set_option maxRecDepth 100000 in
theorem spec_l1Read.calls (k : Nat) (A0 : Option Addr) (c0 : Nat) (l0 : List Int) (a1 : Int) (a2 : Int) (r : Int) (w : World) (hr0 : Kd.C (Kd.int .u8) w A0 l0.length l0) (hc0 : l0.length ≤ c0) (h : spec_l1Read.f k l0 a1 a2 = some r) :
  Calls Try.prog 68 #[.slice A0 l0.length c0, .int .i64 a1, .int .i64 a2] w fun e w' => e = .returned (.int .i64 r) ∧ Drawn0 w w' := by
 have HR0 := Aside0.mk hr0
 have HC0 := Aside0.mk hc0
 clear hr0 hc0
 have H : (spec_l1Read.l0 k l0 a1 a2 0 0) = some r := h
 clear h
 have H' := Aside0.mk H
 clear H
 go_enter Try.func68, Try.ntmps68
 go_wp2
 go_loopg [7, 8] k (fun kq v7 v8 w' => ∃ (x7_1 : Int) (x8_1 : Int), v7 = .int .i64 x7_1 ∧ v8 = .int .i64 x8_1 ∧ Aside0 (spec_l1Read.l0 kq l0 a1 a2 x7_1 x8_1 = some r) ∧ Aside0 (kq ≤ k) ∧ Drawn0 w w')
 case atStart => exact ⟨(0), (0), eq_b, eq_b, H', ⟨Nat.le_refl _⟩, by repeat (first | exact Drawn0.refl _ | apply Drawn0.step)⟩
 case round =>
  clear H'
  try clear p2
  obtain ⟨x7_1, x8_1, rfl, rfl, HA, HK1, ⟨m1, rfl⟩⟩ := hrel
  cases gk with
  | zero => exact absurd HA.out (by simp [spec_l1Read.l0])
  | succ k1 =>
   have H := HA.out; clear HA; simp only [spec_l1Read.l0] at H
   by_cases c4 : x8_1 < a2
   ·
    rw [if_pos c4] at H; have c4b0 : decide (x8_1 < a2) = true := decide_eq_true c4; clear c4; obtain ⟨ji5, hji5⟩ : ∃ j_ : Int, (wrap64 (a1 + x8_1)) = j_ := ⟨_, rfl⟩; replace H : (if 0 ≤ (ji5) then (if (ji5) < (l0.length : Int) then (spec_l1Read.l0 k1 l0 a1 a2 (wrap64 ((wrap64 (x7_1 * 256)) + (wrap64 (rd l0 (ji5))))) (wrap64 (x8_1 + 1))) else (none)) else (none)) = some r := by first | (rw [hji5] at H; exact H) | (simp only [hji5] at H ⊢; exact H)
    have hji5w : (IntKind.i64.wrap (a1 + x8_1)) = ji5 := (i64_w _).trans hji5
    by_cases c6 : 0 ≤ (ji5)
    ·
     rw [if_pos c6] at H; have c6b0 : decide (0 ≤ (ji5)) = true := decide_eq_true c6; clear c6
     by_cases c7 : (ji5) < (l0.length : Int)
     ·
      rw [if_pos c7] at H; have c7b0 : decide ((ji5) < (l0.length : Int)) = true := decide_eq_true c7; clear c7; have H' := Aside0.mk H; clear H; have p153 : 0 ≤ ((ji5) : Int) := of_decide_eq_true (by first | (with_reducible assumption) | assumption); have q153 : (ji5) < (l0.length : Int) := of_decide_eq_true (by first | (with_reducible assumption) | assumption); obtain ⟨ad153, e153, hx153_0⟩ := Kd.at_int HR0.out (ji5) p153 q153
      cases e153
      replace p153 := eq_true p153; replace q153 := eq_true q153
      go_wp2
      go_roundg k1
      case measure => have := HK1.out; omega
      case rel => exact ⟨(wrap64 ((wrap64 (x7_1 * 256)) + (wrap64 (rd l0 (ji5))))), (wrap64 (x8_1 + 1)), (by first | rfl | (simp; done) | (simp only [← hji5] <;> (first | rfl | simp)) | (simp [*]; done)), eq_b, H', ⟨by have := HK1.out; omega⟩, by repeat (first | exact Drawn0.refl _ | apply Drawn0.step)⟩
     ·
      rw [if_neg c7] at H; exact absurd H (by simp)
    ·
     rw [if_neg c6] at H; exact absurd H (by simp)
   ·
    rw [if_neg c4] at H; have c4b0 : decide (x8_1 < a2) = false := decide_eq_false c4; clear c4; obtain rfl := Option.some.inj H
    go_wp2
    go_ret
    exact ⟨eq_b, by repeat (first | exact Drawn0.refl _ | apply Drawn0.step)⟩

end Go.Proofs.Ytllkeaghjacalaa.MFnExactReadQuery
