-- Laid by a program of this session (the kit's print, turned where it falls short; the texts of functions that it does not take are proved by hand).
import Derived.Test.YtpjelfgeohklkaaMFnExactDecodeMessagex0
import Derived.Test.YtpjelfgeohklkaaMFnExactDecodeMessagex1
import Derived.Test.YtpjelfgeohklkaaMFnExactDecodeMessagex4
namespace Go.Proofs.Ytpjelfgeohklkaa.MFnExactDecodeMessage
open Go.RowKit Go.Proofs.YtpjelfgeohklkaaW.PrintWords Go.Proofs.YtpjelfgeohklkaaW.PrintLast Go.Proofs.YtpjelfgeohklkaaW.PrintMore
attribute [local go_sem] max2_int min2_int max_two min_two max_three min_three max_four min_four   -- for this text's walks alone
set_option linter.unusedVariables false
set_option linter.unusedSimpArgs false

attribute [local go_sem high] eqA37
attribute [local go_sem] isSome_setCell
/-! ### impl_MessageFault: function 16 -/
mutual
def impl_MessageFault.j1 : Nat → Int → Int → Int → Int → Int → Int → Int → Int → Int → List Int → Int → Int → Int → Int → Int → Int → Int → Int → Int → List Int → Option (Int)
 | 0, _, _, _, _, _, _, _, _, _, _, _, _, _, _, _, _, _, _, _, _ => none
 | k + 1, x178000, x178001, x178002, x178003, x178004, x178005, x178006, x178007, x178008, x178009, x179000, x179001, x179002, x179003, x179004, x179005, x179006, x179007, x179008, x179009 => if x179001 = 0 then (if x179002 = 0 then (if (!(x179003 == 0) || (!(x179004 == 0) || (!(x179005 == 0) || (!(x179006 == 0))))) = true then (impl_MessageFault.j2 k true x178000 x178001 x178002 x178003 x178004 x178005 x178006 x178007 x178008 x178009) else (if x179007 = 0 then ((impl_isZeroKey.f x179008 x179009).bind fun t179 => (impl_MessageFault.j2 k (!t179) x178000 x178001 x178002 x178003 x178004 x178005 x178006 x178007 x178008 x178009)) else (impl_MessageFault.j2 k true x178000 x178001 x178002 x178003 x178004 x178005 x178006 x178007 x178008 x178009))) else (impl_MessageFault.j2 k true x178000 x178001 x178002 x178003 x178004 x178005 x178006 x178007 x178008 x178009)) else (impl_MessageFault.j2 k true x178000 x178001 x178002 x178003 x178004 x178005 x178006 x178007 x178008 x178009)
def impl_MessageFault.j2 : Nat → Bool → Int → Int → Int → Int → Int → Int → Int → Int → Int → List Int → Option (Int)
 | 0, _, _, _, _, _, _, _, _, _, _, _ => none
 | k + 1, x50, x178000, x178001, x178002, x178003, x178004, x178005, x178006, x178007, x178008, x178009 => if x50 = true then (some 1) else (if x178000 = 4 then ((impl_ClaimFault.f x178003 x178004 x178005 x178006).bind fun t180 => (some t180)) else ((impl_isSeq.f x178001).bind fun t181 => (if t181 = true then ((impl_isNode.f x178002).bind fun t182 => (impl_MessageFault.j3 k (!t182) x178000 x178001 x178002 x178003 x178004 x178005 x178006 x178007 x178008 x178009)) else (impl_MessageFault.j3 k true x178000 x178001 x178002 x178003 x178004 x178005 x178006 x178007 x178008 x178009))))
def impl_MessageFault.j3 : Nat → Bool → Int → Int → Int → Int → Int → Int → Int → Int → Int → List Int → Option (Int)
 | 0, _, _, _, _, _, _, _, _, _, _, _ => none
 | k + 1, x66, x178000, x178001, x178002, x178003, x178004, x178005, x178006, x178007, x178008, x178009 => if x66 = true then (some 3) else (if x178000 = 5 then (if x178007 = 1 then (impl_MessageFault.j4 k 16 x178000 x178001 x178002 x178003 x178004 x178005 x178006 x178007 x178008 x178009) else (impl_MessageFault.j4 k 0 x178000 x178001 x178002 x178003 x178004 x178005 x178006 x178007 x178008 x178009)) else (some 0))
def impl_MessageFault.j4 : Nat → Int → Int → Int → Int → Int → Int → Int → Int → Int → Int → List Int → Option (Int)
 | 0, _, _, _, _, _, _, _, _, _, _, _ => none
 | k + 1, x4, x178000, x178001, x178002, x178003, x178004, x178005, x178006, x178007, x178008, x178009 => (impl_in.f x178007 1 3).bind fun t183 => (if t183 = true then ((impl_isKeyId.f x178008).bind fun t184 => (impl_MessageFault.j5 k x4 (!t184) x178000 x178001 x178002 x178003 x178004 x178005 x178006 x178007 x178008 x178009)) else (impl_MessageFault.j5 k x4 true x178000 x178001 x178002 x178003 x178004 x178005 x178006 x178007 x178008 x178009))
def impl_MessageFault.j5 : Nat → Int → Bool → Int → Int → Int → Int → Int → Int → Int → Int → Int → List Int → Option (Int)
 | 0, _, _, _, _, _, _, _, _, _, _, _, _ => none
 | k + 1, x4, x73, x178000, x178001, x178002, x178003, x178004, x178005, x178006, x178007, x178008, x178009 => if x73 = true then (some 3) else (if (x178009.length : Int) = x4 then (some 0) else (some 2))
def impl_MessageFault.j0 : Nat → Int → Bool → Int → Int → Int → Int → Int → Int → Int → Int → Int → List Int → Int → Int → Int → Int → Int → Int → Int → Int → Int → List Int → Option (Int)
 | 0, _, _, _, _, _, _, _, _, _, _, _, _, _, _, _, _, _, _, _, _, _, _ => none
 | k + 1, x8, x9, x178000, x178001, x178002, x178003, x178004, x178005, x178006, x178007, x178008, x178009, x179000, x179001, x179002, x179003, x179004, x179005, x179006, x179007, x179008, x179009 => if x9 = true then (impl_MessageFault.j1 k x178000 x178001 x178002 x178003 x178004 x178005 x178006 x178007 x178008 x178009 x179000 0 0 x179003 x179004 x179005 x179006 x179007 x179008 x179009) else (if x8 = 2 then (impl_MessageFault.j1 k x178000 x178001 x178002 x178003 x178004 x178005 x178006 x178007 x178008 x178009 x179000 0 x179002 x179003 x179004 x179005 x179006 x179007 x179008 x179009) else (if x8 = 4 then (impl_MessageFault.j1 k x178000 x178001 x178002 x178003 x178004 x178005 x178006 x178007 x178008 x178009 x179000 x179001 x179002 0 0 0 0 x179007 x179008 x179009) else (if x8 = 5 then (impl_MessageFault.j1 k x178000 x178001 x178002 x178003 x178004 x178005 x178006 x178007 x178008 x178009 x179000 x179001 x179002 x179003 x179004 x179005 x179006 0 0 ([] : List Int)) else (some 1))))
end
def impl_MessageFault.f (k : Nat) (a0_0 : Int) (a0_1 : Int) (a0_2 : Int) (a0_3 : Int) (a0_4 : Int) (a0_5 : Int) (a0_6 : Int) (a0_7 : Int) (a0_8 : Int) (l0_9 : List Int) : Option (Int) := if a0_0 = 1 then (impl_MessageFault.j0 k a0_0 (a0_0 == 1) a0_0 a0_1 a0_2 a0_3 a0_4 a0_5 a0_6 a0_7 a0_8 l0_9 0 a0_1 a0_2 a0_3 a0_4 a0_5 a0_6 a0_7 a0_8 l0_9) else (impl_MessageFault.j0 k a0_0 (a0_0 == 3) a0_0 a0_1 a0_2 a0_3 a0_4 a0_5 a0_6 a0_7 a0_8 l0_9 0 a0_1 a0_2 a0_3 a0_4 a0_5 a0_6 a0_7 a0_8 l0_9)
set_option maxHeartbeats 8000000 in
set_option maxRecDepth 100000 in
theorem impl_MessageFault.calls (k : Nat) (a0_0 : Int) (a0_1 : Int) (a0_2 : Int) (a0_3 : Int) (a0_4 : Int) (a0_5 : Int) (a0_6 : Int) (a0_7 : Int) (a0_8 : Int) (P0_9_ : Nat → Prop) (A0_9 : Option Addr) (c0_9 : Nat) (l0_9 : List Int) (r : Int) (w : World) (hs0_9 : Kd.V (Kd.int .u8) 5 w w.heap.size (fun k_ => P0_9_ k_) (.slice A0_9 l0_9.length c0_9) l0_9) (h : impl_MessageFault.f k a0_0 a0_1 a0_2 a0_3 a0_4 a0_5 a0_6 a0_7 a0_8 l0_9 = some r) :
  Calls Try.prog 16 #[.agg #[.int .i64 a0_0, .int .i64 a0_1, .int .i64 a0_2, .int .i64 a0_3, .int .i64 a0_4, .int .i64 a0_5, .int .i64 a0_6, .int .i64 a0_7, .int .i64 a0_8, .slice A0_9 l0_9.length c0_9]] w fun e w' => e = .returned (.int .i64 r) ∧ Below w.heap.size w w' := by
 have hu40 := Try.underlying40
 have hu37 := Try.underlying37
 have hu38 := Try.underlying38
 have HO0_9 := Aside0.mk (show Kd.V (Kd.int .u8) 5 w w.heap.size (fun k_ => (P0_9_ k_ ∨ w.heap.size ≤ k_)) (.slice A0_9 l0_9.length c0_9) l0_9 from Kd.V_mono hs0_9 (fun k_ hk => .inl hk))
 have HB := Aside0.mk (Below.refl w.heap.size w)
 have H : (if a0_0 = 1 then (impl_MessageFault.j0 k a0_0 (a0_0 == 1) a0_0 a0_1 a0_2 a0_3 a0_4 a0_5 a0_6 a0_7 a0_8 l0_9 0 a0_1 a0_2 a0_3 a0_4 a0_5 a0_6 a0_7 a0_8 l0_9) else (impl_MessageFault.j0 k a0_0 (a0_0 == 3) a0_0 a0_1 a0_2 a0_3 a0_4 a0_5 a0_6 a0_7 a0_8 l0_9 0 a0_1 a0_2 a0_3 a0_4 a0_5 a0_6 a0_7 a0_8 l0_9)) = some r := h
 clear h
 have HC2 := Aside0.mk H
 clear H
 go_enter Try.func16, Try.ntmps16
 go_upto_block 0 with (first | ((with_reducible refine gate_dst (N := 1) rfl ?_); refine box_event ?hg (N := 1) ?hd (cs := #[.int .i64 a0_0, .int .i64 a0_1, .int .i64 a0_2, .int .i64 a0_3, .int .i64 a0_4, .int .i64 a0_5, .int .i64 a0_6, .int .i64 a0_7, .int .i64 a0_8, .slice A0_9 l0_9.length c0_9]) (t := 40) ?hr ?_; (case hd => rfl); (case hg => rfl); (case hr => first | (go_simp; done) | (go_simp; rfl)); intro gb177 hg w3 hbox hb; replace HO0_9 := Aside0.mk (Kd.V_below (Kd.V_elderB (by (with_reducible repeat (first | apply Kd.V_alloc | apply Kd.V_drewN | apply Kd.V_drew)); exact HO0_9.out) gb177 (Nat.le_of_eq hg.symm)) hb); have n1_ := Aside0.mk (below_step below_a hb); have BK177 := Aside0.mk (hbox); have GW177 := Aside0.mk (bsz_ (w := w) hg); have GE177 := Aside0.mk (bsz_ (w := w) hg); replace HB := n1_; clear n1_; clear hb hbox hg; have hcz4_0 : w3.cell? ⟨gb177, 0, none⟩ = some (.int .i64 a0_0) := (blk_cell BK177.out 0).trans rfl; have hcz4_1 : w3.cell? ⟨gb177, 1, none⟩ = some (.int .i64 a0_1) := (blk_cell BK177.out 1).trans rfl; have hcz4_2 : w3.cell? ⟨gb177, 2, none⟩ = some (.int .i64 a0_2) := (blk_cell BK177.out 2).trans rfl; have hcz4_3 : w3.cell? ⟨gb177, 3, none⟩ = some (.int .i64 a0_3) := (blk_cell BK177.out 3).trans rfl; have hcz4_4 : w3.cell? ⟨gb177, 4, none⟩ = some (.int .i64 a0_4) := (blk_cell BK177.out 4).trans rfl; have hcz4_5 : w3.cell? ⟨gb177, 5, none⟩ = some (.int .i64 a0_5) := (blk_cell BK177.out 5).trans rfl; have hcz4_6 : w3.cell? ⟨gb177, 6, none⟩ = some (.int .i64 a0_6) := (blk_cell BK177.out 6).trans rfl; have hcz4_7 : w3.cell? ⟨gb177, 7, none⟩ = some (.int .i64 a0_7) := (blk_cell BK177.out 7).trans rfl; have hcz4_8 : w3.cell? ⟨gb177, 8, none⟩ = some (.int .i64 a0_8) := (blk_cell BK177.out 8).trans rfl; have hcz4_9 : w3.cell? ⟨gb177, 9, none⟩ = some (.slice A0_9 l0_9.length c0_9) := (blk_cell BK177.out 9).trans rfl; have hfz4_0 := blk_frozen BK177.out 0; have hfz4_1 := blk_frozen BK177.out 1; have hfz4_2 := blk_frozen BK177.out 2; have hfz4_3 := blk_frozen BK177.out 3; have hfz4_4 := blk_frozen BK177.out 4; have hfz4_5 := blk_frozen BK177.out 5; have hfz4_6 := blk_frozen BK177.out 6; have hfz4_7 := blk_frozen BK177.out 7; have hfz4_8 := blk_frozen BK177.out 8; have hfz4_9 := blk_frozen BK177.out 9) | ((with_reducible refine gate_dst (N := 3) rfl ?_); refine box_event ?hg (N := 3) ?hd (cs := #[.int .i64 0, .int .i64 0, .int .i64 0, .int .i64 0, .int .i64 0, .int .i64 0, .int .i64 0, .int .i64 0, .int .i64 0, .slice none 0 0]) (t := 40) ?hr ?_; (case hd => rfl); (case hg => rfl); (case hr => first | (go_simp; done) | (go_simp; rfl)); intro gb178 hg w5 hbox hb; replace HO0_9 := Aside0.mk (Kd.V_below (Kd.V_elderB (by (with_reducible repeat (first | apply Kd.V_alloc | apply Kd.V_drewN | apply Kd.V_drew)); exact HO0_9.out) gb178 (Nat.le_of_eq hg.symm)) hb); have n1_ := Aside0.mk (blk_below (g := gb177) blk_c hb); have n2_ := Aside0.mk (below_step below_a hb); have BK178 := Aside0.mk (hbox); have GW178 := Aside0.mk (bsz_ (w := w) hg); have GE178 := Aside0.mk (bsz_ (w := w) hg); have NB177_178 := Aside0.mk (bne_ (g := gb177) hg); have NB178_177 := Aside0.mk (bne_ (g := gb177) hg).symm; replace BK177 := n1_; replace HB := n2_; clear n1_ n2_; clear hb hbox hg; have hnb6 := NB178_177.out; have hnc6 := NB177_178.out; have hcz7_0 : w5.cell? ⟨gb178, 0, none⟩ = some (.int .i64 0) := (blk_cell BK178.out 0).trans rfl; have hcz7_1 : w5.cell? ⟨gb178, 1, none⟩ = some (.int .i64 0) := (blk_cell BK178.out 1).trans rfl; have hcz7_2 : w5.cell? ⟨gb178, 2, none⟩ = some (.int .i64 0) := (blk_cell BK178.out 2).trans rfl; have hcz7_3 : w5.cell? ⟨gb178, 3, none⟩ = some (.int .i64 0) := (blk_cell BK178.out 3).trans rfl; have hcz7_4 : w5.cell? ⟨gb178, 4, none⟩ = some (.int .i64 0) := (blk_cell BK178.out 4).trans rfl; have hcz7_5 : w5.cell? ⟨gb178, 5, none⟩ = some (.int .i64 0) := (blk_cell BK178.out 5).trans rfl; have hcz7_6 : w5.cell? ⟨gb178, 6, none⟩ = some (.int .i64 0) := (blk_cell BK178.out 6).trans rfl; have hcz7_7 : w5.cell? ⟨gb178, 7, none⟩ = some (.int .i64 0) := (blk_cell BK178.out 7).trans rfl; have hcz7_8 : w5.cell? ⟨gb178, 8, none⟩ = some (.int .i64 0) := (blk_cell BK178.out 8).trans rfl; have hcz7_9 : w5.cell? ⟨gb178, 9, none⟩ = some (.slice none 0 0) := (blk_cell BK178.out 9).trans rfl; have hfz7_0 := blk_frozen BK178.out 0; have hfz7_1 := blk_frozen BK178.out 1; have hfz7_2 := blk_frozen BK178.out 2; have hfz7_3 := blk_frozen BK178.out 3; have hfz7_4 := blk_frozen BK178.out 4; have hfz7_5 := blk_frozen BK178.out 5; have hfz7_6 := blk_frozen BK178.out 6; have hfz7_7 := blk_frozen BK178.out 7; have hfz7_8 := blk_frozen BK178.out 8; have hfz7_9 := blk_frozen BK178.out 9; have hcz8_0 : w5.cell? ⟨gb177, 0, none⟩ = some (.int .i64 a0_0) := (blk_cell BK177.out 0).trans rfl; have hcz8_1 : w5.cell? ⟨gb177, 1, none⟩ = some (.int .i64 a0_1) := (blk_cell BK177.out 1).trans rfl; have hcz8_2 : w5.cell? ⟨gb177, 2, none⟩ = some (.int .i64 a0_2) := (blk_cell BK177.out 2).trans rfl; have hcz8_3 : w5.cell? ⟨gb177, 3, none⟩ = some (.int .i64 a0_3) := (blk_cell BK177.out 3).trans rfl; have hcz8_4 : w5.cell? ⟨gb177, 4, none⟩ = some (.int .i64 a0_4) := (blk_cell BK177.out 4).trans rfl; have hcz8_5 : w5.cell? ⟨gb177, 5, none⟩ = some (.int .i64 a0_5) := (blk_cell BK177.out 5).trans rfl; have hcz8_6 : w5.cell? ⟨gb177, 6, none⟩ = some (.int .i64 a0_6) := (blk_cell BK177.out 6).trans rfl; have hcz8_7 : w5.cell? ⟨gb177, 7, none⟩ = some (.int .i64 a0_7) := (blk_cell BK177.out 7).trans rfl; have hcz8_8 : w5.cell? ⟨gb177, 8, none⟩ = some (.int .i64 a0_8) := (blk_cell BK177.out 8).trans rfl; have hcz8_9 : w5.cell? ⟨gb177, 9, none⟩ = some (.slice A0_9 l0_9.length c0_9) := (blk_cell BK177.out 9).trans rfl; have hfz8_0 := blk_frozen BK177.out 0; have hfz8_1 := blk_frozen BK177.out 1; have hfz8_2 := blk_frozen BK177.out 2; have hfz8_3 := blk_frozen BK177.out 3; have hfz8_4 := blk_frozen BK177.out 4; have hfz8_5 := blk_frozen BK177.out 5; have hfz8_6 := blk_frozen BK177.out 6; have hfz8_7 := blk_frozen BK177.out 7; have hfz8_8 := blk_frozen BK177.out 8; have hfz8_9 := blk_frozen BK177.out 9))
 (try simp only [Act.put, List.setIfInBounds_toArray, List.set_cons_zero, List.set_cons_succ])
 go_cut [] (fun wc => ∃ (kq : Nat) (x179001_1 : Int) (x179002_1 : Int) (x179003_1 : Int) (x179004_1 : Int) (x179005_1 : Int) (x179006_1 : Int) (x179007_1 : Int) (x179008_1 : Int) (x179009_1 : List Int) (u179009 : Value), Aside0 (impl_MessageFault.j1 kq a0_0 a0_1 a0_2 a0_3 a0_4 a0_5 a0_6 a0_7 a0_8 l0_9 0 x179001_1 x179002_1 x179003_1 x179004_1 x179005_1 x179006_1 x179007_1 x179008_1 x179009_1 = some r) ∧ Aside0 (kq ≤ k) ∧ Aside0 (Kd.V (Kd.int .u8) 5 wc w.heap.size (fun k_ => (P0_9_ k_ ∨ w.heap.size ≤ k_) ∧ k_ ≠ gb177 ∧ k_ ≠ gb178) (.slice A0_9 l0_9.length c0_9) l0_9) ∧ Aside0 (Kd.V (Kd.int .u8) 5 wc w.heap.size (fun k_ => (P0_9_ k_ ∨ w.heap.size ≤ k_) ∧ k_ ≠ gb177 ∧ k_ ≠ gb178) u179009 x179009_1) ∧ Aside0 (wc.heap[gb177]? = some (.cells #[.int .i64 a0_0, .int .i64 a0_1, .int .i64 a0_2, .int .i64 a0_3, .int .i64 a0_4, .int .i64 a0_5, .int .i64 a0_6, .int .i64 a0_7, .int .i64 a0_8, (.slice A0_9 l0_9.length c0_9)] 40 (0, 0))) ∧ Aside0 (wc.heap[gb178]? = some (.cells #[.int .i64 0, .int .i64 x179001_1, .int .i64 x179002_1, .int .i64 x179003_1, .int .i64 x179004_1, .int .i64 x179005_1, .int .i64 x179006_1, .int .i64 x179007_1, .int .i64 x179008_1, u179009] 40 (0, 0))) ∧ Aside0 (Below w.heap.size w wc))
 case first =>
  have H := HC2.out; clear HC2; have HC9 := Aside0.mk H; clear H
  go_upto_if 9 with (fail)
  go_cut [9] (fun v9 wc => ∃ (kq : Nat) (x9_8 : Bool), v9 = .bool x9_8 ∧ Aside0 (impl_MessageFault.j0 kq a0_0 x9_8 a0_0 a0_1 a0_2 a0_3 a0_4 a0_5 a0_6 a0_7 a0_8 l0_9 0 a0_1 a0_2 a0_3 a0_4 a0_5 a0_6 a0_7 a0_8 l0_9 = some r) ∧ Aside0 (kq ≤ k) ∧ Aside0 (Kd.V (Kd.int .u8) 5 wc w.heap.size (fun k_ => (P0_9_ k_ ∨ w.heap.size ≤ k_) ∧ k_ ≠ gb177 ∧ k_ ≠ gb178) (.slice A0_9 l0_9.length c0_9) l0_9) ∧ Aside0 (Kd.V (Kd.int .u8) 5 wc w.heap.size (fun k_ => (P0_9_ k_ ∨ w.heap.size ≤ k_) ∧ k_ ≠ gb177 ∧ k_ ≠ gb178) (.slice A0_9 l0_9.length c0_9) l0_9) ∧ Aside0 (wc.heap[gb177]? = some (.cells #[.int .i64 a0_0, .int .i64 a0_1, .int .i64 a0_2, .int .i64 a0_3, .int .i64 a0_4, .int .i64 a0_5, .int .i64 a0_6, .int .i64 a0_7, .int .i64 a0_8, (.slice A0_9 l0_9.length c0_9)] 40 (0, 0))) ∧ Aside0 (wc.heap[gb178]? = some (.cells #[.int .i64 0, .int .i64 a0_1, .int .i64 a0_2, .int .i64 a0_3, .int .i64 a0_4, .int .i64 a0_5, .int .i64 a0_6, .int .i64 a0_7, .int .i64 a0_8, (.slice A0_9 l0_9.length c0_9)] 40 (0, 0))) ∧ Aside0 (Below w.heap.size w wc))
  case first =>
   have H := HC9.out; clear HC9
   by_cases c10 : a0_0 = 1
   ·
    rw [if_pos c10] at H; have c10b0 : (a0_0 == 1) = true := beq_iff_eq.mpr c10; have c10b1 : (a0_0 != 1) = false := bne_eq_false_iff_eq.mpr c10; clear c10; (first | rw [c10b0] | (simp only [i64_w, i32_w]; rw [c10b0]) | skip); have H' := Aside0.mk H; clear H
    go_wp2
    go_meet
    case rel => exact ⟨_, ((a0_0 == 1)), eq_b, H', ⟨by first | omega | exact Nat.le_refl _⟩, ⟨by (with_reducible repeat (first | apply Kd.V_alloc | apply Kd.V_drewN | apply Kd.V_drew)); exact Kd.V_mono (Kd.V_far (p := ⟨gb178, 0, none⟩) (Kd.V_far (p := ⟨gb178, 9, none⟩) (Kd.V_far (p := ⟨gb178, 8, none⟩) (Kd.V_far (p := ⟨gb178, 7, none⟩) (Kd.V_far (p := ⟨gb178, 6, none⟩) (Kd.V_far (p := ⟨gb178, 5, none⟩) (Kd.V_far (p := ⟨gb178, 4, none⟩) (Kd.V_far (p := ⟨gb178, 3, none⟩) (Kd.V_far (p := ⟨gb178, 2, none⟩) (Kd.V_far (p := ⟨gb178, 1, none⟩) (Kd.V_far (p := ⟨gb178, 0, none⟩) (Kd.V_mono HO0_9.out (fun k_ hk => (⟨hk, hk.2⟩ : _ ∧ k_ ≠ gb178))) (fun _ hk => hk.2) (.int .i64 a0_0)) (fun _ hk => hk.2) (.int .i64 a0_1)) (fun _ hk => hk.2) (.int .i64 a0_2)) (fun _ hk => hk.2) (.int .i64 a0_3)) (fun _ hk => hk.2) (.int .i64 a0_4)) (fun _ hk => hk.2) (.int .i64 a0_5)) (fun _ hk => hk.2) (.int .i64 a0_6)) (fun _ hk => hk.2) (.int .i64 a0_7)) (fun _ hk => hk.2) (.int .i64 a0_8)) (fun _ hk => hk.2) (.slice A0_9 l0_9.length c0_9)) (fun _ hk => hk.2) (.int .i64 0)) (fun _ hk => ⟨hk.1.1.1, ⟨hk.1.1.2, hk.1.2⟩⟩)⟩, ⟨by (with_reducible repeat (first | apply Kd.V_alloc | apply Kd.V_drewN | apply Kd.V_drew)); exact Kd.V_mono (Kd.V_far (p := ⟨gb178, 0, none⟩) (Kd.V_far (p := ⟨gb178, 9, none⟩) (Kd.V_far (p := ⟨gb178, 8, none⟩) (Kd.V_far (p := ⟨gb178, 7, none⟩) (Kd.V_far (p := ⟨gb178, 6, none⟩) (Kd.V_far (p := ⟨gb178, 5, none⟩) (Kd.V_far (p := ⟨gb178, 4, none⟩) (Kd.V_far (p := ⟨gb178, 3, none⟩) (Kd.V_far (p := ⟨gb178, 2, none⟩) (Kd.V_far (p := ⟨gb178, 1, none⟩) (Kd.V_far (p := ⟨gb178, 0, none⟩) (Kd.V_mono HO0_9.out (fun k_ hk => (⟨hk, hk.2⟩ : _ ∧ k_ ≠ gb178))) (fun _ hk => hk.2) (.int .i64 a0_0)) (fun _ hk => hk.2) (.int .i64 a0_1)) (fun _ hk => hk.2) (.int .i64 a0_2)) (fun _ hk => hk.2) (.int .i64 a0_3)) (fun _ hk => hk.2) (.int .i64 a0_4)) (fun _ hk => hk.2) (.int .i64 a0_5)) (fun _ hk => hk.2) (.int .i64 a0_6)) (fun _ hk => hk.2) (.int .i64 a0_7)) (fun _ hk => hk.2) (.int .i64 a0_8)) (fun _ hk => hk.2) (.slice A0_9 l0_9.length c0_9)) (fun _ hk => hk.2) (.int .i64 0)) (fun _ hk => ⟨hk.1.1.1, ⟨hk.1.1.2, hk.1.2⟩⟩)⟩, ⟨by (with_reducible repeat (first | refine blk_drewN ?_ _ | refine blk_drew ?_ | refine blk_alloc ?_ _)); refine blk_far ?_ NB177_178.out _; (iterate 10 ((with_reducible repeat (first | refine blk_drewN ?_ _ | refine blk_drew ?_ | refine blk_alloc ?_ _)); refine blk_far ?_ NB177_178.out _)); (with_reducible repeat (first | refine blk_drewN ?_ _ | refine blk_drew ?_ | refine blk_alloc ?_ _)); exact BK177.out⟩, ⟨by (with_reducible repeat (first | refine blk_drewN ?_ _ | refine blk_drew ?_ | refine blk_alloc ?_ _)); refine blk_put (cs := #[.int .i64 a0_0, .int .i64 a0_1, .int .i64 a0_2, .int .i64 a0_3, .int .i64 a0_4, .int .i64 a0_5, .int .i64 a0_6, .int .i64 a0_7, .int .i64 a0_8, .slice A0_9 l0_9.length c0_9]) ?_ 0 _ rfl; refine blk_put (cs := #[.int .i64 a0_0, .int .i64 a0_1, .int .i64 a0_2, .int .i64 a0_3, .int .i64 a0_4, .int .i64 a0_5, .int .i64 a0_6, .int .i64 a0_7, .int .i64 a0_8, .slice none 0 0]) ?_ 9 _ rfl; refine blk_put (cs := #[.int .i64 a0_0, .int .i64 a0_1, .int .i64 a0_2, .int .i64 a0_3, .int .i64 a0_4, .int .i64 a0_5, .int .i64 a0_6, .int .i64 a0_7, .int .i64 0, .slice none 0 0]) ?_ 8 _ rfl; refine blk_put (cs := #[.int .i64 a0_0, .int .i64 a0_1, .int .i64 a0_2, .int .i64 a0_3, .int .i64 a0_4, .int .i64 a0_5, .int .i64 a0_6, .int .i64 0, .int .i64 0, .slice none 0 0]) ?_ 7 _ rfl; refine blk_put (cs := #[.int .i64 a0_0, .int .i64 a0_1, .int .i64 a0_2, .int .i64 a0_3, .int .i64 a0_4, .int .i64 a0_5, .int .i64 0, .int .i64 0, .int .i64 0, .slice none 0 0]) ?_ 6 _ rfl; refine blk_put (cs := #[.int .i64 a0_0, .int .i64 a0_1, .int .i64 a0_2, .int .i64 a0_3, .int .i64 a0_4, .int .i64 0, .int .i64 0, .int .i64 0, .int .i64 0, .slice none 0 0]) ?_ 5 _ rfl; refine blk_put (cs := #[.int .i64 a0_0, .int .i64 a0_1, .int .i64 a0_2, .int .i64 a0_3, .int .i64 0, .int .i64 0, .int .i64 0, .int .i64 0, .int .i64 0, .slice none 0 0]) ?_ 4 _ rfl; refine blk_put (cs := #[.int .i64 a0_0, .int .i64 a0_1, .int .i64 a0_2, .int .i64 0, .int .i64 0, .int .i64 0, .int .i64 0, .int .i64 0, .int .i64 0, .slice none 0 0]) ?_ 3 _ rfl; refine blk_put (cs := #[.int .i64 a0_0, .int .i64 a0_1, .int .i64 0, .int .i64 0, .int .i64 0, .int .i64 0, .int .i64 0, .int .i64 0, .int .i64 0, .slice none 0 0]) ?_ 2 _ rfl; refine blk_put (cs := #[.int .i64 a0_0, .int .i64 0, .int .i64 0, .int .i64 0, .int .i64 0, .int .i64 0, .int .i64 0, .int .i64 0, .int .i64 0, .slice none 0 0]) ?_ 1 _ rfl; refine blk_put (cs := #[.int .i64 0, .int .i64 0, .int .i64 0, .int .i64 0, .int .i64 0, .int .i64 0, .int .i64 0, .int .i64 0, .int .i64 0, .slice none 0 0]) ?_ 0 _ rfl; (with_reducible repeat (first | refine blk_drewN ?_ _ | refine blk_drew ?_ | refine blk_alloc ?_ _)); exact BK178.out⟩, ⟨below_a⟩⟩
   ·
    rw [if_neg c10] at H; have c10b0 : (a0_0 == 1) = false := beq_eq_false_iff_ne.mpr c10; have c10b1 : (a0_0 != 1) = true := bne_iff_ne.mpr c10; (first | rw [c10b0] | (simp only [i64_w, i32_w]; rw [c10b0]) | skip); have H' := Aside0.mk H; clear H
    go_wp2
    go_meet
    case rel => exact ⟨_, ((a0_0 == 3)), eq_b, H', ⟨by first | omega | exact Nat.le_refl _⟩, ⟨by (with_reducible repeat (first | apply Kd.V_alloc | apply Kd.V_drewN | apply Kd.V_drew)); exact Kd.V_mono (Kd.V_far (p := ⟨gb178, 0, none⟩) (Kd.V_far (p := ⟨gb178, 9, none⟩) (Kd.V_far (p := ⟨gb178, 8, none⟩) (Kd.V_far (p := ⟨gb178, 7, none⟩) (Kd.V_far (p := ⟨gb178, 6, none⟩) (Kd.V_far (p := ⟨gb178, 5, none⟩) (Kd.V_far (p := ⟨gb178, 4, none⟩) (Kd.V_far (p := ⟨gb178, 3, none⟩) (Kd.V_far (p := ⟨gb178, 2, none⟩) (Kd.V_far (p := ⟨gb178, 1, none⟩) (Kd.V_far (p := ⟨gb178, 0, none⟩) (Kd.V_mono HO0_9.out (fun k_ hk => (⟨hk, hk.2⟩ : _ ∧ k_ ≠ gb178))) (fun _ hk => hk.2) (.int .i64 a0_0)) (fun _ hk => hk.2) (.int .i64 a0_1)) (fun _ hk => hk.2) (.int .i64 a0_2)) (fun _ hk => hk.2) (.int .i64 a0_3)) (fun _ hk => hk.2) (.int .i64 a0_4)) (fun _ hk => hk.2) (.int .i64 a0_5)) (fun _ hk => hk.2) (.int .i64 a0_6)) (fun _ hk => hk.2) (.int .i64 a0_7)) (fun _ hk => hk.2) (.int .i64 a0_8)) (fun _ hk => hk.2) (.slice A0_9 l0_9.length c0_9)) (fun _ hk => hk.2) (.int .i64 0)) (fun _ hk => ⟨hk.1.1.1, ⟨hk.1.1.2, hk.1.2⟩⟩)⟩, ⟨by (with_reducible repeat (first | apply Kd.V_alloc | apply Kd.V_drewN | apply Kd.V_drew)); exact Kd.V_mono (Kd.V_far (p := ⟨gb178, 0, none⟩) (Kd.V_far (p := ⟨gb178, 9, none⟩) (Kd.V_far (p := ⟨gb178, 8, none⟩) (Kd.V_far (p := ⟨gb178, 7, none⟩) (Kd.V_far (p := ⟨gb178, 6, none⟩) (Kd.V_far (p := ⟨gb178, 5, none⟩) (Kd.V_far (p := ⟨gb178, 4, none⟩) (Kd.V_far (p := ⟨gb178, 3, none⟩) (Kd.V_far (p := ⟨gb178, 2, none⟩) (Kd.V_far (p := ⟨gb178, 1, none⟩) (Kd.V_far (p := ⟨gb178, 0, none⟩) (Kd.V_mono HO0_9.out (fun k_ hk => (⟨hk, hk.2⟩ : _ ∧ k_ ≠ gb178))) (fun _ hk => hk.2) (.int .i64 a0_0)) (fun _ hk => hk.2) (.int .i64 a0_1)) (fun _ hk => hk.2) (.int .i64 a0_2)) (fun _ hk => hk.2) (.int .i64 a0_3)) (fun _ hk => hk.2) (.int .i64 a0_4)) (fun _ hk => hk.2) (.int .i64 a0_5)) (fun _ hk => hk.2) (.int .i64 a0_6)) (fun _ hk => hk.2) (.int .i64 a0_7)) (fun _ hk => hk.2) (.int .i64 a0_8)) (fun _ hk => hk.2) (.slice A0_9 l0_9.length c0_9)) (fun _ hk => hk.2) (.int .i64 0)) (fun _ hk => ⟨hk.1.1.1, ⟨hk.1.1.2, hk.1.2⟩⟩)⟩, ⟨by (with_reducible repeat (first | refine blk_drewN ?_ _ | refine blk_drew ?_ | refine blk_alloc ?_ _)); refine blk_far ?_ NB177_178.out _; (iterate 10 ((with_reducible repeat (first | refine blk_drewN ?_ _ | refine blk_drew ?_ | refine blk_alloc ?_ _)); refine blk_far ?_ NB177_178.out _)); (with_reducible repeat (first | refine blk_drewN ?_ _ | refine blk_drew ?_ | refine blk_alloc ?_ _)); exact BK177.out⟩, ⟨by (with_reducible repeat (first | refine blk_drewN ?_ _ | refine blk_drew ?_ | refine blk_alloc ?_ _)); refine blk_put (cs := #[.int .i64 a0_0, .int .i64 a0_1, .int .i64 a0_2, .int .i64 a0_3, .int .i64 a0_4, .int .i64 a0_5, .int .i64 a0_6, .int .i64 a0_7, .int .i64 a0_8, .slice A0_9 l0_9.length c0_9]) ?_ 0 _ rfl; refine blk_put (cs := #[.int .i64 a0_0, .int .i64 a0_1, .int .i64 a0_2, .int .i64 a0_3, .int .i64 a0_4, .int .i64 a0_5, .int .i64 a0_6, .int .i64 a0_7, .int .i64 a0_8, .slice none 0 0]) ?_ 9 _ rfl; refine blk_put (cs := #[.int .i64 a0_0, .int .i64 a0_1, .int .i64 a0_2, .int .i64 a0_3, .int .i64 a0_4, .int .i64 a0_5, .int .i64 a0_6, .int .i64 a0_7, .int .i64 0, .slice none 0 0]) ?_ 8 _ rfl; refine blk_put (cs := #[.int .i64 a0_0, .int .i64 a0_1, .int .i64 a0_2, .int .i64 a0_3, .int .i64 a0_4, .int .i64 a0_5, .int .i64 a0_6, .int .i64 0, .int .i64 0, .slice none 0 0]) ?_ 7 _ rfl; refine blk_put (cs := #[.int .i64 a0_0, .int .i64 a0_1, .int .i64 a0_2, .int .i64 a0_3, .int .i64 a0_4, .int .i64 a0_5, .int .i64 0, .int .i64 0, .int .i64 0, .slice none 0 0]) ?_ 6 _ rfl; refine blk_put (cs := #[.int .i64 a0_0, .int .i64 a0_1, .int .i64 a0_2, .int .i64 a0_3, .int .i64 a0_4, .int .i64 0, .int .i64 0, .int .i64 0, .int .i64 0, .slice none 0 0]) ?_ 5 _ rfl; refine blk_put (cs := #[.int .i64 a0_0, .int .i64 a0_1, .int .i64 a0_2, .int .i64 a0_3, .int .i64 0, .int .i64 0, .int .i64 0, .int .i64 0, .int .i64 0, .slice none 0 0]) ?_ 4 _ rfl; refine blk_put (cs := #[.int .i64 a0_0, .int .i64 a0_1, .int .i64 a0_2, .int .i64 0, .int .i64 0, .int .i64 0, .int .i64 0, .int .i64 0, .int .i64 0, .slice none 0 0]) ?_ 3 _ rfl; refine blk_put (cs := #[.int .i64 a0_0, .int .i64 a0_1, .int .i64 0, .int .i64 0, .int .i64 0, .int .i64 0, .int .i64 0, .int .i64 0, .int .i64 0, .slice none 0 0]) ?_ 2 _ rfl; refine blk_put (cs := #[.int .i64 a0_0, .int .i64 0, .int .i64 0, .int .i64 0, .int .i64 0, .int .i64 0, .int .i64 0, .int .i64 0, .int .i64 0, .slice none 0 0]) ?_ 1 _ rfl; refine blk_put (cs := #[.int .i64 0, .int .i64 0, .int .i64 0, .int .i64 0, .int .i64 0, .int .i64 0, .int .i64 0, .int .i64 0, .int .i64 0, .slice none 0 0]) ?_ 0 _ rfl; (with_reducible repeat (first | refine blk_drewN ?_ _ | refine blk_drew ?_ | refine blk_alloc ?_ _)); exact BK178.out⟩, ⟨below_a⟩⟩
  case rest =>
   clear HC9
   try clear c1
   try clear p2
   try clear c6
   try clear c10 c10b0 c10b1
   try clear hcz4_0 hcz4_1 hcz4_2 hcz4_3 hcz4_4 hcz4_5 hcz4_6 hcz4_7 hcz4_8 hcz4_9
   try clear hcz7_0 hcz7_1 hcz7_2 hcz7_3 hcz7_4 hcz7_5 hcz7_6 hcz7_7 hcz7_8 hcz7_9
   try clear hcz8_0 hcz8_1 hcz8_2 hcz8_3 hcz8_4 hcz8_5 hcz8_6 hcz8_7 hcz8_8 hcz8_9
   try clear hfz4_0 hfz4_1 hfz4_2 hfz4_3 hfz4_4 hfz4_5 hfz4_6 hfz4_7 hfz4_8 hfz4_9
   try clear hfz7_0 hfz7_1 hfz7_2 hfz7_3 hfz7_4 hfz7_5 hfz7_6 hfz7_7 hfz7_8 hfz7_9
   try clear hfz8_0 hfz8_1 hfz8_2 hfz8_3 hfz8_4 hfz8_5 hfz8_6 hfz8_7 hfz8_8 hfz8_9
   obtain ⟨kq, x9_8, rfl, HA, HJ8, HO_178009, HO_179009, BK177, BK178, HB⟩ := hcut
   cases kq with
   | zero => exact absurd HA.out (by simp [impl_MessageFault.j0])
   | succ kj8 =>
    have H := HA.out; clear HA; simp only [impl_MessageFault.j0] at H
    by_cases c11 : x9_8 = true
    ·
     subst c11; have H1 : (impl_MessageFault.j1 kj8 a0_0 a0_1 a0_2 a0_3 a0_4 a0_5 a0_6 a0_7 a0_8 l0_9 0 0 0 a0_3 a0_4 a0_5 a0_6 a0_7 a0_8 l0_9) = some r := by rw [if_pos rfl] at H; exact H
     clear H; have H := H1; clear H1; have H' := Aside0.mk H; clear H; have hnb12 := NB178_177.out; have hnc12 := NB177_178.out; have hcz13_0 : wc.cell? ⟨gb178, 0, none⟩ = some (.int .i64 0) := (blk_cell BK178.out 0).trans rfl; have hcz13_1 : wc.cell? ⟨gb178, 1, none⟩ = some (.int .i64 a0_1) := (blk_cell BK178.out 1).trans rfl; have hcz13_2 : wc.cell? ⟨gb178, 2, none⟩ = some (.int .i64 a0_2) := (blk_cell BK178.out 2).trans rfl; have hcz13_3 : wc.cell? ⟨gb178, 3, none⟩ = some (.int .i64 a0_3) := (blk_cell BK178.out 3).trans rfl; have hcz13_4 : wc.cell? ⟨gb178, 4, none⟩ = some (.int .i64 a0_4) := (blk_cell BK178.out 4).trans rfl; have hcz13_5 : wc.cell? ⟨gb178, 5, none⟩ = some (.int .i64 a0_5) := (blk_cell BK178.out 5).trans rfl; have hcz13_6 : wc.cell? ⟨gb178, 6, none⟩ = some (.int .i64 a0_6) := (blk_cell BK178.out 6).trans rfl; have hcz13_7 : wc.cell? ⟨gb178, 7, none⟩ = some (.int .i64 a0_7) := (blk_cell BK178.out 7).trans rfl; have hcz13_8 : wc.cell? ⟨gb178, 8, none⟩ = some (.int .i64 a0_8) := (blk_cell BK178.out 8).trans rfl; have hcz13_9 : wc.cell? ⟨gb178, 9, none⟩ = some (.slice A0_9 l0_9.length c0_9) := (blk_cell BK178.out 9).trans rfl; have hfz13_0 := blk_frozen BK178.out 0; have hfz13_1 := blk_frozen BK178.out 1; have hfz13_2 := blk_frozen BK178.out 2; have hfz13_3 := blk_frozen BK178.out 3; have hfz13_4 := blk_frozen BK178.out 4; have hfz13_5 := blk_frozen BK178.out 5; have hfz13_6 := blk_frozen BK178.out 6; have hfz13_7 := blk_frozen BK178.out 7; have hfz13_8 := blk_frozen BK178.out 8; have hfz13_9 := blk_frozen BK178.out 9
     go_wp2
     go_meet
     case rel => exact ⟨_, (0), (0), (a0_3), (a0_4), (a0_5), (a0_6), (a0_7), (a0_8), (l0_9), (.slice A0_9 l0_9.length c0_9), H', ⟨by have := HJ8.out; first | omega | exact Nat.le_refl _⟩, ⟨by (with_reducible repeat (first | apply Kd.V_alloc | apply Kd.V_drewN | apply Kd.V_drew)); exact Kd.V_mono (Kd.V_far (p := ⟨gb178, 2, none⟩) (Kd.V_far (p := ⟨gb178, 1, none⟩) (Kd.V_mono HO_178009.out (fun k_ hk => (⟨hk, hk.2.2⟩ : _ ∧ k_ ≠ gb178))) (fun _ hk => hk.2) (.int .i64 0)) (fun _ hk => hk.2) (.int .i64 0)) (fun _ hk => ⟨hk.1.1, ⟨hk.1.2.1, hk.1.2.2⟩⟩)⟩, ⟨by (with_reducible repeat (first | apply Kd.V_alloc | apply Kd.V_drewN | apply Kd.V_drew)); exact Kd.V_mono (Kd.V_far (p := ⟨gb178, 2, none⟩) (Kd.V_far (p := ⟨gb178, 1, none⟩) (Kd.V_mono HO_179009.out (fun k_ hk => (⟨hk, hk.2.2⟩ : _ ∧ k_ ≠ gb178))) (fun _ hk => hk.2) (.int .i64 0)) (fun _ hk => hk.2) (.int .i64 0)) (fun _ hk => ⟨hk.1.1, ⟨hk.1.2.1, hk.1.2.2⟩⟩)⟩, ⟨blk_a⟩, ⟨blk_a⟩, ⟨below_a⟩⟩
    ·
     replace c11 := Bool.eq_false_iff.mpr c11; subst c11; have H1 : (if a0_0 = 2 then (impl_MessageFault.j1 kj8 a0_0 a0_1 a0_2 a0_3 a0_4 a0_5 a0_6 a0_7 a0_8 l0_9 0 0 a0_2 a0_3 a0_4 a0_5 a0_6 a0_7 a0_8 l0_9) else (if a0_0 = 4 then (impl_MessageFault.j1 kj8 a0_0 a0_1 a0_2 a0_3 a0_4 a0_5 a0_6 a0_7 a0_8 l0_9 0 a0_1 a0_2 0 0 0 0 a0_7 a0_8 l0_9) else (if a0_0 = 5 then (impl_MessageFault.j1 kj8 a0_0 a0_1 a0_2 a0_3 a0_4 a0_5 a0_6 a0_7 a0_8 l0_9 0 a0_1 a0_2 a0_3 a0_4 a0_5 a0_6 0 0 ([] : List Int)) else (some 1)))) = some r := by rw [if_neg (show ¬ (false = true) by decide)] at H; exact H
     clear H; have H := H1; clear H1
     by_cases c14 : a0_0 = 2
     ·
      rw [if_pos c14] at H; have c14b0 : (a0_0 == 2) = true := beq_iff_eq.mpr c14; have c14b1 : (a0_0 != 2) = false := bne_eq_false_iff_eq.mpr c14; clear c14; have H' := Aside0.mk H; clear H; have hnb15 := NB178_177.out; have hnc15 := NB177_178.out; have hcz16_0 : wc.cell? ⟨gb178, 0, none⟩ = some (.int .i64 0) := (blk_cell BK178.out 0).trans rfl; have hcz16_1 : wc.cell? ⟨gb178, 1, none⟩ = some (.int .i64 a0_1) := (blk_cell BK178.out 1).trans rfl; have hcz16_2 : wc.cell? ⟨gb178, 2, none⟩ = some (.int .i64 a0_2) := (blk_cell BK178.out 2).trans rfl; have hcz16_3 : wc.cell? ⟨gb178, 3, none⟩ = some (.int .i64 a0_3) := (blk_cell BK178.out 3).trans rfl; have hcz16_4 : wc.cell? ⟨gb178, 4, none⟩ = some (.int .i64 a0_4) := (blk_cell BK178.out 4).trans rfl; have hcz16_5 : wc.cell? ⟨gb178, 5, none⟩ = some (.int .i64 a0_5) := (blk_cell BK178.out 5).trans rfl; have hcz16_6 : wc.cell? ⟨gb178, 6, none⟩ = some (.int .i64 a0_6) := (blk_cell BK178.out 6).trans rfl; have hcz16_7 : wc.cell? ⟨gb178, 7, none⟩ = some (.int .i64 a0_7) := (blk_cell BK178.out 7).trans rfl; have hcz16_8 : wc.cell? ⟨gb178, 8, none⟩ = some (.int .i64 a0_8) := (blk_cell BK178.out 8).trans rfl; have hcz16_9 : wc.cell? ⟨gb178, 9, none⟩ = some (.slice A0_9 l0_9.length c0_9) := (blk_cell BK178.out 9).trans rfl; have hfz16_0 := blk_frozen BK178.out 0; have hfz16_1 := blk_frozen BK178.out 1; have hfz16_2 := blk_frozen BK178.out 2; have hfz16_3 := blk_frozen BK178.out 3; have hfz16_4 := blk_frozen BK178.out 4; have hfz16_5 := blk_frozen BK178.out 5; have hfz16_6 := blk_frozen BK178.out 6; have hfz16_7 := blk_frozen BK178.out 7; have hfz16_8 := blk_frozen BK178.out 8; have hfz16_9 := blk_frozen BK178.out 9
      go_wp2
      go_meet
      case rel => exact ⟨_, (0), (a0_2), (a0_3), (a0_4), (a0_5), (a0_6), (a0_7), (a0_8), (l0_9), (.slice A0_9 l0_9.length c0_9), H', ⟨by have := HJ8.out; first | omega | exact Nat.le_refl _⟩, ⟨by (with_reducible repeat (first | apply Kd.V_alloc | apply Kd.V_drewN | apply Kd.V_drew)); exact Kd.V_mono (Kd.V_far (p := ⟨gb178, 1, none⟩) (Kd.V_mono HO_178009.out (fun k_ hk => (⟨hk, hk.2.2⟩ : _ ∧ k_ ≠ gb178))) (fun _ hk => hk.2) (.int .i64 0)) (fun _ hk => ⟨hk.1.1, ⟨hk.1.2.1, hk.1.2.2⟩⟩)⟩, ⟨by (with_reducible repeat (first | apply Kd.V_alloc | apply Kd.V_drewN | apply Kd.V_drew)); exact Kd.V_mono (Kd.V_far (p := ⟨gb178, 1, none⟩) (Kd.V_mono HO_179009.out (fun k_ hk => (⟨hk, hk.2.2⟩ : _ ∧ k_ ≠ gb178))) (fun _ hk => hk.2) (.int .i64 0)) (fun _ hk => ⟨hk.1.1, ⟨hk.1.2.1, hk.1.2.2⟩⟩)⟩, ⟨blk_a⟩, ⟨blk_a⟩, ⟨below_a⟩⟩
     ·
      rw [if_neg c14] at H; have c14b0 : (a0_0 == 2) = false := beq_eq_false_iff_ne.mpr c14; have c14b1 : (a0_0 != 2) = true := bne_iff_ne.mpr c14
      by_cases c17 : a0_0 = 4
      ·
       rw [if_pos c17] at H; have c17b0 : (a0_0 == 4) = true := beq_iff_eq.mpr c17; have c17b1 : (a0_0 != 4) = false := bne_eq_false_iff_eq.mpr c17; clear c17; have H' := Aside0.mk H; clear H; have hnb18 := NB178_177.out; have hnc18 := NB177_178.out; have hcz19_0 : wc.cell? ⟨gb178, 0, none⟩ = some (.int .i64 0) := (blk_cell BK178.out 0).trans rfl; have hcz19_1 : wc.cell? ⟨gb178, 1, none⟩ = some (.int .i64 a0_1) := (blk_cell BK178.out 1).trans rfl; have hcz19_2 : wc.cell? ⟨gb178, 2, none⟩ = some (.int .i64 a0_2) := (blk_cell BK178.out 2).trans rfl; have hcz19_3 : wc.cell? ⟨gb178, 3, none⟩ = some (.int .i64 a0_3) := (blk_cell BK178.out 3).trans rfl; have hcz19_4 : wc.cell? ⟨gb178, 4, none⟩ = some (.int .i64 a0_4) := (blk_cell BK178.out 4).trans rfl; have hcz19_5 : wc.cell? ⟨gb178, 5, none⟩ = some (.int .i64 a0_5) := (blk_cell BK178.out 5).trans rfl; have hcz19_6 : wc.cell? ⟨gb178, 6, none⟩ = some (.int .i64 a0_6) := (blk_cell BK178.out 6).trans rfl; have hcz19_7 : wc.cell? ⟨gb178, 7, none⟩ = some (.int .i64 a0_7) := (blk_cell BK178.out 7).trans rfl; have hcz19_8 : wc.cell? ⟨gb178, 8, none⟩ = some (.int .i64 a0_8) := (blk_cell BK178.out 8).trans rfl; have hcz19_9 : wc.cell? ⟨gb178, 9, none⟩ = some (.slice A0_9 l0_9.length c0_9) := (blk_cell BK178.out 9).trans rfl; have hfz19_0 := blk_frozen BK178.out 0; have hfz19_1 := blk_frozen BK178.out 1; have hfz19_2 := blk_frozen BK178.out 2; have hfz19_3 := blk_frozen BK178.out 3; have hfz19_4 := blk_frozen BK178.out 4; have hfz19_5 := blk_frozen BK178.out 5; have hfz19_6 := blk_frozen BK178.out 6; have hfz19_7 := blk_frozen BK178.out 7; have hfz19_8 := blk_frozen BK178.out 8; have hfz19_9 := blk_frozen BK178.out 9
       go_wp2
       go_meet
       case rel => exact ⟨_, (a0_1), (a0_2), (0), (0), (0), (0), (a0_7), (a0_8), (l0_9), (.slice A0_9 l0_9.length c0_9), H', ⟨by have := HJ8.out; first | omega | exact Nat.le_refl _⟩, ⟨by (with_reducible repeat (first | apply Kd.V_alloc | apply Kd.V_drewN | apply Kd.V_drew)); exact Kd.V_mono (Kd.V_far (p := ⟨gb178, 6, none⟩) (Kd.V_far (p := ⟨gb178, 5, none⟩) (Kd.V_far (p := ⟨gb178, 4, none⟩) (Kd.V_far (p := ⟨gb178, 3, none⟩) (Kd.V_mono HO_178009.out (fun k_ hk => (⟨hk, hk.2.2⟩ : _ ∧ k_ ≠ gb178))) (fun _ hk => hk.2) (.int .i64 0)) (fun _ hk => hk.2) (.int .i64 0)) (fun _ hk => hk.2) (.int .i64 0)) (fun _ hk => hk.2) (.int .i64 0)) (fun _ hk => ⟨hk.1.1, ⟨hk.1.2.1, hk.1.2.2⟩⟩)⟩, ⟨by (with_reducible repeat (first | apply Kd.V_alloc | apply Kd.V_drewN | apply Kd.V_drew)); exact Kd.V_mono (Kd.V_far (p := ⟨gb178, 6, none⟩) (Kd.V_far (p := ⟨gb178, 5, none⟩) (Kd.V_far (p := ⟨gb178, 4, none⟩) (Kd.V_far (p := ⟨gb178, 3, none⟩) (Kd.V_mono HO_179009.out (fun k_ hk => (⟨hk, hk.2.2⟩ : _ ∧ k_ ≠ gb178))) (fun _ hk => hk.2) (.int .i64 0)) (fun _ hk => hk.2) (.int .i64 0)) (fun _ hk => hk.2) (.int .i64 0)) (fun _ hk => hk.2) (.int .i64 0)) (fun _ hk => ⟨hk.1.1, ⟨hk.1.2.1, hk.1.2.2⟩⟩)⟩, ⟨by (with_reducible repeat (first | refine blk_drewN ?_ _ | refine blk_drew ?_ | refine blk_alloc ?_ _)); refine blk_far ?_ NB177_178.out _; (with_reducible repeat (first | refine blk_drewN ?_ _ | refine blk_drew ?_ | refine blk_alloc ?_ _)); refine blk_far ?_ NB177_178.out _; (with_reducible repeat (first | refine blk_drewN ?_ _ | refine blk_drew ?_ | refine blk_alloc ?_ _)); refine blk_far ?_ NB177_178.out _; (with_reducible repeat (first | refine blk_drewN ?_ _ | refine blk_drew ?_ | refine blk_alloc ?_ _)); refine blk_far ?_ NB177_178.out _; (with_reducible repeat (first | refine blk_drewN ?_ _ | refine blk_drew ?_ | refine blk_alloc ?_ _)); exact BK177.out⟩, ⟨by (with_reducible repeat (first | refine blk_drewN ?_ _ | refine blk_drew ?_ | refine blk_alloc ?_ _)); refine blk_put (cs := #[.int .i64 0, .int .i64 a0_1, .int .i64 a0_2, .int .i64 0, .int .i64 0, .int .i64 0, .int .i64 a0_6, .int .i64 a0_7, .int .i64 a0_8, .slice A0_9 l0_9.length c0_9]) ?_ 6 _ rfl; refine blk_put (cs := #[.int .i64 0, .int .i64 a0_1, .int .i64 a0_2, .int .i64 0, .int .i64 0, .int .i64 a0_5, .int .i64 a0_6, .int .i64 a0_7, .int .i64 a0_8, .slice A0_9 l0_9.length c0_9]) ?_ 5 _ rfl; refine blk_put (cs := #[.int .i64 0, .int .i64 a0_1, .int .i64 a0_2, .int .i64 0, .int .i64 a0_4, .int .i64 a0_5, .int .i64 a0_6, .int .i64 a0_7, .int .i64 a0_8, .slice A0_9 l0_9.length c0_9]) ?_ 4 _ rfl; refine blk_put (cs := #[.int .i64 0, .int .i64 a0_1, .int .i64 a0_2, .int .i64 a0_3, .int .i64 a0_4, .int .i64 a0_5, .int .i64 a0_6, .int .i64 a0_7, .int .i64 a0_8, .slice A0_9 l0_9.length c0_9]) ?_ 3 _ rfl; (with_reducible repeat (first | refine blk_drewN ?_ _ | refine blk_drew ?_ | refine blk_alloc ?_ _)); exact BK178.out⟩, ⟨below_a⟩⟩
      ·
       rw [if_neg c17] at H; have c17b0 : (a0_0 == 4) = false := beq_eq_false_iff_ne.mpr c17; have c17b1 : (a0_0 != 4) = true := bne_iff_ne.mpr c17
       by_cases c20 : a0_0 = 5
       ·
        rw [if_pos c20] at H; have c20b0 : (a0_0 == 5) = true := beq_iff_eq.mpr c20; have c20b1 : (a0_0 != 5) = false := bne_eq_false_iff_eq.mpr c20; clear c20; have H' := Aside0.mk H; clear H; have hnb21 := NB178_177.out; have hnc21 := NB177_178.out; have hcz22_0 : wc.cell? ⟨gb178, 0, none⟩ = some (.int .i64 0) := (blk_cell BK178.out 0).trans rfl; have hcz22_1 : wc.cell? ⟨gb178, 1, none⟩ = some (.int .i64 a0_1) := (blk_cell BK178.out 1).trans rfl; have hcz22_2 : wc.cell? ⟨gb178, 2, none⟩ = some (.int .i64 a0_2) := (blk_cell BK178.out 2).trans rfl; have hcz22_3 : wc.cell? ⟨gb178, 3, none⟩ = some (.int .i64 a0_3) := (blk_cell BK178.out 3).trans rfl; have hcz22_4 : wc.cell? ⟨gb178, 4, none⟩ = some (.int .i64 a0_4) := (blk_cell BK178.out 4).trans rfl; have hcz22_5 : wc.cell? ⟨gb178, 5, none⟩ = some (.int .i64 a0_5) := (blk_cell BK178.out 5).trans rfl; have hcz22_6 : wc.cell? ⟨gb178, 6, none⟩ = some (.int .i64 a0_6) := (blk_cell BK178.out 6).trans rfl; have hcz22_7 : wc.cell? ⟨gb178, 7, none⟩ = some (.int .i64 a0_7) := (blk_cell BK178.out 7).trans rfl; have hcz22_8 : wc.cell? ⟨gb178, 8, none⟩ = some (.int .i64 a0_8) := (blk_cell BK178.out 8).trans rfl; have hcz22_9 : wc.cell? ⟨gb178, 9, none⟩ = some (.slice A0_9 l0_9.length c0_9) := (blk_cell BK178.out 9).trans rfl; have hfz22_0 := blk_frozen BK178.out 0; have hfz22_1 := blk_frozen BK178.out 1; have hfz22_2 := blk_frozen BK178.out 2; have hfz22_3 := blk_frozen BK178.out 3; have hfz22_4 := blk_frozen BK178.out 4; have hfz22_5 := blk_frozen BK178.out 5; have hfz22_6 := blk_frozen BK178.out 6; have hfz22_7 := blk_frozen BK178.out 7; have hfz22_8 := blk_frozen BK178.out 8; have hfz22_9 := blk_frozen BK178.out 9
        go_wp2
        go_meet
        case rel => exact ⟨_, (a0_1), (a0_2), (a0_3), (a0_4), (a0_5), (a0_6), (0), (0), (([] : List Int)), (.slice none 0 0), H', ⟨by have := HJ8.out; first | omega | exact Nat.le_refl _⟩, ⟨by (with_reducible repeat (first | apply Kd.V_alloc | apply Kd.V_drewN | apply Kd.V_drew)); exact Kd.V_mono (Kd.V_far (p := ⟨gb178, 9, none⟩) (Kd.V_far (p := ⟨gb178, 8, none⟩) (Kd.V_far (p := ⟨gb178, 7, none⟩) (Kd.V_mono HO_178009.out (fun k_ hk => (⟨hk, hk.2.2⟩ : _ ∧ k_ ≠ gb178))) (fun _ hk => hk.2) (.int .i64 0)) (fun _ hk => hk.2) (.int .i64 0)) (fun _ hk => hk.2) (.slice none 0 0)) (fun _ hk => ⟨hk.1.1, ⟨hk.1.2.1, hk.1.2.2⟩⟩)⟩, ⟨Kd.V_nil _ _ _ _ _⟩, ⟨blk_a⟩, ⟨blk_a⟩, ⟨below_a⟩⟩
       ·
        rw [if_neg c20] at H; have c20b0 : (a0_0 == 5) = false := beq_eq_false_iff_ne.mpr c20; have c20b1 : (a0_0 != 5) = true := bne_iff_ne.mpr c20; obtain rfl := Option.some.inj H
        go_wp2
        go_ret
        exact ⟨eq_a, below_a⟩
 case rest =>
  clear HC2
  try clear c1
  try clear c2
  try clear p2 p2
  try clear c6
  try clear c10 c10b0 c10b1
  try clear c11
  try clear c12
  try clear c14 c14b0 c14b1
  try clear c15
  try clear c16
  try clear c17 c17b0 c17b1
  try clear c18
  try clear c20 c20b0 c20b1
  try clear c21
  try clear hcz13_0 hcz13_1 hcz13_2 hcz13_3 hcz13_4 hcz13_5 hcz13_6 hcz13_7 hcz13_8 hcz13_9
  try clear hcz16_0 hcz16_1 hcz16_2 hcz16_3 hcz16_4 hcz16_5 hcz16_6 hcz16_7 hcz16_8 hcz16_9
  try clear hcz19_0 hcz19_1 hcz19_2 hcz19_3 hcz19_4 hcz19_5 hcz19_6 hcz19_7 hcz19_8 hcz19_9
  try clear hcz22_0 hcz22_1 hcz22_2 hcz22_3 hcz22_4 hcz22_5 hcz22_6 hcz22_7 hcz22_8 hcz22_9
  try clear hcz4_0 hcz4_1 hcz4_2 hcz4_3 hcz4_4 hcz4_5 hcz4_6 hcz4_7 hcz4_8 hcz4_9
  try clear hcz7_0 hcz7_1 hcz7_2 hcz7_3 hcz7_4 hcz7_5 hcz7_6 hcz7_7 hcz7_8 hcz7_9
  try clear hcz8_0 hcz8_1 hcz8_2 hcz8_3 hcz8_4 hcz8_5 hcz8_6 hcz8_7 hcz8_8 hcz8_9
  try clear hfz13_0 hfz13_1 hfz13_2 hfz13_3 hfz13_4 hfz13_5 hfz13_6 hfz13_7 hfz13_8 hfz13_9
  try clear hfz16_0 hfz16_1 hfz16_2 hfz16_3 hfz16_4 hfz16_5 hfz16_6 hfz16_7 hfz16_8 hfz16_9
  try clear hfz19_0 hfz19_1 hfz19_2 hfz19_3 hfz19_4 hfz19_5 hfz19_6 hfz19_7 hfz19_8 hfz19_9
  try clear hfz22_0 hfz22_1 hfz22_2 hfz22_3 hfz22_4 hfz22_5 hfz22_6 hfz22_7 hfz22_8 hfz22_9
  try clear hfz4_0 hfz4_1 hfz4_2 hfz4_3 hfz4_4 hfz4_5 hfz4_6 hfz4_7 hfz4_8 hfz4_9
  try clear hfz7_0 hfz7_1 hfz7_2 hfz7_3 hfz7_4 hfz7_5 hfz7_6 hfz7_7 hfz7_8 hfz7_9
  try clear hfz8_0 hfz8_1 hfz8_2 hfz8_3 hfz8_4 hfz8_5 hfz8_6 hfz8_7 hfz8_8 hfz8_9
  obtain ⟨kq, x179001_1, x179002_1, x179003_1, x179004_1, x179005_1, x179006_1, x179007_1, x179008_1, x179009_1, u179009, HA, HJ1, HO_178009, HO_179009, BK177, BK178, HB⟩ := hcut
  cases kq with
  | zero => exact absurd HA.out (by simp [impl_MessageFault.j1])
  | succ kj1 =>
   have H := HA.out; clear HA; simp only [impl_MessageFault.j1] at H; have HC23 := Aside0.mk H; clear H
   go_upto_region 14 with (fail)
   go_cut [50] (fun v50 wc => ∃ (kq : Nat) (x50_22 : Bool), v50 = .bool x50_22 ∧ Aside0 (impl_MessageFault.j2 kq x50_22 a0_0 a0_1 a0_2 a0_3 a0_4 a0_5 a0_6 a0_7 a0_8 l0_9 = some r) ∧ Aside0 (kq ≤ kj1) ∧ Aside0 (Kd.V (Kd.int .u8) 5 wc w.heap.size (fun k_ => (P0_9_ k_ ∨ w.heap.size ≤ k_) ∧ k_ ≠ gb177 ∧ k_ ≠ gb178) (.slice A0_9 l0_9.length c0_9) l0_9) ∧ Aside0 (Kd.V (Kd.int .u8) 5 wc w.heap.size (fun k_ => (P0_9_ k_ ∨ w.heap.size ≤ k_) ∧ k_ ≠ gb177 ∧ k_ ≠ gb178) u179009 x179009_1) ∧ Aside0 (wc.heap[gb177]? = some (.cells #[.int .i64 a0_0, .int .i64 a0_1, .int .i64 a0_2, .int .i64 a0_3, .int .i64 a0_4, .int .i64 a0_5, .int .i64 a0_6, .int .i64 a0_7, .int .i64 a0_8, (.slice A0_9 l0_9.length c0_9)] 40 (0, 0))) ∧ Aside0 (wc.heap[gb178]? = some (.cells #[.int .i64 0, .int .i64 x179001_1, .int .i64 x179002_1, .int .i64 x179003_1, .int .i64 x179004_1, .int .i64 x179005_1, .int .i64 x179006_1, .int .i64 x179007_1, .int .i64 x179008_1, u179009] 40 (0, 0))) ∧ Aside0 (Below w.heap.size w wc))
   case first =>
    have H := HC23.out; clear HC23
    by_cases c24 : x179001_1 = 0
    ·
     rw [if_pos c24] at H; have c24b0 : (x179001_1 == 0) = true := beq_iff_eq.mpr c24; have c24b1 : (x179001_1 != 0) = false := bne_eq_false_iff_eq.mpr c24; clear c24; (first | rw [c24b0] | (simp only [i64_w, i32_w]; rw [c24b0]) | skip)
     by_cases c25 : x179002_1 = 0
     ·
      rw [if_pos c25] at H; have c25b0 : (x179002_1 == 0) = true := beq_iff_eq.mpr c25; have c25b1 : (x179002_1 != 0) = false := bne_eq_false_iff_eq.mpr c25; clear c25
      by_cases c26 : (!(x179003_1 == 0) || (!(x179004_1 == 0) || (!(x179005_1 == 0) || (!(x179006_1 == 0))))) = true
      ·
       rw [if_pos c26] at H; have c26b0 : (!(x179003_1 == 0) || (!(x179004_1 == 0) || (!(x179005_1 == 0) || (!(x179006_1 == 0))))) = true := c26; clear c26; have H' := Aside0.mk H; clear H; have hnb27 := NB178_177.out; have hnc27 := NB177_178.out; have hcz28_0 : wc.cell? ⟨gb178, 0, none⟩ = some (.int .i64 0) := (blk_cell BK178.out 0).trans rfl; have hcz28_1 : wc.cell? ⟨gb178, 1, none⟩ = some (.int .i64 x179001_1) := (blk_cell BK178.out 1).trans rfl; have hcz28_2 : wc.cell? ⟨gb178, 2, none⟩ = some (.int .i64 x179002_1) := (blk_cell BK178.out 2).trans rfl; have hcz28_3 : wc.cell? ⟨gb178, 3, none⟩ = some (.int .i64 x179003_1) := (blk_cell BK178.out 3).trans rfl; have hcz28_4 : wc.cell? ⟨gb178, 4, none⟩ = some (.int .i64 x179004_1) := (blk_cell BK178.out 4).trans rfl; have hcz28_5 : wc.cell? ⟨gb178, 5, none⟩ = some (.int .i64 x179005_1) := (blk_cell BK178.out 5).trans rfl; have hcz28_6 : wc.cell? ⟨gb178, 6, none⟩ = some (.int .i64 x179006_1) := (blk_cell BK178.out 6).trans rfl; have hcz28_7 : wc.cell? ⟨gb178, 7, none⟩ = some (.int .i64 x179007_1) := (blk_cell BK178.out 7).trans rfl; have hcz28_8 : wc.cell? ⟨gb178, 8, none⟩ = some (.int .i64 x179008_1) := (blk_cell BK178.out 8).trans rfl; have hcz28_9 : wc.cell? ⟨gb178, 9, none⟩ = some (u179009) := (blk_cell BK178.out 9).trans rfl; have hfz28_0 := blk_frozen BK178.out 0; have hfz28_1 := blk_frozen BK178.out 1; have hfz28_2 := blk_frozen BK178.out 2; have hfz28_3 := blk_frozen BK178.out 3; have hfz28_4 := blk_frozen BK178.out 4; have hfz28_5 := blk_frozen BK178.out 5; have hfz28_6 := blk_frozen BK178.out 6; have hfz28_7 := blk_frozen BK178.out 7; have hfz28_8 := blk_frozen BK178.out 8; have hfz28_9 := blk_frozen BK178.out 9
       go_wp2
       go_meet
       case rel => exact ⟨_, (true), eq_b, H', ⟨by have := HJ1.out; first | omega | exact Nat.le_refl _⟩, ⟨by (with_reducible repeat (first | apply Kd.V_alloc | apply Kd.V_drewN | apply Kd.V_drew)); exact HO_178009.out⟩, ⟨by (with_reducible repeat (first | apply Kd.V_alloc | apply Kd.V_drewN | apply Kd.V_drew)); exact HO_179009.out⟩, ⟨blk_a⟩, ⟨blk_a⟩, ⟨below_a⟩⟩
      ·
       rw [if_neg c26] at H; have c26b0 : (!(x179003_1 == 0) || (!(x179004_1 == 0) || (!(x179005_1 == 0) || (!(x179006_1 == 0))))) = false := by simpa using c26
       clear c26
       by_cases c29 : x179007_1 = 0
       ·
        rw [if_pos c29] at H; have c29b0 : (x179007_1 == 0) = true := beq_iff_eq.mpr c29; have c29b1 : (x179007_1 != 0) = false := bne_eq_false_iff_eq.mpr c29; clear c29; replace H := Option.bind_eq_some_iff.mp H; obtain ⟨t179, A300, H⟩ := H; replace H : (impl_MessageFault.j2 kj1 (!t179) a0_0 a0_1 a0_2 a0_3 a0_4 a0_5 a0_6 a0_7 a0_8 l0_9) = some r := H; have A30 := Aside0.mk A300; clear A300; have H' := Aside0.mk H; clear H; have hnb31 := NB178_177.out; have hnc31 := NB177_178.out; have hcz32_0 : wc.cell? ⟨gb178, 0, none⟩ = some (.int .i64 0) := (blk_cell BK178.out 0).trans rfl; have hcz32_1 : wc.cell? ⟨gb178, 1, none⟩ = some (.int .i64 x179001_1) := (blk_cell BK178.out 1).trans rfl; have hcz32_2 : wc.cell? ⟨gb178, 2, none⟩ = some (.int .i64 x179002_1) := (blk_cell BK178.out 2).trans rfl; have hcz32_3 : wc.cell? ⟨gb178, 3, none⟩ = some (.int .i64 x179003_1) := (blk_cell BK178.out 3).trans rfl; have hcz32_4 : wc.cell? ⟨gb178, 4, none⟩ = some (.int .i64 x179004_1) := (blk_cell BK178.out 4).trans rfl; have hcz32_5 : wc.cell? ⟨gb178, 5, none⟩ = some (.int .i64 x179005_1) := (blk_cell BK178.out 5).trans rfl; have hcz32_6 : wc.cell? ⟨gb178, 6, none⟩ = some (.int .i64 x179006_1) := (blk_cell BK178.out 6).trans rfl; have hcz32_7 : wc.cell? ⟨gb178, 7, none⟩ = some (.int .i64 x179007_1) := (blk_cell BK178.out 7).trans rfl; have hcz32_8 : wc.cell? ⟨gb178, 8, none⟩ = some (.int .i64 x179008_1) := (blk_cell BK178.out 8).trans rfl; have hcz32_9 : wc.cell? ⟨gb178, 9, none⟩ = some (u179009) := (blk_cell BK178.out 9).trans rfl; have hfz32_0 := blk_frozen BK178.out 0; have hfz32_1 := blk_frozen BK178.out 1; have hfz32_2 := blk_frozen BK178.out 2; have hfz32_3 := blk_frozen BK178.out 3; have hfz32_4 := blk_frozen BK178.out 4; have hfz32_5 := blk_frozen BK178.out 5; have hfz32_6 := blk_frozen BK178.out 6; have hfz32_7 := blk_frozen BK178.out 7; have hfz32_8 := blk_frozen BK178.out 8; have hfz32_9 := blk_frozen BK178.out 9; obtain ⟨Ao33, co33, eo33⟩ := Kd.V_slice HO_179009.out; subst eo33
        go_wp2_with (first | (go_at_call 44; (with_reducible refine (impl_isZeroKey.calls x179008_1 _ _ x179009_1 t179 _ ?side1 ?side2 A30.out).mono ?_); (case side1 => repeat (first | exact (Kd.V_reads' HO_179009.out).2.2 | (with_reducible refine Kd.C_alloc ?_ _) | (with_reducible refine Kd.C_drewN ?_ _) | (with_reducible refine Kd.C_drew ?_))); (case side2 => exact (Kd.V_reads' HO_179009.out).2.1); rintro e w34 ⟨rfl, hb⟩; replace HO_178009 := Aside0.mk (Kd.V_below (by (with_reducible repeat (first | apply Kd.V_alloc | apply Kd.V_drewN | apply Kd.V_drew)); exact HO_178009.out) hb); replace HO_179009 := Aside0.mk (Kd.V_below (by (with_reducible repeat (first | apply Kd.V_alloc | apply Kd.V_drewN | apply Kd.V_drew)); exact HO_179009.out) hb); replace BK177 := Aside0.mk (blk_below (g := gb177) blk_c hb); replace BK178 := Aside0.mk (blk_below (g := gb178) blk_c hb); replace HB := Aside0.mk (below_step below_a hb); (try clear hb); (try clear hb2); (try clear hk); (try clear hi)))
        go_meet
        case rel => exact ⟨_, (!t179), eq_b, H', ⟨by have := HJ1.out; first | omega | exact Nat.le_refl _⟩, ⟨by (with_reducible repeat (first | apply Kd.V_alloc | apply Kd.V_drewN | apply Kd.V_drew)); exact HO_178009.out⟩, ⟨by (with_reducible repeat (first | apply Kd.V_alloc | apply Kd.V_drewN | apply Kd.V_drew)); exact HO_179009.out⟩, ⟨blk_a⟩, ⟨blk_a⟩, ⟨below_a⟩⟩
       ·
        rw [if_neg c29] at H; have c29b0 : (x179007_1 == 0) = false := beq_eq_false_iff_ne.mpr c29; have c29b1 : (x179007_1 != 0) = true := bne_iff_ne.mpr c29; have H' := Aside0.mk H; clear H; have hnb35 := NB178_177.out; have hnc35 := NB177_178.out; have hcz36_0 : wc.cell? ⟨gb178, 0, none⟩ = some (.int .i64 0) := (blk_cell BK178.out 0).trans rfl; have hcz36_1 : wc.cell? ⟨gb178, 1, none⟩ = some (.int .i64 x179001_1) := (blk_cell BK178.out 1).trans rfl; have hcz36_2 : wc.cell? ⟨gb178, 2, none⟩ = some (.int .i64 x179002_1) := (blk_cell BK178.out 2).trans rfl; have hcz36_3 : wc.cell? ⟨gb178, 3, none⟩ = some (.int .i64 x179003_1) := (blk_cell BK178.out 3).trans rfl; have hcz36_4 : wc.cell? ⟨gb178, 4, none⟩ = some (.int .i64 x179004_1) := (blk_cell BK178.out 4).trans rfl; have hcz36_5 : wc.cell? ⟨gb178, 5, none⟩ = some (.int .i64 x179005_1) := (blk_cell BK178.out 5).trans rfl; have hcz36_6 : wc.cell? ⟨gb178, 6, none⟩ = some (.int .i64 x179006_1) := (blk_cell BK178.out 6).trans rfl; have hcz36_7 : wc.cell? ⟨gb178, 7, none⟩ = some (.int .i64 x179007_1) := (blk_cell BK178.out 7).trans rfl; have hcz36_8 : wc.cell? ⟨gb178, 8, none⟩ = some (.int .i64 x179008_1) := (blk_cell BK178.out 8).trans rfl; have hcz36_9 : wc.cell? ⟨gb178, 9, none⟩ = some (u179009) := (blk_cell BK178.out 9).trans rfl; have hfz36_0 := blk_frozen BK178.out 0; have hfz36_1 := blk_frozen BK178.out 1; have hfz36_2 := blk_frozen BK178.out 2; have hfz36_3 := blk_frozen BK178.out 3; have hfz36_4 := blk_frozen BK178.out 4; have hfz36_5 := blk_frozen BK178.out 5; have hfz36_6 := blk_frozen BK178.out 6; have hfz36_7 := blk_frozen BK178.out 7; have hfz36_8 := blk_frozen BK178.out 8; have hfz36_9 := blk_frozen BK178.out 9
        go_wp2
        go_meet
        case rel => exact ⟨_, (true), eq_b, H', ⟨by have := HJ1.out; first | omega | exact Nat.le_refl _⟩, ⟨by (with_reducible repeat (first | apply Kd.V_alloc | apply Kd.V_drewN | apply Kd.V_drew)); exact HO_178009.out⟩, ⟨by (with_reducible repeat (first | apply Kd.V_alloc | apply Kd.V_drewN | apply Kd.V_drew)); exact HO_179009.out⟩, ⟨blk_a⟩, ⟨blk_a⟩, ⟨below_a⟩⟩
     ·
      rw [if_neg c25] at H; have c25b0 : (x179002_1 == 0) = false := beq_eq_false_iff_ne.mpr c25; have c25b1 : (x179002_1 != 0) = true := bne_iff_ne.mpr c25; have H' := Aside0.mk H; clear H; have hnb37 := NB178_177.out; have hnc37 := NB177_178.out; have hcz38_0 : wc.cell? ⟨gb178, 0, none⟩ = some (.int .i64 0) := (blk_cell BK178.out 0).trans rfl; have hcz38_1 : wc.cell? ⟨gb178, 1, none⟩ = some (.int .i64 x179001_1) := (blk_cell BK178.out 1).trans rfl; have hcz38_2 : wc.cell? ⟨gb178, 2, none⟩ = some (.int .i64 x179002_1) := (blk_cell BK178.out 2).trans rfl; have hcz38_3 : wc.cell? ⟨gb178, 3, none⟩ = some (.int .i64 x179003_1) := (blk_cell BK178.out 3).trans rfl; have hcz38_4 : wc.cell? ⟨gb178, 4, none⟩ = some (.int .i64 x179004_1) := (blk_cell BK178.out 4).trans rfl; have hcz38_5 : wc.cell? ⟨gb178, 5, none⟩ = some (.int .i64 x179005_1) := (blk_cell BK178.out 5).trans rfl; have hcz38_6 : wc.cell? ⟨gb178, 6, none⟩ = some (.int .i64 x179006_1) := (blk_cell BK178.out 6).trans rfl; have hcz38_7 : wc.cell? ⟨gb178, 7, none⟩ = some (.int .i64 x179007_1) := (blk_cell BK178.out 7).trans rfl; have hcz38_8 : wc.cell? ⟨gb178, 8, none⟩ = some (.int .i64 x179008_1) := (blk_cell BK178.out 8).trans rfl; have hcz38_9 : wc.cell? ⟨gb178, 9, none⟩ = some (u179009) := (blk_cell BK178.out 9).trans rfl; have hfz38_0 := blk_frozen BK178.out 0; have hfz38_1 := blk_frozen BK178.out 1; have hfz38_2 := blk_frozen BK178.out 2; have hfz38_3 := blk_frozen BK178.out 3; have hfz38_4 := blk_frozen BK178.out 4; have hfz38_5 := blk_frozen BK178.out 5; have hfz38_6 := blk_frozen BK178.out 6; have hfz38_7 := blk_frozen BK178.out 7; have hfz38_8 := blk_frozen BK178.out 8; have hfz38_9 := blk_frozen BK178.out 9
      go_wp2
      go_meet
      case rel => exact ⟨_, (true), eq_b, H', ⟨by have := HJ1.out; first | omega | exact Nat.le_refl _⟩, ⟨by (with_reducible repeat (first | apply Kd.V_alloc | apply Kd.V_drewN | apply Kd.V_drew)); exact HO_178009.out⟩, ⟨by (with_reducible repeat (first | apply Kd.V_alloc | apply Kd.V_drewN | apply Kd.V_drew)); exact HO_179009.out⟩, ⟨blk_a⟩, ⟨blk_a⟩, ⟨below_a⟩⟩
    ·
     rw [if_neg c24] at H; have c24b0 : (x179001_1 == 0) = false := beq_eq_false_iff_ne.mpr c24; have c24b1 : (x179001_1 != 0) = true := bne_iff_ne.mpr c24; (first | rw [c24b0] | (simp only [i64_w, i32_w]; rw [c24b0]) | skip); have H' := Aside0.mk H; clear H; have hnb39 := NB178_177.out; have hnc39 := NB177_178.out; have hcz40_0 : wc.cell? ⟨gb178, 0, none⟩ = some (.int .i64 0) := (blk_cell BK178.out 0).trans rfl; have hcz40_1 : wc.cell? ⟨gb178, 1, none⟩ = some (.int .i64 x179001_1) := (blk_cell BK178.out 1).trans rfl; have hcz40_2 : wc.cell? ⟨gb178, 2, none⟩ = some (.int .i64 x179002_1) := (blk_cell BK178.out 2).trans rfl; have hcz40_3 : wc.cell? ⟨gb178, 3, none⟩ = some (.int .i64 x179003_1) := (blk_cell BK178.out 3).trans rfl; have hcz40_4 : wc.cell? ⟨gb178, 4, none⟩ = some (.int .i64 x179004_1) := (blk_cell BK178.out 4).trans rfl; have hcz40_5 : wc.cell? ⟨gb178, 5, none⟩ = some (.int .i64 x179005_1) := (blk_cell BK178.out 5).trans rfl; have hcz40_6 : wc.cell? ⟨gb178, 6, none⟩ = some (.int .i64 x179006_1) := (blk_cell BK178.out 6).trans rfl; have hcz40_7 : wc.cell? ⟨gb178, 7, none⟩ = some (.int .i64 x179007_1) := (blk_cell BK178.out 7).trans rfl; have hcz40_8 : wc.cell? ⟨gb178, 8, none⟩ = some (.int .i64 x179008_1) := (blk_cell BK178.out 8).trans rfl; have hcz40_9 : wc.cell? ⟨gb178, 9, none⟩ = some (u179009) := (blk_cell BK178.out 9).trans rfl; have hfz40_0 := blk_frozen BK178.out 0; have hfz40_1 := blk_frozen BK178.out 1; have hfz40_2 := blk_frozen BK178.out 2; have hfz40_3 := blk_frozen BK178.out 3; have hfz40_4 := blk_frozen BK178.out 4; have hfz40_5 := blk_frozen BK178.out 5; have hfz40_6 := blk_frozen BK178.out 6; have hfz40_7 := blk_frozen BK178.out 7; have hfz40_8 := blk_frozen BK178.out 8; have hfz40_9 := blk_frozen BK178.out 9
     go_wp2
     go_meet
     case rel => exact ⟨_, (true), eq_b, H', ⟨by have := HJ1.out; first | omega | exact Nat.le_refl _⟩, ⟨by (with_reducible repeat (first | apply Kd.V_alloc | apply Kd.V_drewN | apply Kd.V_drew)); exact HO_178009.out⟩, ⟨by (with_reducible repeat (first | apply Kd.V_alloc | apply Kd.V_drewN | apply Kd.V_drew)); exact HO_179009.out⟩, ⟨blk_a⟩, ⟨blk_a⟩, ⟨below_a⟩⟩
   case rest =>
    clear HC23
    try clear c1
    try clear c2
    try clear p2 p2
    try clear c3
    try clear c6
    try clear c10 c10b0 c10b1
    try clear c11
    try clear c12
    try clear c14 c14b0 c14b1
    try clear c15
    try clear c16
    try clear c17 c17b0 c17b1
    try clear c18
    try clear c20 c20b0 c20b1
    try clear c21
    try clear c24 c24b0 c24b1
    try clear c25 c25b0 c25b1
    try clear c26 c26b0
    try clear c27
    try clear c29 c29b0 c29b1
    try clear c31
    try clear c35
    try clear c37
    try clear c39
    try clear hcz13_0 hcz13_1 hcz13_2 hcz13_3 hcz13_4 hcz13_5 hcz13_6 hcz13_7 hcz13_8 hcz13_9
    try clear hcz16_0 hcz16_1 hcz16_2 hcz16_3 hcz16_4 hcz16_5 hcz16_6 hcz16_7 hcz16_8 hcz16_9
    try clear hcz19_0 hcz19_1 hcz19_2 hcz19_3 hcz19_4 hcz19_5 hcz19_6 hcz19_7 hcz19_8 hcz19_9
    try clear hcz22_0 hcz22_1 hcz22_2 hcz22_3 hcz22_4 hcz22_5 hcz22_6 hcz22_7 hcz22_8 hcz22_9
    try clear hcz28_0 hcz28_1 hcz28_2 hcz28_3 hcz28_4 hcz28_5 hcz28_6 hcz28_7 hcz28_8 hcz28_9
    try clear hcz32_0 hcz32_1 hcz32_2 hcz32_3 hcz32_4 hcz32_5 hcz32_6 hcz32_7 hcz32_8 hcz32_9
    try clear hcz36_0 hcz36_1 hcz36_2 hcz36_3 hcz36_4 hcz36_5 hcz36_6 hcz36_7 hcz36_8 hcz36_9
    try clear hcz38_0 hcz38_1 hcz38_2 hcz38_3 hcz38_4 hcz38_5 hcz38_6 hcz38_7 hcz38_8 hcz38_9
    try clear hcz40_0 hcz40_1 hcz40_2 hcz40_3 hcz40_4 hcz40_5 hcz40_6 hcz40_7 hcz40_8 hcz40_9
    try clear hcz4_0 hcz4_1 hcz4_2 hcz4_3 hcz4_4 hcz4_5 hcz4_6 hcz4_7 hcz4_8 hcz4_9
    try clear hcz7_0 hcz7_1 hcz7_2 hcz7_3 hcz7_4 hcz7_5 hcz7_6 hcz7_7 hcz7_8 hcz7_9
    try clear hcz8_0 hcz8_1 hcz8_2 hcz8_3 hcz8_4 hcz8_5 hcz8_6 hcz8_7 hcz8_8 hcz8_9
    try clear hfz13_0 hfz13_1 hfz13_2 hfz13_3 hfz13_4 hfz13_5 hfz13_6 hfz13_7 hfz13_8 hfz13_9
    try clear hfz16_0 hfz16_1 hfz16_2 hfz16_3 hfz16_4 hfz16_5 hfz16_6 hfz16_7 hfz16_8 hfz16_9
    try clear hfz19_0 hfz19_1 hfz19_2 hfz19_3 hfz19_4 hfz19_5 hfz19_6 hfz19_7 hfz19_8 hfz19_9
    try clear hfz22_0 hfz22_1 hfz22_2 hfz22_3 hfz22_4 hfz22_5 hfz22_6 hfz22_7 hfz22_8 hfz22_9
    try clear hfz28_0 hfz28_1 hfz28_2 hfz28_3 hfz28_4 hfz28_5 hfz28_6 hfz28_7 hfz28_8 hfz28_9
    try clear hfz32_0 hfz32_1 hfz32_2 hfz32_3 hfz32_4 hfz32_5 hfz32_6 hfz32_7 hfz32_8 hfz32_9
    try clear hfz36_0 hfz36_1 hfz36_2 hfz36_3 hfz36_4 hfz36_5 hfz36_6 hfz36_7 hfz36_8 hfz36_9
    try clear hfz38_0 hfz38_1 hfz38_2 hfz38_3 hfz38_4 hfz38_5 hfz38_6 hfz38_7 hfz38_8 hfz38_9
    try clear hfz40_0 hfz40_1 hfz40_2 hfz40_3 hfz40_4 hfz40_5 hfz40_6 hfz40_7 hfz40_8 hfz40_9
    try clear hfz4_0 hfz4_1 hfz4_2 hfz4_3 hfz4_4 hfz4_5 hfz4_6 hfz4_7 hfz4_8 hfz4_9
    try clear hfz7_0 hfz7_1 hfz7_2 hfz7_3 hfz7_4 hfz7_5 hfz7_6 hfz7_7 hfz7_8 hfz7_9
    try clear hfz8_0 hfz8_1 hfz8_2 hfz8_3 hfz8_4 hfz8_5 hfz8_6 hfz8_7 hfz8_8 hfz8_9
    obtain ⟨kq, x50_22, rfl, HA, HJ22, HO_178009, HO_179009, BK177, BK178, HB⟩ := hcut
    cases kq with
    | zero => exact absurd HA.out (by simp [impl_MessageFault.j2])
    | succ kj22 =>
     have H := HA.out; clear HA; simp only [impl_MessageFault.j2] at H
     by_cases c41 : x50_22 = true
     ·
      subst c41; have H1 : (some 1) = some r := by rw [if_pos rfl] at H; exact H
      clear H; have H := H1; clear H1; obtain rfl := Option.some.inj H
      go_wp2
      go_ret
      exact ⟨eq_a, below_a⟩
     ·
      replace c41 := Bool.eq_false_iff.mpr c41; subst c41; have H1 : (if a0_0 = 4 then ((impl_ClaimFault.f a0_3 a0_4 a0_5 a0_6).bind fun t180 => (some t180)) else ((impl_isSeq.f a0_1).bind fun t181 => (if t181 = true then ((impl_isNode.f a0_2).bind fun t182 => (impl_MessageFault.j3 kj22 (!t182) a0_0 a0_1 a0_2 a0_3 a0_4 a0_5 a0_6 a0_7 a0_8 l0_9)) else (impl_MessageFault.j3 kj22 true a0_0 a0_1 a0_2 a0_3 a0_4 a0_5 a0_6 a0_7 a0_8 l0_9)))) = some r := by rw [if_neg (show ¬ (false = true) by decide)] at H; exact H
      clear H; have H := H1; clear H1
      by_cases c42 : a0_0 = 4
      ·
       rw [if_pos c42] at H; have c42b0 : (a0_0 == 4) = true := beq_iff_eq.mpr c42; have c42b1 : (a0_0 != 4) = false := bne_eq_false_iff_eq.mpr c42; clear c42; replace H := Option.bind_eq_some_iff.mp H; obtain ⟨t180, A430, H⟩ := H; replace H : (some t180) = some r := H; have A43 := Aside0.mk A430; clear A430; obtain rfl := Option.some.inj H; have hnb44 := NB177_178.out; have hnc44 := NB178_177.out; have hcz45_0 : wc.cell? ⟨gb177, 0, none⟩ = some (.int .i64 a0_0) := (blk_cell BK177.out 0).trans rfl; have hcz45_1 : wc.cell? ⟨gb177, 1, none⟩ = some (.int .i64 a0_1) := (blk_cell BK177.out 1).trans rfl; have hcz45_2 : wc.cell? ⟨gb177, 2, none⟩ = some (.int .i64 a0_2) := (blk_cell BK177.out 2).trans rfl; have hcz45_3 : wc.cell? ⟨gb177, 3, none⟩ = some (.int .i64 a0_3) := (blk_cell BK177.out 3).trans rfl; have hcz45_4 : wc.cell? ⟨gb177, 4, none⟩ = some (.int .i64 a0_4) := (blk_cell BK177.out 4).trans rfl; have hcz45_5 : wc.cell? ⟨gb177, 5, none⟩ = some (.int .i64 a0_5) := (blk_cell BK177.out 5).trans rfl; have hcz45_6 : wc.cell? ⟨gb177, 6, none⟩ = some (.int .i64 a0_6) := (blk_cell BK177.out 6).trans rfl; have hcz45_7 : wc.cell? ⟨gb177, 7, none⟩ = some (.int .i64 a0_7) := (blk_cell BK177.out 7).trans rfl; have hcz45_8 : wc.cell? ⟨gb177, 8, none⟩ = some (.int .i64 a0_8) := (blk_cell BK177.out 8).trans rfl; have hcz45_9 : wc.cell? ⟨gb177, 9, none⟩ = some (.slice A0_9 l0_9.length c0_9) := (blk_cell BK177.out 9).trans rfl; have hfz45_0 := blk_frozen BK177.out 0; have hfz45_1 := blk_frozen BK177.out 1; have hfz45_2 := blk_frozen BK177.out 2; have hfz45_3 := blk_frozen BK177.out 3; have hfz45_4 := blk_frozen BK177.out 4; have hfz45_5 := blk_frozen BK177.out 5; have hfz45_6 := blk_frozen BK177.out 6; have hfz45_7 := blk_frozen BK177.out 7; have hfz45_8 := blk_frozen BK177.out 8; have hfz45_9 := blk_frozen BK177.out 9
       go_wp2_with (first | ((with_reducible refine gate_callee (f := 45) rfl ?_); refine goesL_ (some 56) rfl rfl Try.func45 (by kernel_rfl) rfl #[.agg #[.int .i64 a0_3, .int .i64 a0_4, .int .i64 a0_5, .int .i64 a0_6]] rfl args_a ?_; (with_reducible refine (impl_ClaimFault.calls a0_3 a0_4 a0_5 a0_6 t180 _ A43.out).mono ?_); rintro e w46 ⟨rfl, hb⟩; refine ⟨_, rfl, ?_⟩; replace HO_178009 := Aside0.mk (Kd.V_below (by (with_reducible repeat (first | apply Kd.V_alloc | apply Kd.V_drewN | apply Kd.V_drew)); exact HO_178009.out) hb); replace HO_179009 := Aside0.mk (Kd.V_below (by (with_reducible repeat (first | apply Kd.V_alloc | apply Kd.V_drewN | apply Kd.V_drew)); exact HO_179009.out) hb); replace BK177 := Aside0.mk (blk_below (g := gb177) blk_c hb); replace BK178 := Aside0.mk (blk_below (g := gb178) blk_c hb); replace HB := Aside0.mk (below_step below_a hb); (try clear hb); (try clear hb2); (try clear hk); (try clear hi)))
       go_ret
       exact ⟨eq_a, below_a⟩
      ·
       rw [if_neg c42] at H; have c42b0 : (a0_0 == 4) = false := beq_eq_false_iff_ne.mpr c42; have c42b1 : (a0_0 != 4) = true := bne_iff_ne.mpr c42; have HC47 := Aside0.mk H; clear H; have hnb48 := NB177_178.out; have hnc48 := NB178_177.out; have hcz49_0 : wc.cell? ⟨gb177, 0, none⟩ = some (.int .i64 a0_0) := (blk_cell BK177.out 0).trans rfl; have hcz49_1 : wc.cell? ⟨gb177, 1, none⟩ = some (.int .i64 a0_1) := (blk_cell BK177.out 1).trans rfl; have hcz49_2 : wc.cell? ⟨gb177, 2, none⟩ = some (.int .i64 a0_2) := (blk_cell BK177.out 2).trans rfl; have hcz49_3 : wc.cell? ⟨gb177, 3, none⟩ = some (.int .i64 a0_3) := (blk_cell BK177.out 3).trans rfl; have hcz49_4 : wc.cell? ⟨gb177, 4, none⟩ = some (.int .i64 a0_4) := (blk_cell BK177.out 4).trans rfl; have hcz49_5 : wc.cell? ⟨gb177, 5, none⟩ = some (.int .i64 a0_5) := (blk_cell BK177.out 5).trans rfl; have hcz49_6 : wc.cell? ⟨gb177, 6, none⟩ = some (.int .i64 a0_6) := (blk_cell BK177.out 6).trans rfl; have hcz49_7 : wc.cell? ⟨gb177, 7, none⟩ = some (.int .i64 a0_7) := (blk_cell BK177.out 7).trans rfl; have hcz49_8 : wc.cell? ⟨gb177, 8, none⟩ = some (.int .i64 a0_8) := (blk_cell BK177.out 8).trans rfl; have hcz49_9 : wc.cell? ⟨gb177, 9, none⟩ = some (.slice A0_9 l0_9.length c0_9) := (blk_cell BK177.out 9).trans rfl; have hfz49_0 := blk_frozen BK177.out 0; have hfz49_1 := blk_frozen BK177.out 1; have hfz49_2 := blk_frozen BK177.out 2; have hfz49_3 := blk_frozen BK177.out 3; have hfz49_4 := blk_frozen BK177.out 4; have hfz49_5 := blk_frozen BK177.out 5; have hfz49_6 := blk_frozen BK177.out 6; have hfz49_7 := blk_frozen BK177.out 7; have hfz49_8 := blk_frozen BK177.out 8; have hfz49_9 := blk_frozen BK177.out 9
       go_upto_region 18 with (fail)
       go_cut [66] (fun v66 wc => ∃ (kq : Nat) (x66_46 : Bool), v66 = .bool x66_46 ∧ Aside0 (impl_MessageFault.j3 kq x66_46 a0_0 a0_1 a0_2 a0_3 a0_4 a0_5 a0_6 a0_7 a0_8 l0_9 = some r) ∧ Aside0 (kq ≤ kj22) ∧ Aside0 (Kd.V (Kd.int .u8) 5 wc w.heap.size (fun k_ => (P0_9_ k_ ∨ w.heap.size ≤ k_) ∧ k_ ≠ gb177 ∧ k_ ≠ gb178) (.slice A0_9 l0_9.length c0_9) l0_9) ∧ Aside0 (Kd.V (Kd.int .u8) 5 wc w.heap.size (fun k_ => (P0_9_ k_ ∨ w.heap.size ≤ k_) ∧ k_ ≠ gb177 ∧ k_ ≠ gb178) u179009 x179009_1) ∧ Aside0 (wc.heap[gb177]? = some (.cells #[.int .i64 a0_0, .int .i64 a0_1, .int .i64 a0_2, .int .i64 a0_3, .int .i64 a0_4, .int .i64 a0_5, .int .i64 a0_6, .int .i64 a0_7, .int .i64 a0_8, (.slice A0_9 l0_9.length c0_9)] 40 (0, 0))) ∧ Aside0 (wc.heap[gb178]? = some (.cells #[.int .i64 0, .int .i64 x179001_1, .int .i64 x179002_1, .int .i64 x179003_1, .int .i64 x179004_1, .int .i64 x179005_1, .int .i64 x179006_1, .int .i64 x179007_1, .int .i64 x179008_1, u179009] 40 (0, 0))) ∧ Aside0 (Below w.heap.size w wc))
       case first =>
        have H := HC47.out; clear HC47; replace H := Option.bind_eq_some_iff.mp H; obtain ⟨t181, A500, H⟩ := H; (try dsimp only at H); have A50 := Aside0.mk A500; clear A500
        by_cases c51 : t181 = true
        ·
         subst c51; have H1 : ((impl_isNode.f a0_2).bind fun t182 => (impl_MessageFault.j3 kj22 (!t182) a0_0 a0_1 a0_2 a0_3 a0_4 a0_5 a0_6 a0_7 a0_8 l0_9)) = some r := by rw [if_pos rfl] at H; exact H
         clear H; have H := H1; clear H1; replace H := Option.bind_eq_some_iff.mp H; obtain ⟨t182, A520, H⟩ := H; replace H : (impl_MessageFault.j3 kj22 (!t182) a0_0 a0_1 a0_2 a0_3 a0_4 a0_5 a0_6 a0_7 a0_8 l0_9) = some r := H; have A52 := Aside0.mk A520; clear A520; have H' := Aside0.mk H; clear H; have hnb53 := NB177_178.out; have hnc53 := NB178_177.out; have hcz54_0 : wc.cell? ⟨gb177, 0, none⟩ = some (.int .i64 a0_0) := (blk_cell BK177.out 0).trans rfl; have hcz54_1 : wc.cell? ⟨gb177, 1, none⟩ = some (.int .i64 a0_1) := (blk_cell BK177.out 1).trans rfl; have hcz54_2 : wc.cell? ⟨gb177, 2, none⟩ = some (.int .i64 a0_2) := (blk_cell BK177.out 2).trans rfl; have hcz54_3 : wc.cell? ⟨gb177, 3, none⟩ = some (.int .i64 a0_3) := (blk_cell BK177.out 3).trans rfl; have hcz54_4 : wc.cell? ⟨gb177, 4, none⟩ = some (.int .i64 a0_4) := (blk_cell BK177.out 4).trans rfl; have hcz54_5 : wc.cell? ⟨gb177, 5, none⟩ = some (.int .i64 a0_5) := (blk_cell BK177.out 5).trans rfl; have hcz54_6 : wc.cell? ⟨gb177, 6, none⟩ = some (.int .i64 a0_6) := (blk_cell BK177.out 6).trans rfl; have hcz54_7 : wc.cell? ⟨gb177, 7, none⟩ = some (.int .i64 a0_7) := (blk_cell BK177.out 7).trans rfl; have hcz54_8 : wc.cell? ⟨gb177, 8, none⟩ = some (.int .i64 a0_8) := (blk_cell BK177.out 8).trans rfl; have hcz54_9 : wc.cell? ⟨gb177, 9, none⟩ = some (.slice A0_9 l0_9.length c0_9) := (blk_cell BK177.out 9).trans rfl; have hfz54_0 := blk_frozen BK177.out 0; have hfz54_1 := blk_frozen BK177.out 1; have hfz54_2 := blk_frozen BK177.out 2; have hfz54_3 := blk_frozen BK177.out 3; have hfz54_4 := blk_frozen BK177.out 4; have hfz54_5 := blk_frozen BK177.out 5; have hfz54_6 := blk_frozen BK177.out 6; have hfz54_7 := blk_frozen BK177.out 7; have hfz54_8 := blk_frozen BK177.out 8; have hfz54_9 := blk_frozen BK177.out 9
         go_wp2_with (first | ((with_reducible refine gate_callee (f := 46) rfl ?_); refine goesL_ (some 59) rfl rfl Try.func46 (by kernel_rfl) rfl #[.int .i64 a0_1] rfl args_a ?_; (with_reducible refine (impl_isSeq.calls a0_1 true _ A50.out).mono ?_); rintro e w' ⟨rfl, ⟨nd, rfl⟩⟩; refine ⟨_, rfl, ?_⟩) | (go_at_call 47; (with_reducible refine (impl_isNode.calls a0_2 t182 _ A52.out).mono ?_); rintro e w' ⟨rfl, ⟨nd, rfl⟩⟩))
         go_meet
         case rel => exact ⟨_, (!t182), eq_b, H', ⟨by have := HJ1.out; have := HJ22.out; first | omega | exact Nat.le_refl _⟩, ⟨by (with_reducible repeat (first | apply Kd.V_alloc | apply Kd.V_drewN | apply Kd.V_drew)); exact HO_178009.out⟩, ⟨by (with_reducible repeat (first | apply Kd.V_alloc | apply Kd.V_drewN | apply Kd.V_drew)); exact HO_179009.out⟩, ⟨blk_a⟩, ⟨blk_a⟩, ⟨below_a⟩⟩
        ·
         replace c51 := Bool.eq_false_iff.mpr c51; subst c51; have H1 : (impl_MessageFault.j3 kj22 true a0_0 a0_1 a0_2 a0_3 a0_4 a0_5 a0_6 a0_7 a0_8 l0_9) = some r := by rw [if_neg (show ¬ (false = true) by decide)] at H; exact H
         clear H; have H := H1; clear H1; have H' := Aside0.mk H; clear H; have hnb55 := NB177_178.out; have hnc55 := NB178_177.out; have hcz56_0 : wc.cell? ⟨gb177, 0, none⟩ = some (.int .i64 a0_0) := (blk_cell BK177.out 0).trans rfl; have hcz56_1 : wc.cell? ⟨gb177, 1, none⟩ = some (.int .i64 a0_1) := (blk_cell BK177.out 1).trans rfl; have hcz56_2 : wc.cell? ⟨gb177, 2, none⟩ = some (.int .i64 a0_2) := (blk_cell BK177.out 2).trans rfl; have hcz56_3 : wc.cell? ⟨gb177, 3, none⟩ = some (.int .i64 a0_3) := (blk_cell BK177.out 3).trans rfl; have hcz56_4 : wc.cell? ⟨gb177, 4, none⟩ = some (.int .i64 a0_4) := (blk_cell BK177.out 4).trans rfl; have hcz56_5 : wc.cell? ⟨gb177, 5, none⟩ = some (.int .i64 a0_5) := (blk_cell BK177.out 5).trans rfl; have hcz56_6 : wc.cell? ⟨gb177, 6, none⟩ = some (.int .i64 a0_6) := (blk_cell BK177.out 6).trans rfl; have hcz56_7 : wc.cell? ⟨gb177, 7, none⟩ = some (.int .i64 a0_7) := (blk_cell BK177.out 7).trans rfl; have hcz56_8 : wc.cell? ⟨gb177, 8, none⟩ = some (.int .i64 a0_8) := (blk_cell BK177.out 8).trans rfl; have hcz56_9 : wc.cell? ⟨gb177, 9, none⟩ = some (.slice A0_9 l0_9.length c0_9) := (blk_cell BK177.out 9).trans rfl; have hfz56_0 := blk_frozen BK177.out 0; have hfz56_1 := blk_frozen BK177.out 1; have hfz56_2 := blk_frozen BK177.out 2; have hfz56_3 := blk_frozen BK177.out 3; have hfz56_4 := blk_frozen BK177.out 4; have hfz56_5 := blk_frozen BK177.out 5; have hfz56_6 := blk_frozen BK177.out 6; have hfz56_7 := blk_frozen BK177.out 7; have hfz56_8 := blk_frozen BK177.out 8; have hfz56_9 := blk_frozen BK177.out 9
         go_wp2_with (first | ((with_reducible refine gate_callee (f := 46) rfl ?_); refine goesL_ (some 59) rfl rfl Try.func46 (by kernel_rfl) rfl #[.int .i64 a0_1] rfl args_a ?_; (with_reducible refine (impl_isSeq.calls a0_1 false _ A50.out).mono ?_); rintro e w' ⟨rfl, ⟨nd, rfl⟩⟩; refine ⟨_, rfl, ?_⟩))
         go_meet
         case rel => exact ⟨_, (true), eq_b, H', ⟨by have := HJ1.out; have := HJ22.out; first | omega | exact Nat.le_refl _⟩, ⟨by (with_reducible repeat (first | apply Kd.V_alloc | apply Kd.V_drewN | apply Kd.V_drew)); exact HO_178009.out⟩, ⟨by (with_reducible repeat (first | apply Kd.V_alloc | apply Kd.V_drewN | apply Kd.V_drew)); exact HO_179009.out⟩, ⟨blk_a⟩, ⟨blk_a⟩, ⟨below_a⟩⟩
       case rest =>
        clear HC47
        try clear c1
        try clear c2
        try clear p2 p2
        try clear c3
        try clear c4
        try clear c5
        try clear c6
        try clear c10 c10b0 c10b1
        try clear c11
        try clear c12
        try clear c14 c14b0 c14b1
        try clear c15
        try clear c16
        try clear c17 c17b0 c17b1
        try clear c18
        try clear c20 c20b0 c20b1
        try clear c21
        try clear c24 c24b0 c24b1
        try clear c25 c25b0 c25b1
        try clear c26 c26b0
        try clear c27
        try clear c29 c29b0 c29b1
        try clear c31
        try clear c35
        try clear c37
        try clear c39
        try clear c41
        try clear c42 c42b0 c42b1
        try clear c44
        try clear c45
        try clear c46
        try clear c48
        try clear c51
        try clear c53
        try clear c55
        try clear hcz13_0 hcz13_1 hcz13_2 hcz13_3 hcz13_4 hcz13_5 hcz13_6 hcz13_7 hcz13_8 hcz13_9
        try clear hcz16_0 hcz16_1 hcz16_2 hcz16_3 hcz16_4 hcz16_5 hcz16_6 hcz16_7 hcz16_8 hcz16_9
        try clear hcz19_0 hcz19_1 hcz19_2 hcz19_3 hcz19_4 hcz19_5 hcz19_6 hcz19_7 hcz19_8 hcz19_9
        try clear hcz22_0 hcz22_1 hcz22_2 hcz22_3 hcz22_4 hcz22_5 hcz22_6 hcz22_7 hcz22_8 hcz22_9
        try clear hcz28_0 hcz28_1 hcz28_2 hcz28_3 hcz28_4 hcz28_5 hcz28_6 hcz28_7 hcz28_8 hcz28_9
        try clear hcz32_0 hcz32_1 hcz32_2 hcz32_3 hcz32_4 hcz32_5 hcz32_6 hcz32_7 hcz32_8 hcz32_9
        try clear hcz36_0 hcz36_1 hcz36_2 hcz36_3 hcz36_4 hcz36_5 hcz36_6 hcz36_7 hcz36_8 hcz36_9
        try clear hcz38_0 hcz38_1 hcz38_2 hcz38_3 hcz38_4 hcz38_5 hcz38_6 hcz38_7 hcz38_8 hcz38_9
        try clear hcz40_0 hcz40_1 hcz40_2 hcz40_3 hcz40_4 hcz40_5 hcz40_6 hcz40_7 hcz40_8 hcz40_9
        try clear hcz45_0 hcz45_1 hcz45_2 hcz45_3 hcz45_4 hcz45_5 hcz45_6 hcz45_7 hcz45_8 hcz45_9
        try clear hcz49_0 hcz49_1 hcz49_2 hcz49_3 hcz49_4 hcz49_5 hcz49_6 hcz49_7 hcz49_8 hcz49_9
        try clear hcz4_0 hcz4_1 hcz4_2 hcz4_3 hcz4_4 hcz4_5 hcz4_6 hcz4_7 hcz4_8 hcz4_9
        try clear hcz54_0 hcz54_1 hcz54_2 hcz54_3 hcz54_4 hcz54_5 hcz54_6 hcz54_7 hcz54_8 hcz54_9
        try clear hcz56_0 hcz56_1 hcz56_2 hcz56_3 hcz56_4 hcz56_5 hcz56_6 hcz56_7 hcz56_8 hcz56_9
        try clear hcz7_0 hcz7_1 hcz7_2 hcz7_3 hcz7_4 hcz7_5 hcz7_6 hcz7_7 hcz7_8 hcz7_9
        try clear hcz8_0 hcz8_1 hcz8_2 hcz8_3 hcz8_4 hcz8_5 hcz8_6 hcz8_7 hcz8_8 hcz8_9
        try clear hfz13_0 hfz13_1 hfz13_2 hfz13_3 hfz13_4 hfz13_5 hfz13_6 hfz13_7 hfz13_8 hfz13_9
        try clear hfz16_0 hfz16_1 hfz16_2 hfz16_3 hfz16_4 hfz16_5 hfz16_6 hfz16_7 hfz16_8 hfz16_9
        try clear hfz19_0 hfz19_1 hfz19_2 hfz19_3 hfz19_4 hfz19_5 hfz19_6 hfz19_7 hfz19_8 hfz19_9
        try clear hfz22_0 hfz22_1 hfz22_2 hfz22_3 hfz22_4 hfz22_5 hfz22_6 hfz22_7 hfz22_8 hfz22_9
        try clear hfz28_0 hfz28_1 hfz28_2 hfz28_3 hfz28_4 hfz28_5 hfz28_6 hfz28_7 hfz28_8 hfz28_9
        try clear hfz32_0 hfz32_1 hfz32_2 hfz32_3 hfz32_4 hfz32_5 hfz32_6 hfz32_7 hfz32_8 hfz32_9
        try clear hfz36_0 hfz36_1 hfz36_2 hfz36_3 hfz36_4 hfz36_5 hfz36_6 hfz36_7 hfz36_8 hfz36_9
        try clear hfz38_0 hfz38_1 hfz38_2 hfz38_3 hfz38_4 hfz38_5 hfz38_6 hfz38_7 hfz38_8 hfz38_9
        try clear hfz40_0 hfz40_1 hfz40_2 hfz40_3 hfz40_4 hfz40_5 hfz40_6 hfz40_7 hfz40_8 hfz40_9
        try clear hfz45_0 hfz45_1 hfz45_2 hfz45_3 hfz45_4 hfz45_5 hfz45_6 hfz45_7 hfz45_8 hfz45_9
        try clear hfz49_0 hfz49_1 hfz49_2 hfz49_3 hfz49_4 hfz49_5 hfz49_6 hfz49_7 hfz49_8 hfz49_9
        try clear hfz4_0 hfz4_1 hfz4_2 hfz4_3 hfz4_4 hfz4_5 hfz4_6 hfz4_7 hfz4_8 hfz4_9
        try clear hfz54_0 hfz54_1 hfz54_2 hfz54_3 hfz54_4 hfz54_5 hfz54_6 hfz54_7 hfz54_8 hfz54_9
        try clear hfz56_0 hfz56_1 hfz56_2 hfz56_3 hfz56_4 hfz56_5 hfz56_6 hfz56_7 hfz56_8 hfz56_9
        try clear hfz7_0 hfz7_1 hfz7_2 hfz7_3 hfz7_4 hfz7_5 hfz7_6 hfz7_7 hfz7_8 hfz7_9
        try clear hfz8_0 hfz8_1 hfz8_2 hfz8_3 hfz8_4 hfz8_5 hfz8_6 hfz8_7 hfz8_8 hfz8_9
        obtain ⟨kq, x66_46, rfl, HA, HJ46, HO_178009, HO_179009, BK177, BK178, HB⟩ := hcut
        cases kq with
        | zero => exact absurd HA.out (by simp [impl_MessageFault.j3])
        | succ kj46 =>
         have H := HA.out; clear HA; simp only [impl_MessageFault.j3] at H
         by_cases c57 : x66_46 = true
         ·
          subst c57; have H1 : (some 3) = some r := by rw [if_pos rfl] at H; exact H
          clear H; have H := H1; clear H1; obtain rfl := Option.some.inj H
          go_wp2
          go_ret
          exact ⟨eq_a, below_a⟩
         ·
          replace c57 := Bool.eq_false_iff.mpr c57; subst c57; have H1 : (if a0_0 = 5 then (if a0_7 = 1 then (impl_MessageFault.j4 kj46 16 a0_0 a0_1 a0_2 a0_3 a0_4 a0_5 a0_6 a0_7 a0_8 l0_9) else (impl_MessageFault.j4 kj46 0 a0_0 a0_1 a0_2 a0_3 a0_4 a0_5 a0_6 a0_7 a0_8 l0_9)) else (some 0)) = some r := by rw [if_neg (show ¬ (false = true) by decide)] at H; exact H
          clear H; have H := H1; clear H1
          by_cases c58 : a0_0 = 5
          ·
           rw [if_pos c58] at H; have c58b0 : (a0_0 == 5) = true := beq_iff_eq.mpr c58; have c58b1 : (a0_0 != 5) = false := bne_eq_false_iff_eq.mpr c58; clear c58; have HC59 := Aside0.mk H; clear H; have hnb60 := NB177_178.out; have hnc60 := NB178_177.out; have hcz61_0 : wc.cell? ⟨gb177, 0, none⟩ = some (.int .i64 a0_0) := (blk_cell BK177.out 0).trans rfl; have hcz61_1 : wc.cell? ⟨gb177, 1, none⟩ = some (.int .i64 a0_1) := (blk_cell BK177.out 1).trans rfl; have hcz61_2 : wc.cell? ⟨gb177, 2, none⟩ = some (.int .i64 a0_2) := (blk_cell BK177.out 2).trans rfl; have hcz61_3 : wc.cell? ⟨gb177, 3, none⟩ = some (.int .i64 a0_3) := (blk_cell BK177.out 3).trans rfl; have hcz61_4 : wc.cell? ⟨gb177, 4, none⟩ = some (.int .i64 a0_4) := (blk_cell BK177.out 4).trans rfl; have hcz61_5 : wc.cell? ⟨gb177, 5, none⟩ = some (.int .i64 a0_5) := (blk_cell BK177.out 5).trans rfl; have hcz61_6 : wc.cell? ⟨gb177, 6, none⟩ = some (.int .i64 a0_6) := (blk_cell BK177.out 6).trans rfl; have hcz61_7 : wc.cell? ⟨gb177, 7, none⟩ = some (.int .i64 a0_7) := (blk_cell BK177.out 7).trans rfl; have hcz61_8 : wc.cell? ⟨gb177, 8, none⟩ = some (.int .i64 a0_8) := (blk_cell BK177.out 8).trans rfl; have hcz61_9 : wc.cell? ⟨gb177, 9, none⟩ = some (.slice A0_9 l0_9.length c0_9) := (blk_cell BK177.out 9).trans rfl; have hfz61_0 := blk_frozen BK177.out 0; have hfz61_1 := blk_frozen BK177.out 1; have hfz61_2 := blk_frozen BK177.out 2; have hfz61_3 := blk_frozen BK177.out 3; have hfz61_4 := blk_frozen BK177.out 4; have hfz61_5 := blk_frozen BK177.out 5; have hfz61_6 := blk_frozen BK177.out 6; have hfz61_7 := blk_frozen BK177.out 7; have hfz61_8 := blk_frozen BK177.out 8; have hfz61_9 := blk_frozen BK177.out 9
           go_upto_if 72 with (fail)
           go_cut [4] (fun v4 wc => ∃ (kq : Nat) (x4_58 : Int), v4 = .int .i64 x4_58 ∧ Aside0 (impl_MessageFault.j4 kq x4_58 a0_0 a0_1 a0_2 a0_3 a0_4 a0_5 a0_6 a0_7 a0_8 l0_9 = some r) ∧ Aside0 (kq ≤ kj46) ∧ Aside0 (Kd.V (Kd.int .u8) 5 wc w.heap.size (fun k_ => (P0_9_ k_ ∨ w.heap.size ≤ k_) ∧ k_ ≠ gb177 ∧ k_ ≠ gb178) (.slice A0_9 l0_9.length c0_9) l0_9) ∧ Aside0 (Kd.V (Kd.int .u8) 5 wc w.heap.size (fun k_ => (P0_9_ k_ ∨ w.heap.size ≤ k_) ∧ k_ ≠ gb177 ∧ k_ ≠ gb178) u179009 x179009_1) ∧ Aside0 (wc.heap[gb177]? = some (.cells #[.int .i64 a0_0, .int .i64 a0_1, .int .i64 a0_2, .int .i64 a0_3, .int .i64 a0_4, .int .i64 a0_5, .int .i64 a0_6, .int .i64 a0_7, .int .i64 a0_8, (.slice A0_9 l0_9.length c0_9)] 40 (0, 0))) ∧ Aside0 (wc.heap[gb178]? = some (.cells #[.int .i64 0, .int .i64 x179001_1, .int .i64 x179002_1, .int .i64 x179003_1, .int .i64 x179004_1, .int .i64 x179005_1, .int .i64 x179006_1, .int .i64 x179007_1, .int .i64 x179008_1, u179009] 40 (0, 0))) ∧ Aside0 (Below w.heap.size w wc))
           case first =>
            have H := HC59.out; clear HC59
            by_cases c62 : a0_7 = 1
            ·
             rw [if_pos c62] at H; have c62b0 : (a0_7 == 1) = true := beq_iff_eq.mpr c62; have c62b1 : (a0_7 != 1) = false := bne_eq_false_iff_eq.mpr c62; clear c62; (first | rw [c62b0] | (simp only [i64_w, i32_w]; rw [c62b0]) | skip); have H' := Aside0.mk H; clear H
             go_wp2
             go_meet
             case rel => exact ⟨_, (16), eq_b, H', ⟨by have := HJ1.out; have := HJ22.out; have := HJ46.out; first | omega | exact Nat.le_refl _⟩, ⟨by (with_reducible repeat (first | apply Kd.V_alloc | apply Kd.V_drewN | apply Kd.V_drew)); exact HO_178009.out⟩, ⟨by (with_reducible repeat (first | apply Kd.V_alloc | apply Kd.V_drewN | apply Kd.V_drew)); exact HO_179009.out⟩, ⟨blk_a⟩, ⟨blk_a⟩, ⟨below_a⟩⟩
            ·
             rw [if_neg c62] at H; have c62b0 : (a0_7 == 1) = false := beq_eq_false_iff_ne.mpr c62; have c62b1 : (a0_7 != 1) = true := bne_iff_ne.mpr c62; (first | rw [c62b0] | (simp only [i64_w, i32_w]; rw [c62b0]) | skip); have H' := Aside0.mk H; clear H
             go_wp2
             go_meet
             case rel => exact ⟨_, (0), eq_b, H', ⟨by have := HJ1.out; have := HJ22.out; have := HJ46.out; first | omega | exact Nat.le_refl _⟩, ⟨by (with_reducible repeat (first | apply Kd.V_alloc | apply Kd.V_drewN | apply Kd.V_drew)); exact HO_178009.out⟩, ⟨by (with_reducible repeat (first | apply Kd.V_alloc | apply Kd.V_drewN | apply Kd.V_drew)); exact HO_179009.out⟩, ⟨blk_a⟩, ⟨blk_a⟩, ⟨below_a⟩⟩
           case rest =>
            clear HC59
            try clear c1
            try clear c2
            try clear p2 p2
            try clear c3
            try clear c4
            try clear c5
            try clear c6
            try clear c10 c10b0 c10b1
            try clear c11
            try clear c12
            try clear c14 c14b0 c14b1
            try clear c15
            try clear c16
            try clear c17 c17b0 c17b1
            try clear c18
            try clear c20 c20b0 c20b1
            try clear c21
            try clear c24 c24b0 c24b1
            try clear c25 c25b0 c25b1
            try clear c26 c26b0
            try clear c27
            try clear c29 c29b0 c29b1
            try clear c31
            try clear c35
            try clear c37
            try clear c39
            try clear c41
            try clear c42 c42b0 c42b1
            try clear c44
            try clear c45
            try clear c46
            try clear c48
            try clear c51
            try clear c53
            try clear c55
            try clear c57
            try clear c58 c58b0 c58b1
            try clear c60
            try clear c62 c62b0 c62b1
            try clear hcz13_0 hcz13_1 hcz13_2 hcz13_3 hcz13_4 hcz13_5 hcz13_6 hcz13_7 hcz13_8 hcz13_9
            try clear hcz16_0 hcz16_1 hcz16_2 hcz16_3 hcz16_4 hcz16_5 hcz16_6 hcz16_7 hcz16_8 hcz16_9
            try clear hcz19_0 hcz19_1 hcz19_2 hcz19_3 hcz19_4 hcz19_5 hcz19_6 hcz19_7 hcz19_8 hcz19_9
            try clear hcz22_0 hcz22_1 hcz22_2 hcz22_3 hcz22_4 hcz22_5 hcz22_6 hcz22_7 hcz22_8 hcz22_9
            try clear hcz28_0 hcz28_1 hcz28_2 hcz28_3 hcz28_4 hcz28_5 hcz28_6 hcz28_7 hcz28_8 hcz28_9
            try clear hcz32_0 hcz32_1 hcz32_2 hcz32_3 hcz32_4 hcz32_5 hcz32_6 hcz32_7 hcz32_8 hcz32_9
            try clear hcz36_0 hcz36_1 hcz36_2 hcz36_3 hcz36_4 hcz36_5 hcz36_6 hcz36_7 hcz36_8 hcz36_9
            try clear hcz38_0 hcz38_1 hcz38_2 hcz38_3 hcz38_4 hcz38_5 hcz38_6 hcz38_7 hcz38_8 hcz38_9
            try clear hcz40_0 hcz40_1 hcz40_2 hcz40_3 hcz40_4 hcz40_5 hcz40_6 hcz40_7 hcz40_8 hcz40_9
            try clear hcz45_0 hcz45_1 hcz45_2 hcz45_3 hcz45_4 hcz45_5 hcz45_6 hcz45_7 hcz45_8 hcz45_9
            try clear hcz49_0 hcz49_1 hcz49_2 hcz49_3 hcz49_4 hcz49_5 hcz49_6 hcz49_7 hcz49_8 hcz49_9
            try clear hcz4_0 hcz4_1 hcz4_2 hcz4_3 hcz4_4 hcz4_5 hcz4_6 hcz4_7 hcz4_8 hcz4_9
            try clear hcz54_0 hcz54_1 hcz54_2 hcz54_3 hcz54_4 hcz54_5 hcz54_6 hcz54_7 hcz54_8 hcz54_9
            try clear hcz56_0 hcz56_1 hcz56_2 hcz56_3 hcz56_4 hcz56_5 hcz56_6 hcz56_7 hcz56_8 hcz56_9
            try clear hcz61_0 hcz61_1 hcz61_2 hcz61_3 hcz61_4 hcz61_5 hcz61_6 hcz61_7 hcz61_8 hcz61_9
            try clear hcz7_0 hcz7_1 hcz7_2 hcz7_3 hcz7_4 hcz7_5 hcz7_6 hcz7_7 hcz7_8 hcz7_9
            try clear hcz8_0 hcz8_1 hcz8_2 hcz8_3 hcz8_4 hcz8_5 hcz8_6 hcz8_7 hcz8_8 hcz8_9
            try clear hfz13_0 hfz13_1 hfz13_2 hfz13_3 hfz13_4 hfz13_5 hfz13_6 hfz13_7 hfz13_8 hfz13_9
            try clear hfz16_0 hfz16_1 hfz16_2 hfz16_3 hfz16_4 hfz16_5 hfz16_6 hfz16_7 hfz16_8 hfz16_9
            try clear hfz19_0 hfz19_1 hfz19_2 hfz19_3 hfz19_4 hfz19_5 hfz19_6 hfz19_7 hfz19_8 hfz19_9
            try clear hfz22_0 hfz22_1 hfz22_2 hfz22_3 hfz22_4 hfz22_5 hfz22_6 hfz22_7 hfz22_8 hfz22_9
            try clear hfz28_0 hfz28_1 hfz28_2 hfz28_3 hfz28_4 hfz28_5 hfz28_6 hfz28_7 hfz28_8 hfz28_9
            try clear hfz32_0 hfz32_1 hfz32_2 hfz32_3 hfz32_4 hfz32_5 hfz32_6 hfz32_7 hfz32_8 hfz32_9
            try clear hfz36_0 hfz36_1 hfz36_2 hfz36_3 hfz36_4 hfz36_5 hfz36_6 hfz36_7 hfz36_8 hfz36_9
            try clear hfz38_0 hfz38_1 hfz38_2 hfz38_3 hfz38_4 hfz38_5 hfz38_6 hfz38_7 hfz38_8 hfz38_9
            try clear hfz40_0 hfz40_1 hfz40_2 hfz40_3 hfz40_4 hfz40_5 hfz40_6 hfz40_7 hfz40_8 hfz40_9
            try clear hfz45_0 hfz45_1 hfz45_2 hfz45_3 hfz45_4 hfz45_5 hfz45_6 hfz45_7 hfz45_8 hfz45_9
            try clear hfz49_0 hfz49_1 hfz49_2 hfz49_3 hfz49_4 hfz49_5 hfz49_6 hfz49_7 hfz49_8 hfz49_9
            try clear hfz4_0 hfz4_1 hfz4_2 hfz4_3 hfz4_4 hfz4_5 hfz4_6 hfz4_7 hfz4_8 hfz4_9
            try clear hfz54_0 hfz54_1 hfz54_2 hfz54_3 hfz54_4 hfz54_5 hfz54_6 hfz54_7 hfz54_8 hfz54_9
            try clear hfz56_0 hfz56_1 hfz56_2 hfz56_3 hfz56_4 hfz56_5 hfz56_6 hfz56_7 hfz56_8 hfz56_9
            try clear hfz61_0 hfz61_1 hfz61_2 hfz61_3 hfz61_4 hfz61_5 hfz61_6 hfz61_7 hfz61_8 hfz61_9
            try clear hfz7_0 hfz7_1 hfz7_2 hfz7_3 hfz7_4 hfz7_5 hfz7_6 hfz7_7 hfz7_8 hfz7_9
            try clear hfz8_0 hfz8_1 hfz8_2 hfz8_3 hfz8_4 hfz8_5 hfz8_6 hfz8_7 hfz8_8 hfz8_9
            obtain ⟨kq, x4_58, rfl, HA, HJ58, HO_178009, HO_179009, BK177, BK178, HB⟩ := hcut
            cases kq with
            | zero => exact absurd HA.out (by simp [impl_MessageFault.j4])
            | succ kj58 =>
             have H := HA.out; clear HA; simp only [impl_MessageFault.j4] at H; have HC63 := Aside0.mk H; clear H
             go_upto_region 25 with (fail)
             go_cut [73] (fun v73 wc => ∃ (kq : Nat) (x73_62 : Bool), v73 = .bool x73_62 ∧ Aside0 (impl_MessageFault.j5 kq x4_58 x73_62 a0_0 a0_1 a0_2 a0_3 a0_4 a0_5 a0_6 a0_7 a0_8 l0_9 = some r) ∧ Aside0 (kq ≤ kj58) ∧ Aside0 (Kd.V (Kd.int .u8) 5 wc w.heap.size (fun k_ => (P0_9_ k_ ∨ w.heap.size ≤ k_) ∧ k_ ≠ gb177 ∧ k_ ≠ gb178) (.slice A0_9 l0_9.length c0_9) l0_9) ∧ Aside0 (Kd.V (Kd.int .u8) 5 wc w.heap.size (fun k_ => (P0_9_ k_ ∨ w.heap.size ≤ k_) ∧ k_ ≠ gb177 ∧ k_ ≠ gb178) u179009 x179009_1) ∧ Aside0 (wc.heap[gb177]? = some (.cells #[.int .i64 a0_0, .int .i64 a0_1, .int .i64 a0_2, .int .i64 a0_3, .int .i64 a0_4, .int .i64 a0_5, .int .i64 a0_6, .int .i64 a0_7, .int .i64 a0_8, (.slice A0_9 l0_9.length c0_9)] 40 (0, 0))) ∧ Aside0 (wc.heap[gb178]? = some (.cells #[.int .i64 0, .int .i64 x179001_1, .int .i64 x179002_1, .int .i64 x179003_1, .int .i64 x179004_1, .int .i64 x179005_1, .int .i64 x179006_1, .int .i64 x179007_1, .int .i64 x179008_1, u179009] 40 (0, 0))) ∧ Aside0 (Below w.heap.size w wc))
             case first =>
              have H := HC63.out; clear HC63; replace H := Option.bind_eq_some_iff.mp H; obtain ⟨t183, A640, H⟩ := H; (try dsimp only at H); have A64 := Aside0.mk A640; clear A640
              by_cases c65 : t183 = true
              ·
               subst c65; have H1 : ((impl_isKeyId.f a0_8).bind fun t184 => (impl_MessageFault.j5 kj58 x4_58 (!t184) a0_0 a0_1 a0_2 a0_3 a0_4 a0_5 a0_6 a0_7 a0_8 l0_9)) = some r := by rw [if_pos rfl] at H; exact H
               clear H; have H := H1; clear H1; replace H := Option.bind_eq_some_iff.mp H; obtain ⟨t184, A660, H⟩ := H; replace H : (impl_MessageFault.j5 kj58 x4_58 (!t184) a0_0 a0_1 a0_2 a0_3 a0_4 a0_5 a0_6 a0_7 a0_8 l0_9) = some r := H; have A66 := Aside0.mk A660; clear A660; have H' := Aside0.mk H; clear H; have hnb67 := NB177_178.out; have hnc67 := NB178_177.out; have hcz68_0 : wc.cell? ⟨gb177, 0, none⟩ = some (.int .i64 a0_0) := (blk_cell BK177.out 0).trans rfl; have hcz68_1 : wc.cell? ⟨gb177, 1, none⟩ = some (.int .i64 a0_1) := (blk_cell BK177.out 1).trans rfl; have hcz68_2 : wc.cell? ⟨gb177, 2, none⟩ = some (.int .i64 a0_2) := (blk_cell BK177.out 2).trans rfl; have hcz68_3 : wc.cell? ⟨gb177, 3, none⟩ = some (.int .i64 a0_3) := (blk_cell BK177.out 3).trans rfl; have hcz68_4 : wc.cell? ⟨gb177, 4, none⟩ = some (.int .i64 a0_4) := (blk_cell BK177.out 4).trans rfl; have hcz68_5 : wc.cell? ⟨gb177, 5, none⟩ = some (.int .i64 a0_5) := (blk_cell BK177.out 5).trans rfl; have hcz68_6 : wc.cell? ⟨gb177, 6, none⟩ = some (.int .i64 a0_6) := (blk_cell BK177.out 6).trans rfl; have hcz68_7 : wc.cell? ⟨gb177, 7, none⟩ = some (.int .i64 a0_7) := (blk_cell BK177.out 7).trans rfl; have hcz68_8 : wc.cell? ⟨gb177, 8, none⟩ = some (.int .i64 a0_8) := (blk_cell BK177.out 8).trans rfl; have hcz68_9 : wc.cell? ⟨gb177, 9, none⟩ = some (.slice A0_9 l0_9.length c0_9) := (blk_cell BK177.out 9).trans rfl; have hfz68_0 := blk_frozen BK177.out 0; have hfz68_1 := blk_frozen BK177.out 1; have hfz68_2 := blk_frozen BK177.out 2; have hfz68_3 := blk_frozen BK177.out 3; have hfz68_4 := blk_frozen BK177.out 4; have hfz68_5 := blk_frozen BK177.out 5; have hfz68_6 := blk_frozen BK177.out 6; have hfz68_7 := blk_frozen BK177.out 7; have hfz68_8 := blk_frozen BK177.out 8; have hfz68_9 := blk_frozen BK177.out 9
               go_wp2_with (first | ((with_reducible refine gate_callee (f := 48) rfl ?_); refine goesL_ (some 76) rfl rfl Try.func48 (by kernel_rfl) rfl #[.int .i64 a0_7, .int .i64 1, .int .i64 3] rfl args_a ?_; (with_reducible refine (impl_in.calls a0_7 1 3 true _ A64.out).mono ?_); rintro e w' ⟨rfl, ⟨nd, rfl⟩⟩; refine ⟨_, rfl, ?_⟩) | (go_at_call 49; (with_reducible refine (impl_isKeyId.calls a0_8 t184 _ A66.out).mono ?_); rintro e w' ⟨rfl, ⟨nd, rfl⟩⟩))
               go_meet
               case rel => exact ⟨_, (!t184), eq_b, H', ⟨by have := HJ1.out; have := HJ22.out; have := HJ46.out; have := HJ58.out; first | omega | exact Nat.le_refl _⟩, ⟨by (with_reducible repeat (first | apply Kd.V_alloc | apply Kd.V_drewN | apply Kd.V_drew)); exact HO_178009.out⟩, ⟨by (with_reducible repeat (first | apply Kd.V_alloc | apply Kd.V_drewN | apply Kd.V_drew)); exact HO_179009.out⟩, ⟨blk_a⟩, ⟨blk_a⟩, ⟨below_a⟩⟩
              ·
               replace c65 := Bool.eq_false_iff.mpr c65; subst c65; have H1 : (impl_MessageFault.j5 kj58 x4_58 true a0_0 a0_1 a0_2 a0_3 a0_4 a0_5 a0_6 a0_7 a0_8 l0_9) = some r := by rw [if_neg (show ¬ (false = true) by decide)] at H; exact H
               clear H; have H := H1; clear H1; have H' := Aside0.mk H; clear H; have hnb69 := NB177_178.out; have hnc69 := NB178_177.out; have hcz70_0 : wc.cell? ⟨gb177, 0, none⟩ = some (.int .i64 a0_0) := (blk_cell BK177.out 0).trans rfl; have hcz70_1 : wc.cell? ⟨gb177, 1, none⟩ = some (.int .i64 a0_1) := (blk_cell BK177.out 1).trans rfl; have hcz70_2 : wc.cell? ⟨gb177, 2, none⟩ = some (.int .i64 a0_2) := (blk_cell BK177.out 2).trans rfl; have hcz70_3 : wc.cell? ⟨gb177, 3, none⟩ = some (.int .i64 a0_3) := (blk_cell BK177.out 3).trans rfl; have hcz70_4 : wc.cell? ⟨gb177, 4, none⟩ = some (.int .i64 a0_4) := (blk_cell BK177.out 4).trans rfl; have hcz70_5 : wc.cell? ⟨gb177, 5, none⟩ = some (.int .i64 a0_5) := (blk_cell BK177.out 5).trans rfl; have hcz70_6 : wc.cell? ⟨gb177, 6, none⟩ = some (.int .i64 a0_6) := (blk_cell BK177.out 6).trans rfl; have hcz70_7 : wc.cell? ⟨gb177, 7, none⟩ = some (.int .i64 a0_7) := (blk_cell BK177.out 7).trans rfl; have hcz70_8 : wc.cell? ⟨gb177, 8, none⟩ = some (.int .i64 a0_8) := (blk_cell BK177.out 8).trans rfl; have hcz70_9 : wc.cell? ⟨gb177, 9, none⟩ = some (.slice A0_9 l0_9.length c0_9) := (blk_cell BK177.out 9).trans rfl; have hfz70_0 := blk_frozen BK177.out 0; have hfz70_1 := blk_frozen BK177.out 1; have hfz70_2 := blk_frozen BK177.out 2; have hfz70_3 := blk_frozen BK177.out 3; have hfz70_4 := blk_frozen BK177.out 4; have hfz70_5 := blk_frozen BK177.out 5; have hfz70_6 := blk_frozen BK177.out 6; have hfz70_7 := blk_frozen BK177.out 7; have hfz70_8 := blk_frozen BK177.out 8; have hfz70_9 := blk_frozen BK177.out 9
               go_wp2_with (first | ((with_reducible refine gate_callee (f := 48) rfl ?_); refine goesL_ (some 76) rfl rfl Try.func48 (by kernel_rfl) rfl #[.int .i64 a0_7, .int .i64 1, .int .i64 3] rfl args_a ?_; (with_reducible refine (impl_in.calls a0_7 1 3 false _ A64.out).mono ?_); rintro e w' ⟨rfl, ⟨nd, rfl⟩⟩; refine ⟨_, rfl, ?_⟩))
               go_meet
               case rel => exact ⟨_, (true), eq_b, H', ⟨by have := HJ1.out; have := HJ22.out; have := HJ46.out; have := HJ58.out; first | omega | exact Nat.le_refl _⟩, ⟨by (with_reducible repeat (first | apply Kd.V_alloc | apply Kd.V_drewN | apply Kd.V_drew)); exact HO_178009.out⟩, ⟨by (with_reducible repeat (first | apply Kd.V_alloc | apply Kd.V_drewN | apply Kd.V_drew)); exact HO_179009.out⟩, ⟨blk_a⟩, ⟨blk_a⟩, ⟨below_a⟩⟩
             case rest =>
              clear HC63
              try clear c1
              try clear c2
              try clear p2 p2
              try clear c3
              try clear c4
              try clear c5
              try clear c6
              try clear c10 c10b0 c10b1
              try clear c11
              try clear c12
              try clear c14 c14b0 c14b1
              try clear c15
              try clear c16
              try clear c17 c17b0 c17b1
              try clear c18
              try clear c20 c20b0 c20b1
              try clear c21
              try clear c24 c24b0 c24b1
              try clear c25 c25b0 c25b1
              try clear c26 c26b0
              try clear c27
              try clear c29 c29b0 c29b1
              try clear c31
              try clear c35
              try clear c37
              try clear c39
              try clear c41
              try clear c42 c42b0 c42b1
              try clear c44
              try clear c45
              try clear c46
              try clear c48
              try clear c51
              try clear c53
              try clear c55
              try clear c57
              try clear c58 c58b0 c58b1
              try clear c60
              try clear c62 c62b0 c62b1
              try clear c65
              try clear c67
              try clear c69
              try clear hcz13_0 hcz13_1 hcz13_2 hcz13_3 hcz13_4 hcz13_5 hcz13_6 hcz13_7 hcz13_8 hcz13_9
              try clear hcz16_0 hcz16_1 hcz16_2 hcz16_3 hcz16_4 hcz16_5 hcz16_6 hcz16_7 hcz16_8 hcz16_9
              try clear hcz19_0 hcz19_1 hcz19_2 hcz19_3 hcz19_4 hcz19_5 hcz19_6 hcz19_7 hcz19_8 hcz19_9
              try clear hcz22_0 hcz22_1 hcz22_2 hcz22_3 hcz22_4 hcz22_5 hcz22_6 hcz22_7 hcz22_8 hcz22_9
              try clear hcz28_0 hcz28_1 hcz28_2 hcz28_3 hcz28_4 hcz28_5 hcz28_6 hcz28_7 hcz28_8 hcz28_9
              try clear hcz32_0 hcz32_1 hcz32_2 hcz32_3 hcz32_4 hcz32_5 hcz32_6 hcz32_7 hcz32_8 hcz32_9
              try clear hcz36_0 hcz36_1 hcz36_2 hcz36_3 hcz36_4 hcz36_5 hcz36_6 hcz36_7 hcz36_8 hcz36_9
              try clear hcz38_0 hcz38_1 hcz38_2 hcz38_3 hcz38_4 hcz38_5 hcz38_6 hcz38_7 hcz38_8 hcz38_9
              try clear hcz40_0 hcz40_1 hcz40_2 hcz40_3 hcz40_4 hcz40_5 hcz40_6 hcz40_7 hcz40_8 hcz40_9
              try clear hcz45_0 hcz45_1 hcz45_2 hcz45_3 hcz45_4 hcz45_5 hcz45_6 hcz45_7 hcz45_8 hcz45_9
              try clear hcz49_0 hcz49_1 hcz49_2 hcz49_3 hcz49_4 hcz49_5 hcz49_6 hcz49_7 hcz49_8 hcz49_9
              try clear hcz4_0 hcz4_1 hcz4_2 hcz4_3 hcz4_4 hcz4_5 hcz4_6 hcz4_7 hcz4_8 hcz4_9
              try clear hcz54_0 hcz54_1 hcz54_2 hcz54_3 hcz54_4 hcz54_5 hcz54_6 hcz54_7 hcz54_8 hcz54_9
              try clear hcz56_0 hcz56_1 hcz56_2 hcz56_3 hcz56_4 hcz56_5 hcz56_6 hcz56_7 hcz56_8 hcz56_9
              try clear hcz61_0 hcz61_1 hcz61_2 hcz61_3 hcz61_4 hcz61_5 hcz61_6 hcz61_7 hcz61_8 hcz61_9
              try clear hcz68_0 hcz68_1 hcz68_2 hcz68_3 hcz68_4 hcz68_5 hcz68_6 hcz68_7 hcz68_8 hcz68_9
              try clear hcz70_0 hcz70_1 hcz70_2 hcz70_3 hcz70_4 hcz70_5 hcz70_6 hcz70_7 hcz70_8 hcz70_9
              try clear hcz7_0 hcz7_1 hcz7_2 hcz7_3 hcz7_4 hcz7_5 hcz7_6 hcz7_7 hcz7_8 hcz7_9
              try clear hcz8_0 hcz8_1 hcz8_2 hcz8_3 hcz8_4 hcz8_5 hcz8_6 hcz8_7 hcz8_8 hcz8_9
              try clear hfz13_0 hfz13_1 hfz13_2 hfz13_3 hfz13_4 hfz13_5 hfz13_6 hfz13_7 hfz13_8 hfz13_9
              try clear hfz16_0 hfz16_1 hfz16_2 hfz16_3 hfz16_4 hfz16_5 hfz16_6 hfz16_7 hfz16_8 hfz16_9
              try clear hfz19_0 hfz19_1 hfz19_2 hfz19_3 hfz19_4 hfz19_5 hfz19_6 hfz19_7 hfz19_8 hfz19_9
              try clear hfz22_0 hfz22_1 hfz22_2 hfz22_3 hfz22_4 hfz22_5 hfz22_6 hfz22_7 hfz22_8 hfz22_9
              try clear hfz28_0 hfz28_1 hfz28_2 hfz28_3 hfz28_4 hfz28_5 hfz28_6 hfz28_7 hfz28_8 hfz28_9
              try clear hfz32_0 hfz32_1 hfz32_2 hfz32_3 hfz32_4 hfz32_5 hfz32_6 hfz32_7 hfz32_8 hfz32_9
              try clear hfz36_0 hfz36_1 hfz36_2 hfz36_3 hfz36_4 hfz36_5 hfz36_6 hfz36_7 hfz36_8 hfz36_9
              try clear hfz38_0 hfz38_1 hfz38_2 hfz38_3 hfz38_4 hfz38_5 hfz38_6 hfz38_7 hfz38_8 hfz38_9
              try clear hfz40_0 hfz40_1 hfz40_2 hfz40_3 hfz40_4 hfz40_5 hfz40_6 hfz40_7 hfz40_8 hfz40_9
              try clear hfz45_0 hfz45_1 hfz45_2 hfz45_3 hfz45_4 hfz45_5 hfz45_6 hfz45_7 hfz45_8 hfz45_9
              try clear hfz49_0 hfz49_1 hfz49_2 hfz49_3 hfz49_4 hfz49_5 hfz49_6 hfz49_7 hfz49_8 hfz49_9
              try clear hfz4_0 hfz4_1 hfz4_2 hfz4_3 hfz4_4 hfz4_5 hfz4_6 hfz4_7 hfz4_8 hfz4_9
              try clear hfz54_0 hfz54_1 hfz54_2 hfz54_3 hfz54_4 hfz54_5 hfz54_6 hfz54_7 hfz54_8 hfz54_9
              try clear hfz56_0 hfz56_1 hfz56_2 hfz56_3 hfz56_4 hfz56_5 hfz56_6 hfz56_7 hfz56_8 hfz56_9
              try clear hfz61_0 hfz61_1 hfz61_2 hfz61_3 hfz61_4 hfz61_5 hfz61_6 hfz61_7 hfz61_8 hfz61_9
              try clear hfz68_0 hfz68_1 hfz68_2 hfz68_3 hfz68_4 hfz68_5 hfz68_6 hfz68_7 hfz68_8 hfz68_9
              try clear hfz70_0 hfz70_1 hfz70_2 hfz70_3 hfz70_4 hfz70_5 hfz70_6 hfz70_7 hfz70_8 hfz70_9
              try clear hfz7_0 hfz7_1 hfz7_2 hfz7_3 hfz7_4 hfz7_5 hfz7_6 hfz7_7 hfz7_8 hfz7_9
              try clear hfz8_0 hfz8_1 hfz8_2 hfz8_3 hfz8_4 hfz8_5 hfz8_6 hfz8_7 hfz8_8 hfz8_9
              obtain ⟨kq, x73_62, rfl, HA, HJ62, HO_178009, HO_179009, BK177, BK178, HB⟩ := hcut
              cases kq with
              | zero => exact absurd HA.out (by simp [impl_MessageFault.j5])
              | succ kj62 =>
               have H := HA.out; clear HA; simp only [impl_MessageFault.j5] at H
               by_cases c71 : x73_62 = true
               ·
                subst c71; have H1 : (some 3) = some r := by rw [if_pos rfl] at H; exact H
                clear H; have H := H1; clear H1; obtain rfl := Option.some.inj H
                go_wp2
                go_ret
                exact ⟨eq_a, below_a⟩
               ·
                replace c71 := Bool.eq_false_iff.mpr c71; subst c71; have H1 : (if (l0_9.length : Int) = x4_58 then (some 0) else (some 2)) = some r := by rw [if_neg (show ¬ (false = true) by decide)] at H; exact H
                clear H; have H := H1; clear H1
                by_cases c72 : (l0_9.length : Int) = x4_58
                ·
                 rw [if_pos c72] at H; have c72b0 : ((l0_9.length : Int) == x4_58) = true := beq_iff_eq.mpr c72; have c72b1 : ((l0_9.length : Int) != x4_58) = false := bne_eq_false_iff_eq.mpr c72; clear c72; obtain rfl := Option.some.inj H; have hnb73 := NB177_178.out; have hnc73 := NB178_177.out; have hcz74_0 : wc.cell? ⟨gb177, 0, none⟩ = some (.int .i64 a0_0) := (blk_cell BK177.out 0).trans rfl; have hcz74_1 : wc.cell? ⟨gb177, 1, none⟩ = some (.int .i64 a0_1) := (blk_cell BK177.out 1).trans rfl; have hcz74_2 : wc.cell? ⟨gb177, 2, none⟩ = some (.int .i64 a0_2) := (blk_cell BK177.out 2).trans rfl; have hcz74_3 : wc.cell? ⟨gb177, 3, none⟩ = some (.int .i64 a0_3) := (blk_cell BK177.out 3).trans rfl; have hcz74_4 : wc.cell? ⟨gb177, 4, none⟩ = some (.int .i64 a0_4) := (blk_cell BK177.out 4).trans rfl; have hcz74_5 : wc.cell? ⟨gb177, 5, none⟩ = some (.int .i64 a0_5) := (blk_cell BK177.out 5).trans rfl; have hcz74_6 : wc.cell? ⟨gb177, 6, none⟩ = some (.int .i64 a0_6) := (blk_cell BK177.out 6).trans rfl; have hcz74_7 : wc.cell? ⟨gb177, 7, none⟩ = some (.int .i64 a0_7) := (blk_cell BK177.out 7).trans rfl; have hcz74_8 : wc.cell? ⟨gb177, 8, none⟩ = some (.int .i64 a0_8) := (blk_cell BK177.out 8).trans rfl; have hcz74_9 : wc.cell? ⟨gb177, 9, none⟩ = some (.slice A0_9 l0_9.length c0_9) := (blk_cell BK177.out 9).trans rfl; have hfz74_0 := blk_frozen BK177.out 0; have hfz74_1 := blk_frozen BK177.out 1; have hfz74_2 := blk_frozen BK177.out 2; have hfz74_3 := blk_frozen BK177.out 3; have hfz74_4 := blk_frozen BK177.out 4; have hfz74_5 := blk_frozen BK177.out 5; have hfz74_6 := blk_frozen BK177.out 6; have hfz74_7 := blk_frozen BK177.out 7; have hfz74_8 := blk_frozen BK177.out 8; have hfz74_9 := blk_frozen BK177.out 9
                 go_wp2
                 go_ret
                 exact ⟨eq_a, below_a⟩
                ·
                 rw [if_neg c72] at H; have c72b0 : ((l0_9.length : Int) == x4_58) = false := beq_eq_false_iff_ne.mpr c72; have c72b1 : ((l0_9.length : Int) != x4_58) = true := bne_iff_ne.mpr c72; obtain rfl := Option.some.inj H; have hnb75 := NB177_178.out; have hnc75 := NB178_177.out; have hcz76_0 : wc.cell? ⟨gb177, 0, none⟩ = some (.int .i64 a0_0) := (blk_cell BK177.out 0).trans rfl; have hcz76_1 : wc.cell? ⟨gb177, 1, none⟩ = some (.int .i64 a0_1) := (blk_cell BK177.out 1).trans rfl; have hcz76_2 : wc.cell? ⟨gb177, 2, none⟩ = some (.int .i64 a0_2) := (blk_cell BK177.out 2).trans rfl; have hcz76_3 : wc.cell? ⟨gb177, 3, none⟩ = some (.int .i64 a0_3) := (blk_cell BK177.out 3).trans rfl; have hcz76_4 : wc.cell? ⟨gb177, 4, none⟩ = some (.int .i64 a0_4) := (blk_cell BK177.out 4).trans rfl; have hcz76_5 : wc.cell? ⟨gb177, 5, none⟩ = some (.int .i64 a0_5) := (blk_cell BK177.out 5).trans rfl; have hcz76_6 : wc.cell? ⟨gb177, 6, none⟩ = some (.int .i64 a0_6) := (blk_cell BK177.out 6).trans rfl; have hcz76_7 : wc.cell? ⟨gb177, 7, none⟩ = some (.int .i64 a0_7) := (blk_cell BK177.out 7).trans rfl; have hcz76_8 : wc.cell? ⟨gb177, 8, none⟩ = some (.int .i64 a0_8) := (blk_cell BK177.out 8).trans rfl; have hcz76_9 : wc.cell? ⟨gb177, 9, none⟩ = some (.slice A0_9 l0_9.length c0_9) := (blk_cell BK177.out 9).trans rfl; have hfz76_0 := blk_frozen BK177.out 0; have hfz76_1 := blk_frozen BK177.out 1; have hfz76_2 := blk_frozen BK177.out 2; have hfz76_3 := blk_frozen BK177.out 3; have hfz76_4 := blk_frozen BK177.out 4; have hfz76_5 := blk_frozen BK177.out 5; have hfz76_6 := blk_frozen BK177.out 6; have hfz76_7 := blk_frozen BK177.out 7; have hfz76_8 := blk_frozen BK177.out 8; have hfz76_9 := blk_frozen BK177.out 9
                 go_wp2
                 go_ret
                 exact ⟨eq_a, below_a⟩
          ·
           rw [if_neg c58] at H; have c58b0 : (a0_0 == 5) = false := beq_eq_false_iff_ne.mpr c58; have c58b1 : (a0_0 != 5) = true := bne_iff_ne.mpr c58; obtain rfl := Option.some.inj H; have hnb77 := NB177_178.out; have hnc77 := NB178_177.out; have hcz78_0 : wc.cell? ⟨gb177, 0, none⟩ = some (.int .i64 a0_0) := (blk_cell BK177.out 0).trans rfl; have hcz78_1 : wc.cell? ⟨gb177, 1, none⟩ = some (.int .i64 a0_1) := (blk_cell BK177.out 1).trans rfl; have hcz78_2 : wc.cell? ⟨gb177, 2, none⟩ = some (.int .i64 a0_2) := (blk_cell BK177.out 2).trans rfl; have hcz78_3 : wc.cell? ⟨gb177, 3, none⟩ = some (.int .i64 a0_3) := (blk_cell BK177.out 3).trans rfl; have hcz78_4 : wc.cell? ⟨gb177, 4, none⟩ = some (.int .i64 a0_4) := (blk_cell BK177.out 4).trans rfl; have hcz78_5 : wc.cell? ⟨gb177, 5, none⟩ = some (.int .i64 a0_5) := (blk_cell BK177.out 5).trans rfl; have hcz78_6 : wc.cell? ⟨gb177, 6, none⟩ = some (.int .i64 a0_6) := (blk_cell BK177.out 6).trans rfl; have hcz78_7 : wc.cell? ⟨gb177, 7, none⟩ = some (.int .i64 a0_7) := (blk_cell BK177.out 7).trans rfl; have hcz78_8 : wc.cell? ⟨gb177, 8, none⟩ = some (.int .i64 a0_8) := (blk_cell BK177.out 8).trans rfl; have hcz78_9 : wc.cell? ⟨gb177, 9, none⟩ = some (.slice A0_9 l0_9.length c0_9) := (blk_cell BK177.out 9).trans rfl; have hfz78_0 := blk_frozen BK177.out 0; have hfz78_1 := blk_frozen BK177.out 1; have hfz78_2 := blk_frozen BK177.out 2; have hfz78_3 := blk_frozen BK177.out 3; have hfz78_4 := blk_frozen BK177.out 4; have hfz78_5 := blk_frozen BK177.out 5; have hfz78_6 := blk_frozen BK177.out 6; have hfz78_7 := blk_frozen BK177.out 7; have hfz78_8 := blk_frozen BK177.out 8; have hfz78_9 := blk_frozen BK177.out 9
           go_wp2
           go_ret
           exact ⟨eq_a, below_a⟩

/-! ### slices_Grow_byte_byte: function 74 -/
def slices_Grow_byte_byte.f (l0 : List Int) (a1 : Int) : Option (List Int) := if l0.length = 0 then (if 0 ≤ a1 then (if a1 < 140737488355328 then some [] else none) else none) else none
set_option maxHeartbeats 8000000 in
set_option maxRecDepth 100000 in
theorem slices_Grow_byte_byte.calls (A0 : Option Addr) (c0 : Nat) (l0 : List Int) (a1 : Int) (r : List Int) (w : World) (hr0 : Kd.C (Kd.int .u8) w A0 l0.length l0) (hc0 : l0.length ≤ c0) (hA0 : A0 = none) (hC0 : c0 = 0) (h : slices_Grow_byte_byte.f l0 a1 = some r) :
    Calls Try.prog 74 #[.slice A0 l0.length c0, .int .i64 a1] w fun e w' => ∃ v0_ : Value, e = .returned (v0_) ∧ Kd.R (Kd.int .u8) 5 w' w.heap.size (fun _ => True) v0_ r ∧ Below w.heap.size w w' := by
  subst hA0 hC0
  obtain rfl : l0 = [] := List.length_eq_zero_iff.1 (by omega)
  clear hr0 hc0
  unfold slices_Grow_byte_byte.f at h
  rw [if_pos (show ([] : List Int).length = 0 from rfl)] at h
  by_cases c1 : 0 ≤ a1
  rotate_left
  · rw [if_neg c1] at h; exact absurd h (by simp)
  rw [if_pos c1] at h
  by_cases c2 : a1 < 140737488355328
  rotate_left
  · rw [if_neg c2] at h; exact absurd h (by simp)
  rw [if_pos c2] at h
  obtain rfl := Option.some.inj h
  clear h
  obtain ⟨n, rfl⟩ : ∃ n : Nat, a1 = (n : Int) := ⟨a1.toNat, by omega⟩
  obtain ⟨i0, hi0, hz0, hsz, hby⟩ := info_parts info5
  have h1 : ¬ ((n : Int) < 0) := by omega
  by_cases hn : n = 0
  · subst hn
    go_enter Try.func74, Try.ntmps74
    go_wp2
    go_ret
    exact ⟨_, rfl, Kd.R_nil _ _ _ _ _, Below.refl _ _⟩
  · have h4 : (n : Int) > 0 := by omega
    have hold : (Builtin.firstCells i0.size 0 (.slice none 0 0)).run Try.prog w.drew = .ok ([] : List Value).toArray w.drew := run_firstCells_none w.drew i0.size 0 0 0
    have hrz : ∀ ty, (Builtin.append_ #[30, 3] ty #[.slice none 0 0, .int .i64 (n : Int)]).run Try.prog w = _ := fun ty =>
      Lib.run_append_grow_zeros w 30 3 ty 5 i0 (.int .u8 0) .i64 .i64 Try.underlying30 Try.underlying3 hi0 hz0 none 0 0 [] hold n (by omega) (by rw [hsz]; omega) (by omega) (by omega) (by rw [hby]; omega) (by rw [hby]; exact growslice_fits (by omega) (by omega))
    have hGn : 0 + n ≤ grownCap w (0 + n) 0 5 := grownCap_ge w _ _ _
    have hGm := grownCap_le_maxLen w (0 + n) 0 5 (by unfold maxLen; omega)
    obtain ⟨G, hG⟩ : ∃ G, G = grownCap w (0 + n) 0 5 := ⟨_, rfl⟩
    rw [← hG] at hrz hGn hGm
    have HG := Aside0.mk hGm
    have C2 := Aside0.mk c2
    clear hGm hold hG hi0 hz0 hsz hby c2
    rw [Nat.zero_add] at hrz hGn
    have hw : wrap64 (n : Int) = (n : Int) := by have := C2.out; unfold wrap64; omega
    rw [← hw] at hrz
    have h5 : wrap64 (n : Int) > 0 := by rw [hw]; exact h4
    clear hw
    go_enter Try.func74, Try.ntmps74
    go_wp2_with (at_builtin; refine Lib.wpList_append_run _ rfl _ _ _ _ rfl _ _ rfl rfl _ _ (hrz _) ?_)
    go_ret
    refine ⟨_, rfl, ⟨fun _ _ => trivial, [], ⟨by simp, .inr ⟨w.heap.size, G, _, rfl, Nat.le_refl _, heap_alloc_new _ _, Nat.zero_le _, HG.out, ?_, by simp⟩⟩, Reps.none _ _⟩, ?_⟩
    · show _ = G * 1
      simp [Builtin.zeroCells, Value.cells]; omega
    · exact below_alloc (below_drew1 (Below.refl _ _)) _

end Go.Proofs.Ytpjelfgeohklkaa.MFnExactDecodeMessage
