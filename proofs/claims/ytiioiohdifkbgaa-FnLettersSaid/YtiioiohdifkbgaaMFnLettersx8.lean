-- Laid by a program of this session (the kit's print, turned where it falls short; the texts of functions that it does not take are proved by hand).
import Derived.Test.YtiioiohdifkbgaaMFnLettersx7
namespace Go.Proofs.Ytiioiohdifkbgaa.MFnLetters
open Go.RowKit Go.Proofs.YtiioiohdifkbgaaW.PrintWords Go.Proofs.YtiioiohdifkbgaaW.PrintLast Go.Proofs.YtiioiohdifkbgaaW.PrintMore
set_option maxHeartbeats 80000000
set_option maxRecDepth 100000
attribute [local go_sem] max2_int min2_int max_two min_two max_three min_three max_four min_four   -- for this text's walks alone
set_option linter.unusedVariables false
set_option linter.unusedSimpArgs false
attribute [local go_sem] isSome_setCell
theorem sched106 (A : Option Addr) (c : Nat) (l : List Int) (w : World) (hr : Kd.C (Kd.int .u8) w A l.length l) (hl : l.length = 16) (hy : ∀ x ∈ l, 0 ≤ x ∧ x ≤ 255) : Calls Try.prog 106 #[.slice A l.length c] w fun e w' => e = .returned (.agg (ub (sched l))) ∧ Below w.heap.size w w' := by
  have hu132 := Try.underlying132
  have hu126 := Try.underlying126
  have hz5 := Try.sizeOf5
  have HR := A_ hr
  have HL := A_ hl
  have HYl := A_ hy
  have HB := A_ (Below.refl w.heap.size w)
  clear hr hl hy
  go_enter Try.func106, Try.ntmps106
  go_wp2_with (first | ((with_reducible refine d1_ 2 ?_); refine bx_ 2 (ub (List.replicate 176 0)) 132 rfl rfl ?hr ?_; (case hr => have hz := Try.zeroValue132; go_simp <;> rfl); intro Ag hg wb2 hbox hb; have Aq := gw_ (w := w) hg; replace HB := hb2_ hb; have Ab := A_ (hbox); clear hb hbox hg) | ((with_reducible refine d1_ 3 ?_); refine bx_ 3 (ub (List.replicate 176 0)) 132 rfl rfl ?hr ?_; (case hr => have hz := Try.zeroValue132; go_simp <;> rfl); intro Ac hg wb3 hbox hb; have Aj := gw_ (w := w) hg; have NE2_3 := hb3_ Ab hg; replace Ab := hb1_ Ab hb; replace HB := hb2_ hb; have Aa := A_ (hbox); clear hb hbox hg) | ((with_reducible refine d1_ 9 ?_); refine val_event rfl (.agg (ub (List.replicate 176 0))) ?hr ?_; (case hr => go_simp <;> rfl)) | ((with_reducible refine s1_ 132 3 ?_); refine arr_store (cs' := ub (List.replicate 176 0)) rfl rfl rfl rfl rfl Aa.out (hi132.trans (by rw [ub_size, List.length_replicate])) (by rw [ub_size]) (ub_one _) ?_; intro Ak hbs hgs; replace Ab := hb4_ Ab hgs NE2_3; replace HB := hb6_ HB hgs Aj; replace Aa := A_ hbs; clear hbs hgs) | ((with_reducible refine d1_ 12 ?_); refine arr_copy rfl rfl Try.underlying25 hi5 rfl rfl Aa.out (Kd.C_below HR.out HB.out) (by simp only [List.length_replicate]) (by have := HL.out; omega) (by have := HL.out; omega) ?_; intro wk3 hbs hgs; replace Ab := hb4_ Ab hgs NE2_3; replace HB := hb6_ HB hgs Aj; replace Aa := A_ (show wk3.heap[Ac]? = some (Obj.cells (ub (keyr l 0)) 132 (0, 0)) from by first | exact hbs | (rw [keyr, show (l ++ List.replicate 160 0 : List Int) = l ++ (List.replicate 176 0).drop l.length from by first | (rw [HL.out]; done) | (rw [HL.out]; rfl)]; exact hbs)); clear hbs hgs))
  go_loopg [4, 5] 40 (fun kq v4 v5 w' => ∃ (i : Int), v4 = .int .u8 (rcon ((i - 1) / 16).toNat) ∧ v5 = .int .i64 i ∧ Aside0 (16 ≤ i ∧ i ≤ 176 ∧ i % 4 = 0) ∧ Aside0 (kq = 44 - (i / 4).toNat) ∧ Aside0 (w'.heap[Ac]? = some (.cells (ub (keyr l ((i - 16) / 4).toNat)) 132 (0, 0))) ∧ Aside0 (w'.heap[Ag]? = some (.cells (ub (List.replicate 176 0)) 132 (0, 0))) ∧ Aside0 (Below w.heap.size w w'))
  case atStart => exact ⟨16, eq_b, eq_b, ⟨by omega⟩, ⟨rfl⟩, Aa, Ab, HB⟩
  case round =>
    clear Ab Aa HB
    obtain ⟨i, rfl, rfl, HI, HK1, Aa, Ab, HB⟩ := hrel
    by_cases c4 : i < 176
    · have An : decide (i < 176) = true := decide_eq_true c4
      have Ae := A_ c4
      have HO := A_ (keyr_len l HL.out ((i - 16) / 4).toNat)
      have HY := A_ (keyr_byte l HYl.out ((i - 16) / 4).toNat)
      have HS := A_ (show keyr l (((i + 4) - 16) / 4).toNat = keyp (keyr l ((i - 16) / 4).toNat) (keyt (keyr l ((i - 16) / 4).toNat) i (rcon ((i - 1) / 16).toNat)) i 4 by
        obtain ⟨n, hn⟩ : ∃ n : Nat, i = 16 + 4 * n := ⟨((i - 16) / 4).toNat, by have := HI.out; omega⟩
        subst hn
        rw [show ((16 + 4 * (n : Int) - 16) / 4).toNat = n by omega, show ((16 + 4 * (n : Int) + 4 - 16) / 4).toNat = n + 1 by omega, show ((16 + 4 * (n : Int) - 1) / 16).toNat = (15 + 4 * n) / 16 by omega, keyr])
      generalize ho : keyr l ((i - 16) / 4).toNat = o at Aa HO HY HS
      clear ho
      obtain ⟨k1, rfl⟩ : ∃ k1, gk = k1 + 1 := ⟨gk - 1, by have := HK1.out; have := HI.out; have := Ae.out; omega⟩
      have HCN := A_ (show rcon ((i + 4 - 1) / 16).toNat = if i % 16 = 0 then tw (rcon ((i - 1) / 16).toNat) else rcon ((i - 1) / 16).toNat by
        split
        · rw [show ((i + 4 - 1) / 16).toNat = ((i - 1) / 16).toNat + 1 by have := HI.out; omega, rcon]
        · rw [show ((i + 4 - 1) / 16).toNat = ((i - 1) / 16).toNat by have := HI.out; omega])
      generalize hcc : rcon ((i - 1) / 16).toNat = cc at HS HCN
      clear hcc
      have Ar : wr.cell? ⟨Ac, (i - 4).toNat, none⟩ = some (.int .u8 (rd o (i - 4))) := blk_ub Aa.out _ (by have := HI.out; omega) (by rw [HO.out]; have := HI.out; omega)
      have hb4 := A_ (rd_byte HY.out (i - 4) (by have := HI.out; omega) (by rw [HO.out]; have := HI.out; omega))
      have w4 : wrap64 (i - 4) = i - 4 := by have := HI.out; unfold wrap64; omega
      have j4 : IntKind.i64.wrap (i - 4) = i - 4 := by rw [IntKind.wrap_i64]; unfold wrap64 at w4; exact w4
      have p4 : (0 ≤ i - 4) = True := eq_true (by have := HI.out; omega)
      have q4 : (i - 4 < 176) = True := eq_true (by have := HI.out; omega)
      have As : wr.cell? ⟨Ac, (i - 3).toNat, none⟩ = some (.int .u8 (rd o (i - 3))) := blk_ub Aa.out _ (by have := HI.out; omega) (by rw [HO.out]; have := HI.out; omega)
      have hb3 := A_ (rd_byte HY.out (i - 3) (by have := HI.out; omega) (by rw [HO.out]; have := HI.out; omega))
      have w3 : wrap64 (i - 3) = i - 3 := by have := HI.out; unfold wrap64; omega
      have j3 : IntKind.i64.wrap (i - 3) = i - 3 := by rw [IntKind.wrap_i64]; unfold wrap64 at w3; exact w3
      have p3 : (0 ≤ i - 3) = True := eq_true (by have := HI.out; omega)
      have q3 : (i - 3 < 176) = True := eq_true (by have := HI.out; omega)
      have Au : wr.cell? ⟨Ac, (i - 2).toNat, none⟩ = some (.int .u8 (rd o (i - 2))) := blk_ub Aa.out _ (by have := HI.out; omega) (by rw [HO.out]; have := HI.out; omega)
      have hb2 := A_ (rd_byte HY.out (i - 2) (by have := HI.out; omega) (by rw [HO.out]; have := HI.out; omega))
      have w2 : wrap64 (i - 2) = i - 2 := by have := HI.out; unfold wrap64; omega
      have j2 : IntKind.i64.wrap (i - 2) = i - 2 := by rw [IntKind.wrap_i64]; unfold wrap64 at w2; exact w2
      have p2 : (0 ≤ i - 2) = True := eq_true (by have := HI.out; omega)
      have q2 : (i - 2 < 176) = True := eq_true (by have := HI.out; omega)
      have Ap : wr.cell? ⟨Ac, (i - 1).toNat, none⟩ = some (.int .u8 (rd o (i - 1))) := blk_ub Aa.out _ (by have := HI.out; omega) (by rw [HO.out]; have := HI.out; omega)
      have hb1 := A_ (rd_byte HY.out (i - 1) (by have := HI.out; omega) (by rw [HO.out]; have := HI.out; omega))
      have w1 : wrap64 (i - 1) = i - 1 := by have := HI.out; unfold wrap64; omega
      have j1 : IntKind.i64.wrap (i - 1) = i - 1 := by rw [IntKind.wrap_i64]; unfold wrap64 at w1; exact w1
      have p1 : (0 ≤ i - 1) = True := eq_true (by have := HI.out; omega)
      have q1 : (i - 1 < 176) = True := eq_true (by have := HI.out; omega)
      rw [show (i - 1).toNat = i.toNat - 1 by omega] at Ap
      have rr2 : (2 ≤ i) = True := eq_true (by have := HI.out; omega)
      have rr3 : (3 ≤ i) = True := eq_true (by have := HI.out; omega)
      have rr4 : (4 ≤ i) = True := eq_true (by have := HI.out; omega)
      have hgl : Ac < wr.heap.size := blk_lt Aa.out
      have hgl2 : (Ac < wr.heap.size) = True := eq_true hgl
      have r1 : (i ≤ 176) = True := eq_true (by have := HI.out; omega)
      have r2 : (1 ≤ i) = True := eq_true (by have := HI.out; omega)
      clear c4
      go_wp2
      go_big_region
      clear Ap Au As Ar w1 w2 w3 w4 j1 j2 j3 j4 p1 p2 p3 p4 q1 q2 q3 q4 r1 r2 rr2 rr3 rr4 hgl2
      have HG6 := A_ (show w.heap.size ≤ wr.heap.size from HB.out.size)
      have hne36 : Ac ≠ wr.heap.size := Nat.ne_of_lt hgl
      have hne26 : Ag ≠ wr.heap.size := Nat.ne_of_lt (blk_lt Ab.out)
      have hk6 : ((wr.alloc (Obj.cells #[Value.int .u8 (rd o (i - 4)), Value.int .u8 (rd o (i - 3)), Value.int .u8 (rd o (i - 2)), Value.int .u8 (rd o (i - 1))] 126 (0, 0))).drew).heap[wr.heap.size]? = some (.cells (ub [rd o (i - 4), rd o (i - 3), rd o (i - 2), rd o (i - 1)]) 126 (0, 0)) := heap_alloc_new wr _
      have hk3 : ((wr.alloc (Obj.cells #[Value.int .u8 (rd o (i - 4)), Value.int .u8 (rd o (i - 3)), Value.int .u8 (rd o (i - 2)), Value.int .u8 (rd o (i - 1))] 126 (0, 0))).drew).heap[Ac]? = some (.cells (ub o) 132 (0, 0)) := (Below.heap_alloc wr _ Ac hgl).trans Aa.out
      have hk2 : ((wr.alloc (Obj.cells #[Value.int .u8 (rd o (i - 4)), Value.int .u8 (rd o (i - 3)), Value.int .u8 (rd o (i - 2)), Value.int .u8 (rd o (i - 1))] 126 (0, 0))).drew).heap[Ag]? = some (.cells (ub (List.replicate 176 0)) 132 (0, 0)) := (Below.heap_alloc wr _ Ag (blk_lt Ab.out)).trans Ab.out
      have hkb : Below w.heap.size w (wr.alloc (Obj.cells #[Value.int .u8 (rd o (i - 4)), Value.int .u8 (rd o (i - 3)), Value.int .u8 (rd o (i - 2)), Value.int .u8 (rd o (i - 1))] 126 (0, 0))).drew := (HB.out.alloc HB.out.size _).drew
      clear hgl Ab Aa HB
      generalize (wr.alloc (Obj.cells #[Value.int .u8 (rd o (i - 4)), Value.int .u8 (rd o (i - 3)), Value.int .u8 (rd o (i - 2)), Value.int .u8 (rd o (i - 1))] 126 (0, 0))).drew = wa at hk6 hk3 hk2 hkb ⊢
      generalize wr.heap.size = Ai at hk6 hne36 hne26 HG6 ⊢
      have Af := A_ hk6
      have Aa := A_ hk3
      have Ab := A_ hk2
      have HB := A_ hkb
      have NE3_6 := A_ hne36
      have NE2_6 := A_ hne26
      clear hk6 hk3 hk2 hkb hne36 hne26
      by_cases c8 : i % 16 = 0
      · have c8b : (i.tmod 16 == 0) = true := by rw [Int.tmod_eq_emod_of_nonneg (by have := HI.out; omega), c8]; rfl
        have HT := A_ (show keyt o i cc = [xr (sbx (rd o (i - 3))) cc, sbx (rd o (i - 2)), sbx (rd o (i - 1)), sbx (rd o (i - 4))] from if_pos c8)
        replace HCN := A_ (HCN.out.trans (if_pos c8))
        clear c8
        go_wp2
        refine still_tail_at 15 (by kernel_rfl) (by kernel_rfl) ?_
        intro wq ewq
        have hh : wq.heap = wa.heap := by rw [ewq]; rfl
        replace HB : Aside0 (Below w.heap.size w wq) := ⟨by rw [ewq]; exact HB.out.drew⟩
        replace Ab := A_ (heap_of hh Ab.out)
        replace Aa := A_ (heap_of hh Aa.out)
        replace Af := A_ (heap_of hh Af.out)
        clear ewq hh
        have hm0 : wq.cell? ⟨Ai, 0, none⟩ = some (.int .u8 (rd o (i - 4))) := blk_ub Af.out 0 (by decide) (by simp)
        have hm1 : wq.cell? ⟨Ai, 1, none⟩ = some (.int .u8 (rd o (i - 3))) := blk_ub Af.out 1 (by decide) (by simp)
        have hm2 : wq.cell? ⟨Ai, 2, none⟩ = some (.int .u8 (rd o (i - 2))) := blk_ub Af.out 2 (by decide) (by simp)
        have hm3 : wq.cell? ⟨Ai, 3, none⟩ = some (.int .u8 (rd o (i - 1))) := blk_ub Af.out 3 (by decide) (by simp)
        simp only [List.take_succ_cons, List.take_zero, List.drop_succ_cons, List.drop_zero]
        repeat (first | (refine still_idx rfl rfl (by kernel_rfl) rfl (by first | exact hb1.out.1 | exact hb2.out.1 | exact hb3.out.1 | exact hb4.out.1) (by first | exact hb1.out.2 | exact hb2.out.2 | exact hb3.out.2 | exact hb4.out.2) ?_) | still_step)
        try refine wpStill_nil ?_
        clear hm0 hm1 hm2 hm3
        go_wp2_with (first | ((with_reducible refine s1_ 126 6 ?_); refine arr_store (cs' := ub (keyt o i cc)) rfl rfl rfl rfl (by rw [HT.out]; rfl) Af.out (hi126.trans (by rw [ub_size, keyt_len])) (by rw [ub_size, ub_size, keyt_len]; rfl) (ub_one _) ?_; intro Al hbs hgs; replace Ab := hb4_ Ab hgs NE2_6; replace Aa := hb4_ Aa hgs NE3_6; replace HB := A_ (HB.out.grown hgs HB.out.size (fun k_ e_ => by injection e_ with e_; rw [← e_]; exact HG6.out)); replace Af := A_ hbs; clear hbs hgs) | (go_at_call 112; (with_reducible refine (twice_same cc _).mono ?_); rintro e wt ⟨rfl, rfl⟩) | ((with_reducible refine d1_ 54 ?_); refine arr_load rfl rfl rfl rfl Af.out Try.underlying126 rfl (hi126.trans (by rw [ub_size, keyt_len])) ?_))
        go_loopg [55] 4 (fun kq Ao w' => ∃ (k : Int), Ao = .int .i64 k ∧ Aside0 (0 ≤ k ∧ k ≤ 4) ∧ Aside0 (kq = 4 - k.toNat) ∧ Aside0 (w'.heap[Ac]? = some (.cells (ub (keyp o (keyt o i cc) i k.toNat)) 132 (0, 0))) ∧ Aside0 (w'.heap[Ag]? = some (.cells (ub (List.replicate 176 0)) 132 (0, 0))) ∧ Aside0 (Below w.heap.size w w'))
        case atStart => exact ⟨0, eq_b, ⟨by omega⟩, ⟨rfl⟩, Aa, Ab, HB⟩
        case round =>
          clear Ab Aa HB
          obtain ⟨k, rfl, HJ, HK2, Aa, Ab, HB⟩ := hrel
          by_cases c5 : k < 4
          · have Ah : decide (k < 4) = true := decide_eq_true c5
            have Ad := A_ c5
            obtain ⟨k2, rfl⟩ : ∃ k2, gk = k2 + 1 := ⟨gk - 1, by have := HK2.out; have := HJ.out; have := Ad.out; omega⟩
            clear c5
            have hlr : wr.cell? ⟨Ac, (i + k - 16).toNat, none⟩ = some (.int .u8 (rd (keyp o (keyt o i cc) i k.toNat) (i + k - 16))) := blk_ub Aa.out _ (by have := HI.out; have := HJ.out; omega) (by rw [keyp_len, HO.out]; have := HI.out; have := HJ.out; have := Ae.out; have := Ad.out; omega)
            obtain ⟨v0, hlw⟩ : ∃ v0, wr.cell? ⟨Ac, (i + k).toNat, none⟩ = some (.int .u8 v0) := ⟨_, blk_ub Aa.out (i + k) (by have := HI.out; have := HJ.out; omega) (by rw [keyp_len, HO.out]; have := HI.out; have := HJ.out; have := Ae.out; have := Ad.out; omega)⟩
            have hfr : wr.frozen? ⟨Ac, (i + k).toNat, none⟩ = false := blk_frozen Aa.out _
            have w1 : wrap64 (i + k) = i + k := by have := HI.out; have := HJ.out; unfold wrap64; omega
            have w2 : wrap64 (i + k - 16) = i + k - 16 := by have := HI.out; have := HJ.out; unfold wrap64; omega
            have p1 : (0 ≤ i + k) = True := eq_true (by have := HI.out; have := HJ.out; omega)
            have p2 : (0 ≤ i + k - 16) = True := eq_true (by have := HI.out; have := HJ.out; omega)
            have p3 : (16 ≤ i + k) = True := eq_true (by have := HI.out; have := HJ.out; omega)
            have q1 : (i + k < 176) = True := eq_true (by have := HI.out; have := HJ.out; have := Ae.out; have := Ad.out; omega)
            have q2 : (i + k - 16 < 176) = True := eq_true (by have := HI.out; have := HJ.out; have := Ae.out; have := Ad.out; omega)
            go_wp2_with (first | ((with_reducible refine d1_ 58 ?_); refine aidx_event rfl rfl rfl rfl rfl Try.underlying126 (keyt_len _ _ _) HJ.out.1 Ad.out ?_))
            go_roundg k2
            case measure => have := HK2.out; omega
            case rel => exact ⟨k + 1, (by have := HJ.out; rw [show wrap64 (k + 1) = k + 1 by unfold wrap64; omega]), ⟨by have := HJ.out; have := Ad.out; omega⟩, ⟨by have := HK2.out; have := HJ.out; omega⟩, ⟨by
              rw [show (k + 1).toNat = k.toNat + 1 by have := HJ.out; omega, keyp, show ((k.toNat : Nat) : Int) = k by have := HJ.out; omega]
              exact blk_ubput Aa.out _ _⟩, ⟨blk_far Ab.out NE2_3.out _⟩, ⟨below_set HB.out Aj.out⟩⟩
          · have Ah : decide (k < 4) = false := decide_eq_false c5
            have hk : k = 4 := by have := HJ.out; omega
            subst hk
            have hw : wrap64 (i + 4) = i + 4 := by have := HI.out; unfold wrap64; omega
            clear c5
            go_wp2
            go_roundg k1
            case measure => have := HK1.out; have := HI.out; omega
            case rel => exact ⟨i + 4, (by rw [HCN.out]), (by rw [hw]), ⟨by have := HI.out; have := Ae.out; omega⟩, ⟨by have := HK1.out; have := HI.out; have := Ae.out; omega⟩, ⟨by rw [HS.out]; exact Aa.out⟩, Ab, HB⟩
      · have c8b : (i.tmod 16 == 0) = false := by rw [Int.tmod_eq_emod_of_nonneg (by have := HI.out; omega)]; exact beq_false_of_ne c8
        have HT := A_ (show keyt o i cc = [rd o (i - 4), rd o (i - 3), rd o (i - 2), rd o (i - 1)] from if_neg c8)
        replace HCN := A_ (HCN.out.trans (if_neg c8))
        clear c8
        replace Af : Aside0 (wa.heap[Ai]? = some (.cells (ub (keyt o i cc)) 126 (0, 0))) := ⟨by rw [HT.out]; exact Af.out⟩
        go_wp2_with (first | ((with_reducible refine d1_ 54 ?_); refine arr_load rfl rfl rfl rfl Af.out Try.underlying126 rfl (hi126.trans (by rw [ub_size, keyt_len])) ?_))
        go_loopg [55] 4 (fun kq Ao w' => ∃ (k : Int), Ao = .int .i64 k ∧ Aside0 (0 ≤ k ∧ k ≤ 4) ∧ Aside0 (kq = 4 - k.toNat) ∧ Aside0 (w'.heap[Ac]? = some (.cells (ub (keyp o (keyt o i cc) i k.toNat)) 132 (0, 0))) ∧ Aside0 (w'.heap[Ag]? = some (.cells (ub (List.replicate 176 0)) 132 (0, 0))) ∧ Aside0 (Below w.heap.size w w'))
        case atStart => exact ⟨0, eq_b, ⟨by omega⟩, ⟨rfl⟩, Aa, Ab, HB⟩
        case round =>
          clear Ab Aa HB
          obtain ⟨k, rfl, HJ, HK2, Aa, Ab, HB⟩ := hrel
          by_cases c5 : k < 4
          · have Ah : decide (k < 4) = true := decide_eq_true c5
            have Ad := A_ c5
            obtain ⟨k2, rfl⟩ : ∃ k2, gk = k2 + 1 := ⟨gk - 1, by have := HK2.out; have := HJ.out; have := Ad.out; omega⟩
            clear c5
            have hlr : wr.cell? ⟨Ac, (i + k - 16).toNat, none⟩ = some (.int .u8 (rd (keyp o (keyt o i cc) i k.toNat) (i + k - 16))) := blk_ub Aa.out _ (by have := HI.out; have := HJ.out; omega) (by rw [keyp_len, HO.out]; have := HI.out; have := HJ.out; have := Ae.out; have := Ad.out; omega)
            obtain ⟨v0, hlw⟩ : ∃ v0, wr.cell? ⟨Ac, (i + k).toNat, none⟩ = some (.int .u8 v0) := ⟨_, blk_ub Aa.out (i + k) (by have := HI.out; have := HJ.out; omega) (by rw [keyp_len, HO.out]; have := HI.out; have := HJ.out; have := Ae.out; have := Ad.out; omega)⟩
            have hfr : wr.frozen? ⟨Ac, (i + k).toNat, none⟩ = false := blk_frozen Aa.out _
            have w1 : wrap64 (i + k) = i + k := by have := HI.out; have := HJ.out; unfold wrap64; omega
            have w2 : wrap64 (i + k - 16) = i + k - 16 := by have := HI.out; have := HJ.out; unfold wrap64; omega
            have p1 : (0 ≤ i + k) = True := eq_true (by have := HI.out; have := HJ.out; omega)
            have p2 : (0 ≤ i + k - 16) = True := eq_true (by have := HI.out; have := HJ.out; omega)
            have p3 : (16 ≤ i + k) = True := eq_true (by have := HI.out; have := HJ.out; omega)
            have q1 : (i + k < 176) = True := eq_true (by have := HI.out; have := HJ.out; have := Ae.out; have := Ad.out; omega)
            have q2 : (i + k - 16 < 176) = True := eq_true (by have := HI.out; have := HJ.out; have := Ae.out; have := Ad.out; omega)
            go_wp2_with (first | ((with_reducible refine d1_ 58 ?_); refine aidx_event rfl rfl rfl rfl rfl Try.underlying126 (keyt_len _ _ _) HJ.out.1 Ad.out ?_))
            go_roundg k2
            case measure => have := HK2.out; omega
            case rel => exact ⟨k + 1, (by have := HJ.out; rw [show wrap64 (k + 1) = k + 1 by unfold wrap64; omega]), ⟨by have := HJ.out; have := Ad.out; omega⟩, ⟨by have := HK2.out; have := HJ.out; omega⟩, ⟨by
              rw [show (k + 1).toNat = k.toNat + 1 by have := HJ.out; omega, keyp, show ((k.toNat : Nat) : Int) = k by have := HJ.out; omega]
              exact blk_ubput Aa.out _ _⟩, ⟨blk_far Ab.out NE2_3.out _⟩, ⟨below_set HB.out Aj.out⟩⟩
          · have Ah : decide (k < 4) = false := decide_eq_false c5
            have hk : k = 4 := by have := HJ.out; omega
            subst hk
            have hw : wrap64 (i + 4) = i + 4 := by have := HI.out; unfold wrap64; omega
            clear c5
            go_wp2
            go_roundg k1
            case measure => have := HK1.out; have := HI.out; omega
            case rel => exact ⟨i + 4, (by rw [HCN.out]), (by rw [hw]), ⟨by have := HI.out; have := Ae.out; omega⟩, ⟨by have := HK1.out; have := HI.out; have := Ae.out; omega⟩, ⟨by rw [HS.out]; exact Aa.out⟩, Ab, HB⟩
    · have An : decide (i < 176) = false := decide_eq_false c4
      have hx : i = 176 := by have := HI.out; omega
      subst hx
      replace Aa := A_ (show wr.heap[Ac]? = some (.cells (ub (sched l)) 132 (0, 0)) from Aa.out)
      clear c4
      have hsl := A_ (show (sched l).length = 176 from keyr_len l HL.out 40)
      go_wp2_with (first | ((with_reducible refine d1_ 72 ?_); refine arr_load rfl rfl rfl rfl Aa.out Try.underlying132 rfl (hi132.trans (by rw [ub_size, hsl.out])) ?_) | ((with_reducible refine s1_ 132 2 ?_); refine arr_store (cs' := ub (sched l)) rfl rfl rfl rfl rfl Ab.out (hi132.trans (by rw [ub_size, hsl.out])) (by rw [ub_size, ub_size, hsl.out]; rfl) (ub_one _) ?_; intro Am hbs hgs; replace Aa := hb5_ Aa hgs NE2_3; replace HB := hb6_ HB hgs Aq; replace Ab := A_ hbs; clear hbs hgs))
      refine bodyPost_ret (results_cell_row rfl _ _ Ag 132 (ub (sched l)) (0, 0) _ rfl Ab.out Try.underlying132 rfl (hi132.trans (by rw [ub_size, hsl.out]))) rfl ?_
      exact ⟨rfl, HB.out⟩
theorem put_list (l : List Value) : ∀ (k : Nat) (z : Array Value), k + l.length ≤ z.size → ((l.zipIdx k).foldl (fun (cs : Array Value) (x : Value × Nat) => cs.setIfInBounds x.2 x.1) z).toList = z.toList.take k ++ l ++ z.toList.drop (k + l.length) := by
  induction l with
  | nil => intro k z h; simp
  | cons v l ih =>
    intro k z h
    rw [List.length_cons] at h
    rw [List.zipIdx_cons, List.foldl_cons, ih (k + 1) _ (by simp; omega), Array.toList_setIfInBounds]
    have hk : k < z.toList.length := by simp; omega
    rw [List.length_cons, List.drop_set_of_lt (by omega), List.take_set, List.take_add_one, List.getElem?_eq_getElem hk, show k + (l.length + 1) = k + 1 + l.length by omega]
    rw [List.set_append_right _ _ (by rw [List.length_take]; omega), List.length_take, Nat.min_eq_left (by omega), Nat.sub_self]
    simp
theorem put_all (z s : Array Value) (n : Nat) (hs : s.size = n) (hz : z.size = n) : Array.foldl (fun (cs : Array Value) (x : Value × Nat) => cs.setIfInBounds x.snd x.fst) z s.zipIdx 0 n = s := by
  have e : n = s.zipIdx.size := by simp [hs]
  apply Array.toList_inj.1
  rw [e, ← Array.foldl_toList, Array.toList_zipIdx, put_list _ 0 z (by simp; omega)]
  simp
  omega
theorem newC84 (A : Option Addr) (c : Nat) (l : List Int) (w : World) (hr : Kd.C (Kd.int .u8) w A l.length l) (hl : l.length = 16) (hy : ∀ x ∈ l, 0 ≤ x ∧ x ≤ 255) : Calls Try.prog 84 #[.slice A l.length c] w fun e w' => ∃ g, e = .returned (.pointer (some ⟨g, 0, none⟩)) ∧ w.heap.size ≤ g ∧ w'.heap[g]? = some (.cells (ub (sched l)) 135 (0, 0)) ∧ Below w.heap.size w w' := by
  have hu132 := Try.underlying132
  have hu135 := Try.underlying135
  have HR := A_ hr
  have HL := A_ hl
  have HYl := A_ hy
  have HB := A_ (Below.refl w.heap.size w)
  have hS : ∀ W, Kd.C (Kd.int .u8) W A l.length l → Calls Try.prog 106 #[.slice A l.length c] W fun e w' => e = .returned (.agg (ub (sched l))) ∧ Below W.heap.size W w' := fun W h => sched106 A c l W h hl hy
  have hsl : (sched l).length = 176 := keyr_len l hl 40
  generalize sched l = S at hS hsl ⊢
  have hsz : (ub S).size = 176 := (ub_size _).trans hsl
  have HS := A_ hS
  have HSL := A_ hsl
  clear hS hsl
  clear hr hl hy
  go_enter Try.func84, Try.ntmps84
  go_wp2_with (first | (go_at_call 106; (with_reducible refine (HS.out _ (Kd.C_below HR.out HB.out)).mono ?_); rintro e wc ⟨rfl, hb⟩; replace HB := hb2_ hb; clear hb) | ((with_reducible refine d1_ 5 ?_); refine val_event rfl (.agg (ub S)) ?hr ?_; (case hr => go_simp; rw [put_all _ _ _ (by rw [ub_size, HSL.out]) (by kernel_rfl)])) | ((with_reducible refine d1_ 6 ?_); refine bx_ 6 (ub S) 135 rfl rfl ?hr ?_; (case hr => go_simp <;> rfl); intro Aa hg wb6 hbox hb; have Ab := gw_ (w := w) hg; replace HB := hb2_ hb; have Ac := A_ (hbox); clear hb hbox hg))
  go_ret
  exact ⟨Aa, rfl, Ab.out, Ac.out, HB.out⟩
def upg (l : List Int) : Nat → Int → List Int
  | 0, _ => l
  | k + 1, x => if x ≥ 12 then (if (rd l x + 1) % 256 = 0 then upg (l.set x.toNat ((rd l x + 1) % 256)) k (x - 1) else l.set x.toNat ((rd l x + 1) % 256)) else l
def upv (l : List Int) : List Int := upg l 5 15
theorem upg_len (k : Nat) : ∀ (l : List Int) (x : Int), (upg l k x).length = l.length := by
  induction k with
  | zero => intro l x; rfl
  | succ k ih =>
    intro l x
    rw [upg]
    split
    · split
      · rw [ih, List.length_set]
      · rw [List.length_set]
    · rfl
theorem upg_byte (k : Nat) : ∀ (l : List Int) (x : Int), (∀ y ∈ l, 0 ≤ y ∧ y ≤ 255) → ∀ y ∈ upg l k x, 0 ≤ y ∧ y ≤ 255 := by
  have hs : ∀ (l : List Int) (i : Nat) (v : Int), (∀ y ∈ l, 0 ≤ y ∧ y ≤ 255) → ∀ y ∈ l.set i (v % 256), 0 ≤ y ∧ y ≤ 255 := by
    intro l i v h y hy
    rcases List.mem_or_eq_of_mem_set hy with h1 | h1
    · exact h y h1
    · omega
  induction k with
  | zero => intro l x h; exact h
  | succ k ih =>
    intro l x h
    rw [upg]
    split
    · split
      · exact ih _ _ (hs _ _ _ h)
      · exact hs _ _ _ h
    · exact h
theorem upv_len (l : List Int) : (upv l).length = l.length := upg_len _ _ _
theorem rd_set (l : List Int) (i : Int) (h0 : 0 ≤ i) (h : i < l.length) (v : Int) : rd (l.set i.toNat v) i = v := by
  simp only [rd, List.getD_eq_getElem?_getD]
  rw [List.getElem?_set_self (by omega)]
  rfl
theorem up88 (l : List Int) (hl : l.length = 16) (w : World) : Calls Try.prog 88 #[.agg (ub l)] w fun e w' => e = .returned (.agg (ub (upv l))) ∧ Below w.heap.size w w' := by
  have hu113 := Try.underlying113
  have hz5 := Try.sizeOf5
  have HL := A_ hl
  have HB := A_ (Below.refl w.heap.size w)
  clear hl
  go_enter Try.func88, Try.ntmps88
  go_wp2_with (first | ((with_reducible refine d1_ 1 ?_); refine bx_ 1 (ub l) 113 rfl rfl ?hr ?_; (case hr => go_simp <;> rfl); intro Af hg wb1 hbox hb; have Aj := gw_ (w := w) hg; replace HB := hb2_ hb; have Aa := A_ (hbox); clear hb hbox hg) | ((with_reducible refine d1_ 2 ?_); refine bx_ 2 (ub (List.replicate 16 0)) 113 rfl rfl ?hr ?_; (case hr => have hz := Try.zeroValue113; go_simp <;> rfl); intro Ag hg wb2 hbox hb; have Ak := gw_ (w := w) hg; have NE1_2 := hb3_ Aa hg; replace Aa := hb1_ Aa hb; replace HB := hb2_ hb; have Ab := A_ (hbox); clear hb hbox hg))
  go_loopg [3] 5 (fun kq v3 w' => ∃ (x : Int) (o : List Int), v3 = .int .i64 x ∧ Aside0 (11 ≤ x ∧ x ≤ 15) ∧ Aside0 (kq = (x - 10).toNat) ∧ Aside0 (o.length = 16) ∧ Aside0 (upg o kq x = upv l) ∧ Aside0 (w'.heap[Af]? = some (.cells (ub o) 113 (0, 0))) ∧ Aside0 (w'.heap[Ag]? = some (.cells (ub (List.replicate 16 0)) 113 (0, 0))) ∧ Aside0 (Below w.heap.size w w'))
  case atStart => exact ⟨15, l, eq_b, ⟨by omega⟩, ⟨rfl⟩, HL, ⟨rfl⟩, Aa, Ab, HB⟩
  case round =>
    clear Aa Ab HB
    obtain ⟨x, o, rfl, HI, HK1, HO, HU, Aa, Ab, HB⟩ := hrel
    by_cases c4 : x ≥ 12
    · have Ah : decide (12 ≤ x) = true := decide_eq_true c4
      have Al := A_ c4
      obtain ⟨k1, rfl⟩ : ∃ k1, gk = k1 + 1 := ⟨gk - 1, by have := HK1.out; have := HI.out; omega⟩
      have Ad : 0 ≤ x := by have := HI.out; omega
      have Ae : x < 16 := by have := HI.out; omega
      have HX := A_ (And.intro Ad Ae)
      have hlr : wr.cell? ⟨Af, x.toNat, none⟩ = some (.int .u8 (rd o x)) := blk_ub Aa.out x Ad (by rw [HO.out]; exact Ae)
      have p1 := eq_true Ad
      have q1 := eq_true Ae
      have hnn : (Value.int .u8 ((rd o x + 1) % 256)) = .int .u8 (rd (o.set x.toNat ((rd o x + 1) % 256)) x) := by rw [rd_set o x Ad (by rw [HO.out]; exact Ae)]
      by_cases c5 : (rd o x + 1) % 256 = 0
      · have hup : upg (o.set x.toNat ((rd o x + 1) % 256)) k1 (x - 1) = upv l := by rw [← HU.out, upg, if_pos c4, if_pos c5]
        have HUP := A_ hup
        clear hup c4 Ad Ae hnn
        have hw := A_ (show wrap64 (x - 1) = x - 1 by have := HI.out; unfold wrap64; omega)
        go_wp2_with (first | ((with_reducible refine s1_ 5 12 ?_); refine el_store rfl rfl rfl rfl rfl Aa.out (by have := HX.out; rw [HO.out]; omega) ?_; intro we1 hbs hgs; replace Ab := hb5_ Ab hgs NE1_2; have hls : we1.cell? ⟨Af, x.toNat, none⟩ = some (.int .u8 0) := (blk_cell hbs _).trans (by rw [ub_get _ _ (by rw [List.length_set, HO.out]; have := HX.out; omega)]; simp [c5]); replace HB := hb6_ HB hgs Aj; replace Aa := A_ hbs; clear hbs hgs))
        go_roundg k1
        case measure => have := HK1.out; omega
        case rel => exact ⟨x - 1, _, (by rw [hw.out]), ⟨by have := HI.out; have := Al.out; omega⟩, ⟨by have := HK1.out; have := HI.out; have := Al.out; omega⟩, ⟨by rw [List.length_set, HO.out]⟩, HUP, Aa, Ab, HB⟩
      · have hup : o.set x.toNat ((rd o x + 1) % 256) = upv l := by rw [← HU.out, upg, if_pos c4, if_neg c5]
        have HUP := A_ hup
        have Ai : ((rd o x + 1) % 256 == 0) = false := beq_false_of_ne c5
        have Am : ((rd o x + 1) % 256 != 0) = true := by rw [bne, Ai]; rfl
        clear hup c4 Ad Ae hnn
        go_wp2_with (first | ((with_reducible refine s1_ 5 12 ?_); refine el_store rfl rfl rfl rfl rfl Aa.out (by have := HX.out; rw [HO.out]; omega) ?_; intro we1 hbs hgs; replace Ab := hb5_ Ab hgs NE1_2; have hls : we1.cell? ⟨Af, x.toNat, none⟩ = some (.int .u8 ((rd o x + 1) % 256)) := (blk_cell hbs _).trans (by rw [ub_get _ _ (by rw [List.length_set, HO.out]; have := HX.out; omega)]; simp); rw [HUP.out] at hbs; replace HB := hb6_ HB hgs Aj; replace Aa := A_ hbs; clear hbs hgs) | ((with_reducible refine d1_ 17 ?_); refine arr_load rfl rfl rfl rfl Aa.out Try.underlying113 rfl (hi113.trans (by rw [ub_size, upv_len, HL.out])) ?_) | ((with_reducible refine s1_ 113 2 ?_); refine arr_store (cs' := ub (upv l)) rfl rfl rfl rfl rfl Ab.out (hi113.trans (by rw [ub_size, upv_len, HL.out])) (by rw [ub_size, ub_size, upv_len, HL.out]; rfl) (ub_one _) ?_; intro Ac hbs hgs; replace Aa := hb4_ Aa hgs NE1_2; replace HB := hb6_ HB hgs Ak; replace Ab := A_ hbs; clear hbs hgs))
        refine bodyPost_ret (results_cell_row rfl _ _ Ag 113 (ub (upv l)) (0, 0) _ rfl Ab.out Try.underlying113 rfl (hi113.trans (by rw [ub_size, upv_len, HL.out]))) rfl ?_
        exact ⟨rfl, HB.out⟩
    · have Ah : decide (12 ≤ x) = false := decide_eq_false c4
      replace Aa := A_ (show wr.heap[Af]? = some (.cells (ub (upv l)) 113 (0, 0)) from (by
        have h := HU.out
        have e : upg o gk x = o := by cases gk with
          | zero => rfl
          | succ n => rw [upg, if_neg c4]
        rw [← h, e]
        exact Aa.out))
      clear c4
      go_wp2_with (first | ((with_reducible refine d1_ 17 ?_); refine arr_load rfl rfl rfl rfl Aa.out Try.underlying113 rfl (hi113.trans (by rw [ub_size, upv_len, HL.out])) ?_) | ((with_reducible refine s1_ 113 2 ?_); refine arr_store (cs' := ub (upv l)) rfl rfl rfl rfl rfl Ab.out (hi113.trans (by rw [ub_size, upv_len, HL.out])) (by rw [ub_size, ub_size, upv_len, HL.out]; rfl) (ub_one _) ?_; intro Ac hbs hgs; replace Aa := hb4_ Aa hgs NE1_2; replace HB := hb6_ HB hgs Ak; replace Ab := A_ hbs; clear hbs hgs))
      refine bodyPost_ret (results_cell_row rfl _ _ Ag 113 (ub (upv l)) (0, 0) _ rfl Ab.out Try.underlying113 rfl (hi113.trans (by rw [ub_size, upv_len, HL.out]))) rfl ?_
      exact ⟨rfl, HB.out⟩
theorem hi139 : (Try.prog.info? 139).map (·.size) = some 2 := by kernel_rfl
def hvl (l : List Int) (a : Int) : Nat → Int
  | 0 => 0
  | n + 1 => hvl l a n * 256 + rd l (a + n)
theorem hv_range (l : List Int) (hb : ∀ y ∈ l, 0 ≤ y ∧ y ≤ 255) (a : Int) (h0 : 0 ≤ a) (n : Nat) (h : a + n ≤ l.length) : 0 ≤ hvl l a n ∧ hvl l a n < 256 ^ n := by
  induction n with
  | zero => exact ⟨Int.le_refl _, by show (0 : Int) < 1; decide⟩
  | succ n ih =>
    have h1 := ih (by omega)
    have h2 := rd_byte hb (a + n) (by omega) (by omega)
    rw [hvl, Int.pow_succ]
    omega
theorem or_byte (a b : Int) (ha0 : 0 ≤ a) (ha1 : a * 256 < 18446744073709551616) (h0 : 0 ≤ b) (h1 : b ≤ 255) : Go.bits .or .u64 (a * 256) b = a * 256 + b := by
  obtain ⟨n, rfl⟩ := Int.eq_ofNat_of_zero_le h0
  obtain ⟨m, rfl⟩ := Int.eq_ofNat_of_zero_le ha0
  have hm : ((m : Int) * 256) = ((m * 256 : Nat) : Int) := by omega
  have h2 : (BitVec.ofInt 64 (n : Int)).toNat = n := by
    rw [BitVec.ofInt_natCast, BitVec.toNat_ofNat]
    exact Nat.mod_eq_of_lt (by omega)
  have h3 : (BitVec.ofInt 64 ((m * 256 : Nat) : Int)).toNat = m * 256 := by
    rw [BitVec.ofInt_natCast, BitVec.toNat_ofNat]
    exact Nat.mod_eq_of_lt (by omega)
  rw [hm]
  show IntKind.u64.wrap ((BitVec.ofInt 64 ((m * 256 : Nat) : Int) ||| BitVec.ofInt 64 (n : Int)).toNat : Int) = _
  rw [BitVec.toNat_or, h2, h3, show m * 256 = m <<< 8 from (Nat.shiftLeft_eq m 8).symm, ← Nat.shiftLeft_add_eq_or_of_lt (show n < 2 ^ 8 by omega), IntKind.wrap_u64, Nat.shiftLeft_eq]
  omega
theorem hv_step (l : List Int) (hb : ∀ y ∈ l, 0 ≤ y ∧ y ≤ 255) (a x : Int) (h0 : 0 ≤ a) (Aa : 0 ≤ x) (hx : x < 8) (h : a + 8 ≤ l.length) : Go.bits .or .u64 (IntKind.u64.wrap (hvl l a x.toNat * 256)) (IntKind.u64.wrap (rd l (a + x))) = hvl l a (x.toNat + 1) := by
  have h1 := hv_range l hb a h0 x.toNat (by omega)
  have h2 := rd_byte hb (a + x) (by omega) (by omega)
  have h3 : (256 : Int) ^ x.toNat ≤ 256 ^ 7 := by
    have hn : x.toNat = 0 ∨ x.toNat = 1 ∨ x.toNat = 2 ∨ x.toNat = 3 ∨ x.toNat = 4 ∨ x.toNat = 5 ∨ x.toNat = 6 ∨ x.toNat = 7 := by omega
    rcases hn with h | h | h | h | h | h | h | h <;> (rw [h]; decide)
  have h4 : hvl l a x.toNat * 256 < 18446744073709551616 := by
    have : (256 : Int) ^ 7 = 72057594037927936 := by decide
    omega
  rw [IntKind.wrap_u64, IntKind.wrap_u64, Int.emod_eq_of_lt (by omega) h4, Int.emod_eq_of_lt h2.1 (by omega), or_byte _ _ h1.1 h4 h2.1 h2.2, hvl, show a + ((x.toNat : Nat) : Int) = a + x by omega]
def elo (l : List Int) : Int := hvl l 0 8
def ehi (l : List Int) : Int := hvl l 8 8
theorem elem113 (l : List Int) (hl : l.length = 16) (hy : ∀ x ∈ l, 0 ≤ x ∧ x ≤ 255) (w : World) : Calls Try.prog 113 #[.agg (ub l)] w fun e w' => e = .returned (.agg #[.int .u64 (elo l), .int .u64 (ehi l)]) ∧ Below w.heap.size w w' := by
  have hu113 := Try.underlying113
  have hu139 := Try.underlying139
  have hz5 := Try.sizeOf5
  have HL := A_ hl
  have HY := A_ hy
  have HB := A_ (Below.refl w.heap.size w)
  clear hl hy
  go_enter Try.func113, Try.ntmps113
  go_wp2_with (first | ((with_reducible refine d1_ 1 ?_); refine bx_ 1 (ub l) 113 rfl rfl ?hr ?_; (case hr => go_simp <;> rfl); intro Ae hg wb1 hbox hb; have Am := gw_ (w := w) hg; replace HB := hb2_ hb; have Aa := A_ (hbox); clear hb hbox hg) | ((with_reducible refine d1_ 2 ?_); refine bx_ 2 (#[.int .u64 0, .int .u64 0]) 139 rfl rfl ?hr ?_; (case hr => have hz := Try.zeroValue139; go_simp <;> rfl); intro Ai hg wb2 hbox hb; have Al := gw_ (w := w) hg; have NE1_2 := hb3_ Aa hg; replace Aa := hb1_ Aa hb; replace HB := hb2_ hb; have Ab := A_ (hbox); clear hb hbox hg) | ((with_reducible refine d1_ 3 ?_); refine bx_ 3 (#[.int .u64 0, .int .u64 0]) 139 rfl rfl ?hr ?_; (case hr => have hz := Try.zeroValue139; go_simp <;> rfl); intro Ad hg wb3 hbox hb; have Aj := gw_ (w := w) hg; have NE1_3 := hb3_ Aa hg; have NE2_3 := hb3_ Ab hg; replace Aa := hb1_ Aa hb; replace Ab := hb1_ Ab hb; replace HB := hb2_ hb; have Ac := A_ (hbox); clear hb hbox hg) | ((with_reducible refine s1_ 139 3 ?_); refine arr_store (cs' := #[.int .u64 0, .int .u64 0]) rfl rfl rfl rfl rfl Ac.out (hi139.trans (by rfl)) (by rfl) (by first | (simp [Value.oneCell']; done) | (simp; exact ⟨rfl, rfl⟩)) ?_; intro Af hbs hgs; replace Aa := hb4_ Aa hgs NE1_3; replace Ab := hb4_ Ab hgs NE2_3; replace HB := hb6_ HB hgs Aj; replace Ac := A_ hbs; clear hbs hgs))
  go_loopg [6] 8 (fun kq v6 w' => ∃ (x : Int), v6 = .int .i64 x ∧ Aside0 (0 ≤ x ∧ x ≤ 8) ∧ Aside0 (kq = 8 - x.toNat) ∧ Aside0 (w'.heap[Ad]? = some (.cells #[.int .u64 (hvl l 0 x.toNat), .int .u64 (hvl l 8 x.toNat)] 139 (0, 0))) ∧ Aside0 (w'.heap[Ai]? = some (.cells #[.int .u64 0, .int .u64 0] 139 (0, 0))) ∧ Aside0 (w'.heap[Ae]? = some (.cells (ub l) 113 (0, 0))) ∧ Aside0 (Below w.heap.size w w'))
  case atStart => exact ⟨0, eq_b, ⟨by omega⟩, ⟨rfl⟩, Ac, Ab, Aa, HB⟩
  case round =>
    clear Aa Ab Ac HB
    obtain ⟨x, rfl, HI, HK1, Ac, Ab, Aa, HB⟩ := hrel
    by_cases c4 : x < 8
    · have Ak : decide (x < 8) = true := decide_eq_true c4
      have Ag := A_ c4
      obtain ⟨k1, rfl⟩ : ∃ k1, gk = k1 + 1 := ⟨gk - 1, by have := HK1.out; have := HI.out; omega⟩
      have An := A_ (hv_range l HY.out 0 (by decide) x.toNat (by have := HI.out; rw [HL.out]; omega))
      have Ao := A_ (hv_range l HY.out 8 (by decide) x.toNat (by have := HI.out; rw [HL.out]; omega))
      have hb0 := A_ (rd_byte HY.out x HI.out.1 (by rw [HL.out]; omega))
      have hb1 := A_ (rd_byte HY.out (x + 8) (by have := HI.out; omega) (by rw [HL.out]; omega))
      obtain ⟨hcz3_0, hcz3_1, hfz3_0, hfz3_1⟩ := bc2_ Ac.out
      have hlr : wr.cell? ⟨Ae, x.toNat, none⟩ = some (.int .u8 (rd l x)) := blk_ub Aa.out x HI.out.1 (by rw [HL.out]; omega)
      have hls : wr.cell? ⟨Ae, (x + 8).toNat, none⟩ = some (.int .u8 (rd l (x + 8))) := blk_ub Aa.out _ (by have := HI.out; omega) (by rw [HL.out]; omega)
      have p1 := eq_true HI.out.1
      have q1 : (x < 16) = True := eq_true (by omega)
      have p2 : (0 ≤ x + 8) = True := eq_true (by have := HI.out; omega)
      have q2 : (x + 8 < 16) = True := eq_true (by omega)
      have w2 : wrap64 (x + 8) = x + 8 := by have := HI.out; unfold wrap64; omega
      clear c4
      go_wp2
      go_big_region
      have e0 := hv_step l HY.out 0 x (by decide) HI.out.1 Ag.out (by rw [HL.out]; decide)
      rw [Int.zero_add] at e0
      rw [e0]
      clear e0 hlr hcz3_0 hcz3_1 hfz3_0 hfz3_1
      have k3 : ((wr.setCell ⟨Ad, 0, none⟩ (.int .u64 (hvl l 0 (x.toNat + 1)))).drew).heap[Ad]? = some (.cells #[.int .u64 (hvl l 0 (x.toNat + 1)), .int .u64 (hvl l 8 x.toNat)] 139 (0, 0)) := Eq.trans (blk_set Ac.out 0 _) rfl
      have k2 : ((wr.setCell ⟨Ad, 0, none⟩ (.int .u64 (hvl l 0 (x.toNat + 1)))).drew).heap[Ai]? = some (.cells #[.int .u64 0, .int .u64 0] 139 (0, 0)) := blk_far Ab.out NE2_3.out _
      have k1' : ((wr.setCell ⟨Ad, 0, none⟩ (.int .u64 (hvl l 0 (x.toNat + 1)))).drew).heap[Ae]? = some (.cells (ub l) 113 (0, 0)) := blk_far Aa.out NE1_3.out _
      have kb : Below w.heap.size w ((wr.setCell ⟨Ad, 0, none⟩ (.int .u64 (hvl l 0 (x.toNat + 1)))).drew) := (below_set HB.out Aj.out).drew
      clear hls Aa Ab Ac HB
      generalize (wr.setCell ⟨Ad, 0, none⟩ (.int .u64 (hvl l 0 (x.toNat + 1)))).drew = wa at k1' k2 k3 kb ⊢
      obtain ⟨hcz3_0, hcz3_1, hfz3_0, hfz3_1⟩ := bc2_ k3
      have hls : wa.cell? ⟨Ae, (x + 8).toNat, none⟩ = some (.int .u8 (rd l (x + 8))) := blk_ub k1' _ (by have := HI.out; omega) (by rw [HL.out]; have := Ag.out; omega)
      have Aa := A_ k1'
      have Ab := A_ k2
      have Ac := A_ k3
      have HB := A_ kb
      clear k1' k2 k3 kb
      go_wp2
      go_big_region
      have e0 := hv_step l HY.out 8 x (by decide) HI.out.1 Ag.out (by rw [HL.out]; decide)
      rw [Int.add_comm 8 x] at e0
      rw [e0]
      clear e0 hls hcz3_0 hcz3_1 hfz3_0 hfz3_1
      go_wp2
      go_roundg k1
      case measure => have := HK1.out; omega
      case rel => exact ⟨x + 1, (by have := HI.out; rw [show wrap64 (x + 1) = x + 1 by unfold wrap64; omega]), ⟨by have := HI.out; have := Ag.out; omega⟩, ⟨by have := HK1.out; have := HI.out; omega⟩, ⟨by
        rw [show (x + 1).toNat = x.toNat + 1 by have := HI.out; omega]
        exact Eq.trans (blk_set Ac.out 1 _) rfl⟩, ⟨blk_far Ab.out NE2_3.out _⟩, ⟨blk_far Aa.out NE1_3.out _⟩, ⟨(below_set HB.out Aj.out).drew⟩⟩
    · have Ak : decide (x < 8) = false := decide_eq_false c4
      have hx : x = 8 := by have := HI.out; omega
      subst hx
      replace Ac := A_ (show wr.heap[Ad]? = some (.cells #[.int .u64 (elo l), .int .u64 (ehi l)] 139 (0, 0)) from Ac.out)
      clear c4
      go_wp2_with (first | ((with_reducible refine d1_ 29 ?_); refine arr_load rfl rfl rfl rfl Ac.out Try.underlying139 rfl (hi139.trans (by rfl)) ?_) | ((with_reducible refine s1_ 139 2 ?_); refine arr_store (cs' := #[.int .u64 (elo l), .int .u64 (ehi l)]) rfl rfl rfl rfl rfl Ab.out (hi139.trans (by rfl)) (by rfl) (by first | (simp [Value.oneCell']; done) | (simp; exact ⟨rfl, rfl⟩)) ?_; intro Ah hbs hgs; replace Ac := hb5_ Ac hgs NE2_3; replace Aa := hb4_ Aa hgs NE1_2; replace HB := hb6_ HB hgs Al; replace Ab := A_ hbs; clear hbs hgs))
      refine bodyPost_ret (results_cell_row rfl _ _ Ai 139 (#[.int .u64 (elo l), .int .u64 (ehi l)]) (0, 0) _ rfl Ab.out Try.underlying139 rfl (hi139.trans (by rfl))) rfl ?_
      exact ⟨rfl, HB.out⟩
def fnl (f : Nat → Int) : List Int := (List.range 16).map f
theorem fnl_len (f : Nat → Int) : (fnl f).length = 16 := by simp [fnl]
theorem fnl_set (f : Nat → Int) (i : Nat) (v : Int) : (fnl f).set i v = fnl (fun j => if j = i then v else f j) := by
  apply List.ext_getElem
  · rw [List.length_set, fnl_len, fnl_len]
  · intro j h1 h2
    rw [List.getElem_set]
    simp only [fnl, List.getElem_map, List.getElem_range]
    by_cases hj : i = j
    · rw [if_pos hj, if_pos hj.symm]
    · rw [if_neg hj, if_neg (fun h => hj h.symm)]
theorem fnl_congr {f g : Nat → Int} (h : ∀ j, j < 16 → f j = g j) : fnl f = fnl g := List.map_congr_left fun j hj => h j (List.mem_range.1 hj)
def byt (lo hi : Int) : Nat → Int := fun j => if j < 8 then lo / 256 ^ (7 - j) % 256 else hi / 256 ^ (15 - j) % 256
def bytv (lo hi : Int) : List Int := fnl (byt lo hi)
theorem bytv_len (lo hi : Int) : (bytv lo hi).length = 16 := fnl_len _
theorem bytv_byte (lo hi : Int) : ∀ y ∈ bytv lo hi, 0 ≤ y ∧ y ≤ 255 := by
  intro y hy
  obtain ⟨j, _, rfl⟩ := List.mem_map.1 hy
  unfold byt
  split <;> omega
def bpt (lo hi x : Int) : List Int := fnl fun j => if x < ((j % 8 : Nat) : Int) then byt lo hi j else 0
theorem bpt_top (lo hi : Int) : bpt lo hi 7 = List.replicate 16 0 := by
  have e : bpt lo hi 7 = fnl fun _ => 0 := fnl_congr fun j _ => if_neg (by omega)
  rw [e]
  rfl
theorem bpt_all (lo hi : Int) : bpt lo hi (-1) = bytv lo hi := fnl_congr fun j _ => if_pos (by omega)
theorem bpt_step (lo hi x : Int) (h0 : 0 ≤ x) (h7 : x ≤ 7) : ((bpt lo hi x).set x.toNat (lo / 256 ^ (7 - x).toNat % 256)).set (x + 8).toNat (hi / 256 ^ (7 - x).toNat % 256) = bpt lo hi (x - 1) := by
  unfold bpt
  rw [fnl_set, fnl_set]
  refine fnl_congr fun j hj => ?_
  by_cases h1 : j = (x + 8).toNat
  · rw [if_pos h1, if_pos (by omega), byt, if_neg (by omega), show 15 - j = (7 - x).toNat by omega]
  · rw [if_neg h1]
    by_cases h2 : j = x.toNat
    · rw [if_pos h2, if_pos (by omega), byt, if_pos (by omega), show 7 - j = (7 - x).toNat by omega]
    · rw [if_neg h2]
      by_cases h3 : x < ((j % 8 : Nat) : Int)
      · rw [if_pos h3, if_pos (by omega)]
      · rw [if_neg h3, if_neg (by omega)]
theorem div_step (a x : Int) (h0 : 0 ≤ x) (h7 : x ≤ 7) : a / 256 ^ (7 - x).toNat / 256 = a / 256 ^ (7 - (x - 1)).toNat := by
  rw [show (7 - (x - 1)).toNat = (7 - x).toNat + 1 by omega, Int.pow_succ, Int.ediv_ediv_of_nonneg (Int.pow_nonneg (by decide))]
theorem blk117 (lo hi : Int) (h0 : 0 ≤ lo) (h1 : 0 ≤ hi) (w : World) : Calls Try.prog 117 #[.agg #[.int .u64 lo, .int .u64 hi]] w fun e w' => e = .returned (.agg (ub (bytv lo hi))) ∧ Below w.heap.size w w' := by
  have hu113 := Try.underlying113
  have hu139 := Try.underlying139
  have hz5 := Try.sizeOf5
  have HB := A_ (Below.refl w.heap.size w)
  have Ao := A_ h0
  have Ap := A_ h1
  clear h0 h1
  go_enter Try.func117, Try.ntmps117
  go_wp2_with (first | ((with_reducible refine d1_ 1 ?_); refine by_ 1 (#[.int .u64 lo, .int .u64 hi]) 139 ?_; intro Al hg wb1 hbox hb; have Am := gw_ (w := w) hg; replace HB := hb2_ hb; have Aa := A_ (hbox); clear hb hbox hg) | ((with_reducible refine d1_ 2 ?_); refine bx_ 2 (ub (List.replicate 16 0)) 113 rfl rfl ?hr ?_; (case hr => have hz := Try.zeroValue113; go_simp <;> rfl); intro Ai hg wb2 hbox hb; have An := gw_ (w := w) hg; have NE1_2 := hb3_ Aa hg; replace Aa := hb1_ Aa hb; replace HB := hb2_ hb; have Ab := A_ (hbox); clear hb hbox hg) | ((with_reducible refine d1_ 3 ?_); refine bx_ 3 (ub (List.replicate 16 0)) 113 rfl rfl ?hr ?_; (case hr => have hz := Try.zeroValue113; go_simp <;> rfl); intro Aj hg wb3 hbox hb; have Ag := gw_ (w := w) hg; have NE1_3 := hb3_ Aa hg; have NE2_3 := hb3_ Ab hg; replace Aa := hb1_ Aa hb; replace Ab := hb1_ Ab hb; replace HB := hb2_ hb; have Ac := A_ (hbox); clear hb hbox hg) | ((with_reducible refine d1_ 5 ?_); refine val_event rfl (.agg (ub (List.replicate 16 0))) ?hr ?_; (case hr => go_simp <;> rfl)) | ((with_reducible refine s1_ 113 3 ?_); refine arr_store (cs' := ub (List.replicate 16 0)) rfl rfl rfl rfl rfl Ac.out (hi113.trans (by rw [ub_size, List.length_replicate])) (by rw [ub_size]) (ub_one _) ?_; intro Ad hbs hgs; replace Aa := hb4_ Aa hgs NE1_3; replace Ab := hb4_ Ab hgs NE2_3; replace HB := hb6_ HB hgs Ag; replace Ac := A_ hbs; clear hbs hgs))
  go_loopg [4] 8 (fun kq v4 w' => ∃ (x : Int), v4 = .int .i64 x ∧ Aside0 (-1 ≤ x ∧ x ≤ 7) ∧ Aside0 (kq = (x + 1).toNat) ∧ Aside0 (w'.heap[Aj]? = some (.cells (ub (bpt lo hi x)) 113 (0, 0))) ∧ Aside0 (w'.heap[Al]? = some (.cells #[.int .u64 (lo / 256 ^ (7 - x).toNat), .int .u64 (hi / 256 ^ (7 - x).toNat)] 139 (0, 0))) ∧ Aside0 (w'.heap[Ai]? = some (.cells (ub (List.replicate 16 0)) 113 (0, 0))) ∧ Aside0 (Below w.heap.size w w'))
  case atStart => exact ⟨7, eq_b, ⟨by omega⟩, ⟨rfl⟩, ⟨by rw [bpt_top]; exact Ac.out⟩, ⟨by rw [show (7 - (7 : Int)).toNat = 0 from rfl, Int.pow_zero, Int.ediv_one, Int.ediv_one]; exact Aa.out⟩, Ab, HB⟩
  case round =>
    clear Aa Ab Ac HB
    obtain ⟨x, rfl, HI, HK1, Ac, Aa, Ab, HB⟩ := hrel
    by_cases c4 : x ≥ 0
    · have Ah : decide (0 ≤ x) = true := decide_eq_true c4
      have Ak := A_ c4
      obtain ⟨k1, rfl⟩ : ∃ k1, gk = k1 + 1 := ⟨gk - 1, by have := HK1.out; have := HI.out; omega⟩
      have p1 := eq_true c4
      have q1 : (x < 16) = True := eq_true (by have := HI.out; omega)
      have p2 : (0 ≤ x + 8) = True := eq_true (by have := HI.out; omega)
      have q2 : (x + 8 < 16) = True := eq_true (by have := HI.out; omega)
      have w2 : wrap64 (x + 8) = x + 8 := by have := HI.out; unfold wrap64; omega
      have hw := A_ (show wrap64 (x - 1) = x - 1 by have := HI.out; unfold wrap64; omega)
      have hst := A_ (bpt_step lo hi x c4 HI.out.2)
      have hd1 := A_ (div_step lo x c4 HI.out.2)
      have hd2 := A_ (div_step hi x c4 HI.out.2)
      have := bc2_ Aa.out
      clear c4
      go_wp2_with (first | ((with_reducible refine s1_ 5 14 ?_); refine el_store rfl rfl rfl rfl rfl Ac.out (by have := HI.out; rw [bpt, fnl_len]; omega) ?_; intro we3 hbs hgs; replace Aa := hb4_ Aa hgs NE1_3; replace Ab := hb4_ Ab hgs NE2_3; have := bc2_ Aa.out; replace HB := hb6_ HB hgs Ag; replace Ac := A_ hbs; clear hbs hgs) | ((with_reducible refine s1_ 5 20 ?_); refine el_store rfl rfl rfl rfl rfl Ac.out (by have := HI.out; rw [List.length_set, bpt, fnl_len]; omega) ?_; intro we3 hbs hgs; replace Aa := hb4_ Aa hgs NE1_3; replace Ab := hb4_ Ab hgs NE2_3; have := bc2_ Aa.out; replace HB := hb6_ HB hgs Ag; replace Ac := A_ hbs; clear hbs hgs) | ((with_reducible refine s1_ 139 1 ?_); refine arr_store (cs' := #[.int .u64 (lo / 256 ^ (7 - (x - 1)).toNat), .int .u64 (hi / 256 ^ (7 - (x - 1)).toNat)]) rfl rfl rfl rfl (by rw [← hd1.out, ← hd2.out]; rfl) Aa.out (hi139.trans (by rfl)) (by rfl) (by first | (simp [Value.oneCell']; done) | (simp; exact ⟨rfl, rfl⟩)) ?_; intro Ae hbs hgs; replace Ab := hb5_ Ab hgs NE1_2; replace Ac := hb5_ Ac hgs NE1_3; replace HB := hb6_ HB hgs Am; replace Aa := A_ hbs; clear hbs hgs))
      go_roundg k1
      case measure => have := HK1.out; omega
      case rel => exact ⟨x - 1, (by rw [hw.out]), ⟨by have := HI.out; have := Ak.out; omega⟩, ⟨by have := HK1.out; have := HI.out; have := Ak.out; omega⟩, ⟨by rw [← hst.out]; exact Ac.out⟩, Aa, Ab, HB⟩
    · have Ah : decide (0 ≤ x) = false := decide_eq_false c4
      have hx : x = -1 := by have := HI.out; omega
      subst hx
      replace Ac := A_ (show wr.heap[Aj]? = some (.cells (ub (bytv lo hi)) 113 (0, 0)) from (by rw [← bpt_all]; exact Ac.out))
      clear c4
      go_wp2_with (first | ((with_reducible refine d1_ 28 ?_); refine arr_load rfl rfl rfl rfl Ac.out Try.underlying113 rfl (hi113.trans (by rw [ub_size, bytv_len])) ?_) | ((with_reducible refine s1_ 113 2 ?_); refine arr_store (cs' := ub (bytv lo hi)) rfl rfl rfl rfl rfl Ab.out (hi113.trans (by rw [ub_size, bytv_len])) (by rw [ub_size, ub_size, bytv_len]; rfl) (ub_one _) ?_; intro Af hbs hgs; replace Ac := hb5_ Ac hgs NE2_3; replace Aa := hb4_ Aa hgs NE1_2; replace HB := hb6_ HB hgs An; replace Ab := A_ hbs; clear hbs hgs))
      refine bodyPost_ret (results_cell_row rfl _ _ Ai 113 (ub (bytv lo hi)) (0, 0) _ rfl Ab.out Try.underlying113 rfl (hi113.trans (by rw [ub_size, bytv_len]))) rfl ?_
      exact ⟨rfl, HB.out⟩
section
variable {P : Program} {ops : Array Oper} {o : Oper} {a : Act} {W : World} {S : World → Prop}
theorem load_yields {ty t : TypeId} {p : Tmp} (ho : o.op = .load ty (.tmp p)) (hw : Region.wanted o (yielded ops a.tmps) = true) {g : Nat} {cs : Array Value} {fr : Nat × Nat} {d : TypeDesc} (hp : a.eval (.tmp p) = .pointer (some ⟨g, 0, none⟩)) (hS : ∀ w', S w' → w'.heap[g]? = some (.cells cs t fr))
    (hu : P.underlying ty = some d) (hd : (match d with | .struct _ | .array _ _ => true | _ => false) = true) (hi : (P.info? ty).map (·.size) = some cs.size) : YieldsIf P ops S o (.agg cs) a := by
  refine Or.inl ⟨hw, fun w' hs => ?_⟩
  unfold execOp
  simp only [ho, hp, Instr.loadAt, Instr.sureAddr, Sem.run_bind, Sem.run_pure, Result.andThen_ok, run_loadVar_row w' g t ty cs fr d (hS w' hs) hu hd hi]
theorem store_runs {ty t : TypeId} {p : Tmp} {x : Operand} (ho : o.op = .store ty (.tmp p) x) {g : Nat} {cs cs' : Array Value} (hp : a.eval (.tmp p) = .pointer (some ⟨g, 0, none⟩)) (hx : a.eval x = .agg cs') (hb : W.heap[g]? = some (.cells cs t (0, 0)))
    (hi : (P.info? ty).map (·.size) = some cs'.size) (hs : cs.size = cs'.size) (h1 : cs'.all (·.oneCell') = true) : (execOp a.eval o).run P W = .ok .skip (W.setRow g cs') := by
  unfold execOp
  simp only [ho, hp, hx, Instr.storeAt, Instr.sureAddr, Sem.run_bind, Sem.run_pure, Result.andThen_ok, run_storeVar_row W g t ty cs cs' hb hi hs h1]
theorem setRow_grown (W : World) (g : Nat) (cs : Array Value) : W.grownBy (W.setRow g cs) (some g) := ⟨rfl, rfl, rfl, by simp [World.setRow], fun k hk hne => by
      simp only [World.setRow, Array.getElem?_modify]
      rw [if_neg (fun e => hne (by rw [e]))]⟩
end
theorem start_' {P : Program} {ops : Array Oper} {Q : Exit → Act → World → Prop} {id : Nat} {a : Act} {w : World} (n : Nat) (ds : List Nat) (l : Array Bool) (hm : P.follows .mixedOrders = true) (hn : ops.size = n) (hl : Array.replicate n false = l)
    (h : ∀ W, W = w.drew → wpAnyLast P .any ops Q (fun w' => Below W.heap.size W w') ds n l a W) : (Code.region id ops true).wp P Q a w :=
  start_ (S := fun w' => Below w.drew.heap.size w.drew w') l hm hn hl (Below.refl _ _) (fun _ => h _ rfl)
def hashO (h0 h1 : Int) : Nat → List Int → Int → Int → Option (Int × Int)
  | 0, _, _, _ => none
  | k + 1, l, s0, s1 => if 0 < l.length then (impl_element_times.f k (Go.bits .xor .u64 s0 (elo (l.take 16))) (Go.bits .xor .u64 s1 (ehi (l.take 16))) h0 h1).bind fun t => hashO h0 h1 k (l.drop 16) t.1 t.2 else some (s0, s1)
theorem x64_pos (a b : Int) : 0 ≤ Go.bits .xor .u64 a b := by
  have h : Go.bits .xor .u64 a b = _ % 18446744073709551616 := IntKind.wrap_u64 _
  omega
theorem times_pos_l : ∀ k, (∀ y0 y1 y2 y3 y4 y5 y6 r, 0 ≤ y5 → 0 ≤ y6 → impl_element_times.l0 k y0 y1 y2 y3 y4 y5 y6 = some r → 0 ≤ r.1 ∧ 0 ≤ r.2) ∧ (∀ y0 y1 y2 y3 y4 y5 y6 y7 y8 r, 0 ≤ y7 → 0 ≤ y8 → impl_element_times.l1 k y0 y1 y2 y3 y4 y5 y6 y7 y8 = some r → 0 ≤ r.1 ∧ 0 ≤ r.2)
  | 0 => ⟨fun _ _ _ _ _ _ _ _ _ _ h => by simp [impl_element_times.l0] at h, fun _ _ _ _ _ _ _ _ _ _ _ _ h => by simp [impl_element_times.l1] at h⟩
  | k + 1 => by
    obtain ⟨ih0, ih1⟩ := times_pos_l k
    refine ⟨?_, ?_⟩
    · intro y0 y1 y2 y3 y4 y5 y6 r h5 h6 h
      rw [impl_element_times.l0] at h
      split at h
      · split at h
        · split at h
          · exact ih1 _ _ _ _ _ _ _ _ _ _ h5 h6 h
          · cases h
        · cases h
      · injection h with h
        subst h
        exact ⟨h5, h6⟩
    · intro y0 y1 y2 y3 y4 y5 y6 y7 y8 r h7 h8 h
      rw [impl_element_times.l1] at h
      by_cases c1 : y1 ≥ 0
      · rw [if_pos c1, if_pos c1] at h
        by_cases c2 : Int.tmod (shr .u64 y0 y1) 2 = 1
        · rw [if_pos c2] at h
          obtain ⟨a, ha, h⟩ := Option.bind_eq_some_iff.1 h
          obtain ⟨b, hb, h⟩ := Option.bind_eq_some_iff.1 h
          rw [impl_element_plus.f] at ha
          injection ha with ha
          subst ha
          exact ih1 _ _ _ _ _ _ _ _ _ _ (x64_pos _ _) (x64_pos _ _) h
        · rw [if_neg c2] at h
          obtain ⟨b, hb, h⟩ := Option.bind_eq_some_iff.1 h
          exact ih1 _ _ _ _ _ _ _ _ _ _ h7 h8 h
      · rw [if_neg c1] at h
        exact ih0 _ _ _ _ _ _ _ _ h7 h8 h
theorem times_pos {k : Nat} {a b c d : Int} {r : Int × Int} (h : impl_element_times.f k a b c d = some r) : 0 ≤ r.1 ∧ 0 ≤ r.2 := by
  unfold impl_element_times.f at h
  obtain ⟨y, hy, h⟩ := Option.bind_eq_some_iff.1 h
  exact (times_pos_l k).1 _ _ _ _ _ _ _ _ (Int.le_refl _) (Int.le_refl _) h
theorem hash107 (k : Nat) (A : Option Addr) (c : Nat) (hh l : List Int) (r0 r1 : Int) (w : World) (hr : Kd.C (Kd.int .u8) w A l.length l) (hc : l.length ≤ c) (hl : hh.length = 16) (hy : ∀ x ∈ hh, 0 ≤ x ∧ x ≤ 255) (hyl : ∀ x ∈ l, 0 ≤ x ∧ x ≤ 255) (hm : l.length % 16 = 0) (hn : l.length ≤ 9223372036854775807) (h : hashO (elo hh) (ehi hh) k l 0 0 = some (r0, r1)) : Calls Try.prog 107 #[.agg (ub hh), .slice A l.length c] w fun e w' => e = .returned (.agg (ub (bytv r0 r1))) ∧ Below w.heap.size w w' := by
  have hu113 := Try.underlying113
  have hu139 := Try.underlying139
  have hz5 := Try.sizeOf5
  have HR := A_ hr
  have HC := A_ hc
  have HL := A_ hl
  have HY := A_ hy
  have HYL := A_ hyl
  have HM := A_ (And.intro hm hn)
  have H' := A_ h
  have HB := A_ (Below.refl w.heap.size w)
  clear hr hc hl hy hyl hm hn h
  go_enter Try.func107, Try.ntmps107
  go_wp2_with (first | ((with_reducible refine d1_ 2 ?_); refine bx_ 2 (ub hh) 113 rfl rfl ?hr ?_; (case hr => go_simp <;> rfl); intro An hg wb2 hbox hb; have A5 := gw_ (w := w) hg; replace HB := hb2_ hb; have Ab := A_ (hbox); clear hb hbox hg) | ((with_reducible refine d1_ 4 ?_); refine bx_ 4 (ub (List.replicate 16 0)) 113 rfl rfl ?hr ?_; (case hr => have hz := Try.zeroValue113; go_simp <;> rfl); intro Ag hg wb4 hbox hb; have Av := gw_ (w := w) hg; have NE2_4 := hb3_ Ab hg; replace Ab := hb1_ Ab hb; replace HB := hb2_ hb; have Aa := A_ (hbox); clear hb hbox hg) | ((with_reducible refine d1_ 9 ?_); refine val_event rfl (.agg (#[.int .u64 0, .int .u64 0])) ?hr ?_; (case hr => go_simp <;> rfl)) | ((with_reducible refine d1_ 10 ?_); refine arr_load rfl rfl rfl rfl Ab.out Try.underlying113 rfl (hi113.trans (by rw [ub_size, HL.out])) ?_) | (go_at_call 113; (with_reducible refine (elem113 hh HL.out HY.out _).mono ?_); rintro e wc ⟨rfl, hb⟩; replace Ab := hb1_ Ab hb; replace Aa := hb1_ Aa hb; replace HB := hb2_ hb; clear hb) | ((with_reducible refine d1_ 5 ?_); refine bx_ 5 (#[.int .u64 0, .int .u64 0]) 139 rfl rfl ?hr ?_; (case hr => have hz := Try.zeroValue139; go_simp <;> rfl); intro Ae hg wb5 hbox hb; have Au := gw_ (w := w) hg; have NE2_5 := hb3_ Ab hg; have NE4_5 := hb3_ Aa hg; replace Ab := hb1_ Ab hb; replace Aa := hb1_ Aa hb; replace HB := hb2_ hb; have Ac := A_ (hbox); clear hb hbox hg) | ((with_reducible refine d1_ 6 ?_); refine bx_ 6 (#[.int .u64 0, .int .u64 0]) 139 rfl rfl ?hr ?_; (case hr => have hz := Try.zeroValue139; go_simp <;> rfl); intro Ah hg wb6 hbox hb; have Aw := gw_ (w := w) hg; have NE2_6 := hb3_ Ab hg; have NE4_6 := hb3_ Aa hg; have NE5_6 := hb3_ Ac hg; replace Ab := hb1_ Ab hb; replace Aa := hb1_ Aa hb; replace Ac := hb1_ Ac hb; replace HB := hb2_ hb; have Ad := A_ (hbox); clear hb hbox hg) | ((with_reducible refine s1_ 139 5 ?_); refine arr_store (cs' := #[.int .u64 0, .int .u64 0]) rfl rfl rfl rfl rfl Ac.out (hi139.trans (by rfl)) (by rfl) (by first | (simp [Value.oneCell']; done) | (simp; exact ⟨rfl, rfl⟩)) ?_; intro Ai hbs hgs; replace Ab := hb4_ Ab hgs NE2_5; replace Aa := hb4_ Aa hgs NE4_5; replace Ad := hb5_ Ad hgs NE5_6; replace HB := hb6_ HB hgs Au; replace Ac := A_ hbs; clear hbs hgs) | ((with_reducible refine s1_ 139 6 ?_); refine arr_store (cs' := #[.int .u64 (elo hh), .int .u64 (ehi hh)]) rfl rfl rfl rfl rfl Ad.out (hi139.trans (by rfl)) (by rfl) (by first | (simp [Value.oneCell']; done) | (simp; exact ⟨rfl, rfl⟩)) ?_; intro Aj hbs hgs; replace Ab := hb4_ Ab hgs NE2_6; replace Aa := hb4_ Aa hgs NE4_6; replace Ac := hb4_ Ac hgs NE5_6; replace HB := hb6_ HB hgs Aw; replace Ad := A_ hbs; clear hbs hgs))
  simp only [P4_]
  go_loopg [1] k (fun kq v1 w' => ∃ (A' : Option Addr) (c' : Nat) (l' : List Int) (s0 s1 : Int), v1 = .slice A' l'.length c' ∧ Aside0 (hashO (elo hh) (ehi hh) kq l' s0 s1 = some (r0, r1)) ∧ Aside0 (kq ≤ k) ∧ Aside0 (Kd.C (Kd.int .u8) w A' l'.length l') ∧ Aside0 (l'.length ≤ c') ∧ Aside0 (∀ x ∈ l', 0 ≤ x ∧ x ≤ 255) ∧ Aside0 (l'.length % 16 = 0 ∧ l'.length ≤ 9223372036854775807) ∧ Aside0 (0 ≤ s0 ∧ 0 ≤ s1) ∧ Aside0 (w'.heap[Ae]? = some (.cells #[.int .u64 s0, .int .u64 s1] 139 (0, 0))) ∧ Aside0 (w'.heap[Ah]? = some (.cells #[.int .u64 (elo hh), .int .u64 (ehi hh)] 139 (0, 0))) ∧ Aside0 (w'.heap[An]? = some (.cells (ub hh) 113 (0, 0))) ∧ Aside0 (w'.heap[Ag]? = some (.cells (ub (List.replicate 16 0)) 113 (0, 0))) ∧ Aside0 (Below w.heap.size w w'))
  case atStart => exact ⟨A, c, l, 0, 0, eq_b, H', ⟨Nat.le_refl _⟩, HR, HC, HYL, HM, ⟨by omega⟩, Ac, Ad, Ab, Aa, HB⟩
  case round =>
    clear Ab Aa Ac Ad HB H' HR HC HYL HM
    obtain ⟨A', c', l', s0, s1, rfl, HA, HK1, HR, HC, HYL, HM, HS, Ac, Ad, Ab, Aa, HB⟩ := hrel
    cases gk with
    | zero => exact absurd HA.out (by simp [hashO])
    | succ k1 =>
      have H := HA.out
      clear HA
      rw [hashO] at H
      by_cases c3 : 0 < l'.length
      · rw [if_pos c3] at H
        obtain ⟨⟨t0, t1⟩, Ao, H⟩ := Option.bind_eq_some_iff.1 H
        have A3 := A_ Ao
        have HTP := A_ (times_pos Ao)
        have H' := A_ (show hashO (elo hh) (ehi hh) k1 (l'.drop 16) t0 t1 = some (r0, r1) from H)
        clear Ao H
        have h16 : 16 ≤ l'.length := by have := HM.out; omega
        have Ap : decide (0 < (l'.length : Int)) = true := decide_eq_true (by omega)
        have Aq : (0 < (l'.length : Int)) = True := eq_true (by omega)
        have Ar : (0 < l'.length) = True := eq_true c3
        obtain ⟨i0, As, _, hsz, _⟩ := info_parts info5
        obtain ⟨hcut0, hA0, hC0⟩ := print_take_of (P := Try.prog) (Value.int .u8) 0 25 5 .i64 Try.underlying25 As hsz A' c' l' 16 (by omega) (by omega) HC.out
        obtain ⟨A1, hcut1, hA1, hC1⟩ := print_drop_of (P := Try.prog) (Value.int .u8) 0 25 5 .i64 Try.underlying25 As hsz A' c' l' 16 (by omega) (by omega) HC.out
        have Ax := A_ (show Kd.C (Kd.int .u8) w A' (l'.take 16).length (l'.take 16) from Kd.C_of_reads (h1 := fun _ => rfl) (hA0 _ (Kd.reads_of_C HR.out)))
        have Ay := A_ (show Kd.C (Kd.int .u8) w A1 (l'.drop 16).length (l'.drop 16) from Kd.C_of_reads (h1 := fun _ => rfl) (hA1 _ (Kd.reads_of_C HR.out)))
        have Az := A_ (show (l'.drop 16).length ≤ c' - 16 from hC1)
        have HLT := A_ (show (l'.take 16).length = 16 by rw [List.length_take]; omega)
        replace hcut0 : ∀ W : World, (Instr.slice 25 (.slice A' l'.length c') none (some (.int .i64 16)) none).run Try.prog W = .ok (.slice A' 16 c') W := fun W => (hcut0 W).trans (by rw [show (16 : Int).toNat = 16 from rfl, HLT.out])
        replace hcut1 : ∀ W : World, (Instr.slice 25 (.slice A' l'.length c') (some (.int .i64 16)) none none).run Try.prog W = .ok (.slice A1 (l'.drop 16).length (c' - 16)) W := hcut1
        have HYT := A_ (show ∀ x ∈ l'.take 16, 0 ≤ x ∧ x ≤ 255 from fun x hx => HYL.out x (List.mem_of_mem_take hx))
        have HYD := A_ (show ∀ x ∈ l'.drop 16, 0 ≤ x ∧ x ≤ 255 from fun x hx => HYL.out x (List.mem_of_mem_drop hx))
        have HMD := A_ (show (l'.drop 16).length % 16 = 0 ∧ (l'.drop 16).length ≤ 9223372036854775807 by rw [List.length_drop]; have := HM.out; omega)
        clear hA0 hA1 hC0 hC1 As hsz c3 h16 HR HC
        go_wp2_with (first | (go_at_call 114; (with_reducible refine (asBlock114 A' c' (l'.take 16) _ ?s1 HLT.out).mono ?_); (case s1 => exact Kd.C_below Ax.out below_a); rintro e wc ⟨rfl, hb⟩; replace Ab := hb1_ Ab hb; replace Aa := hb1_ Aa hb; replace Ac := hb1_ Ac hb; replace Ad := hb1_ Ad hb; replace HB := hb2_ hb; clear hb) | ((with_reducible refine d1_ 7 ?_); refine bx_ 7 (ub (List.replicate 16 0)) 113 rfl rfl ?hr ?_; (case hr => have hz := Try.zeroValue113; go_simp <;> rfl); intro A0 hg wb7 hbox hb; have A4 := gw_ (w := w) hg; have NE2_7 := hb3_ Ab hg; have NE4_7 := hb3_ Aa hg; have NE5_7 := hb3_ Ac hg; have NE6_7 := hb3_ Ad hg; replace Ab := hb1_ Ab hb; replace Aa := hb1_ Aa hb; replace Ac := hb1_ Ac hb; replace Ad := hb1_ Ad hb; replace HB := hb2_ hb; have Af := A_ (hbox); clear hb hbox hg) | ((with_reducible refine s1_ 113 7 ?_); refine arr_store (cs' := ub (l'.take 16)) rfl rfl rfl rfl rfl Af.out (hi113.trans (by rw [ub_size, HLT.out])) (by rw [ub_size, ub_size, HLT.out]; rfl) (ub_one _) ?_; intro Ak hbs hgs; replace Ab := hb4_ Ab hgs NE2_7; replace Aa := hb4_ Aa hgs NE4_7; replace Ac := hb4_ Ac hgs NE5_7; replace Ad := hb4_ Ad hgs NE6_7; replace HB := hb6_ HB hgs A4; replace Af := A_ hbs; clear hbs hgs))
        have hk5 := blk_drew (Ac.out)
        have hk6 := blk_drew (Ad.out)
        have hk2 := blk_drew (Ab.out)
        have hk4 := blk_drew (Aa.out)
        have hk7 := blk_drew (Af.out)
        have hkb := below_drew1 HB.out
        refine start_' 7 [6] #[false, false, false, false, false, false, false] (by kernel_rfl) rfl rfl (fun WD eWD => ?_)
        rw [← eWD] at hk5 hk6 hk2 hk4 hk7 hkb
        clear eWD Ab Aa Ac Ad Af HB
        have Ac := A_ hk5
        have Ad := A_ hk6
        have Af := A_ hk7
        have Ab := A_ hk2
        have Aa := A_ hk4
        have HB := A_ hkb
        have HS0 := A_ (Below.refl WD.heap.size WD)
        clear hk5 hk6 hk2 hk4 hk7 hkb
        refine take_ (i := 0) (N := some 23) (v := .agg (#[.int .u64 s0, .int .u64 s1])) (a' := ?_) #[true, false, false, false, false, false, false] rfl rfl (by kernel_rfl) (fun _ _ _ h => h) (load_yields rfl (by rfl) rfl (fun w' hs => blk_below (g := Ae) Ac.out hs) Try.underlying139 rfl (hi139.trans (by rfl))) HS0.out ?_ ?_
        rotate_left
        · simp only [P4_]
          rfl
        refine take_ (i := 1) (N := some 24) (v := .agg (ub (l'.take 16))) (a' := ?_) #[true, true, false, false, false, false, false] rfl rfl (by kernel_rfl) (fun _ _ _ h => h) (load_yields rfl (by rfl) rfl (fun w' hs => blk_below (g := A0) Af.out hs) Try.underlying113 rfl (hi113.trans (by rw [ub_size, HLT.out]))) HS0.out ?_ ?_
        rotate_left
        · simp only [P4_]
          rfl
        refine take_ (i := 4) (N := some 27) (v := .agg (#[.int .u64 (elo hh), .int .u64 (ehi hh)])) (a' := ?_) #[true, true, false, false, true, false, false] rfl rfl (by kernel_rfl) (fun _ _ _ h => h) (load_yields rfl (by rfl) rfl (fun w' hs => blk_below (g := Ah) Ad.out hs) Try.underlying139 rfl (hi139.trans (by rfl))) HS0.out ?_ ?_
        rotate_left
        · simp only [P4_]
          rfl
        refine one_ (i := 2) (N := some 25) #[true, true, true, false, true, false, false] rfl rfl (by kernel_rfl) (by decide) (fun K hK => ?_)
        refine gs_ Try.func113 #[.agg (ub (l'.take 16))] ?_
        refine (elem113 (l'.take 16) HLT.out HYT.out _).mono ?_
        rintro e A6 ⟨rfl, hb⟩
        refine ⟨_, rfl, ?_⟩
        replace HS0 := A_ (below_step HS0.out hb)
        clear hb
        refine hK.out _ _ HS0.out (fun hHeld => ?_)
        clear hK K hHeld
        refine norm_ (a' := ?_) ?_ ?_
        rotate_left
        · show Act.put _ (some 25) _ = _
          simp only [P4_]
          rfl
        refine one_ (i := 3) (N := some 26) #[true, true, true, true, true, false, false] rfl rfl (by kernel_rfl) (by decide) (fun K hK => ?_)
        refine gs_ Try.func115 #[.agg #[.int .u64 s0, .int .u64 s1], .agg #[.int .u64 (elo (l'.take 16)), .int .u64 (ehi (l'.take 16))]] ?_
        refine (impl_element_plus.calls s0 s1 (elo (l'.take 16)) (ehi (l'.take 16)) _ _ _ rfl).mono ?_
        rintro e A7 ⟨rfl, hb⟩
        refine ⟨_, rfl, ?_⟩
        replace HS0 := A_ (below_step HS0.out hb)
        clear hb
        refine hK.out _ _ HS0.out (fun hHeld => ?_)
        clear hK K hHeld
        refine norm_ (a' := ?_) ?_ ?_
        rotate_left
        · show Act.put _ (some 26) _ = _
          simp only [P4_]
          rfl
        refine one_ (i := 5) (N := some 28) #[true, true, true, true, true, true, false] rfl rfl (by kernel_rfl) (by decide) (fun K hK => ?_)
        refine gs_ Try.func116 #[.agg #[.int .u64 (Go.bits .xor .u64 s0 (elo (l'.take 16))), .int .u64 (Go.bits .xor .u64 s1 (ehi (l'.take 16)))], .agg #[.int .u64 (elo hh), .int .u64 (ehi hh)]] ?_
        refine (impl_element_times.calls k1 _ _ _ _ t0 t1 _ A3.out).mono ?_
        rintro e Al ⟨rfl, hb⟩
        refine ⟨_, rfl, ?_⟩
        replace HS0 := A_ (below_step HS0.out hb)
        clear hb
        refine hK.out _ _ HS0.out (fun hHeld => ?_)
        clear hK K hHeld
        refine norm_ (a' := ?_) ?_ ?_
        rotate_left
        · show Act.put _ (some 28) _ = _
          simp only [P4_]
          rfl
        refine last_ (i := 6) (N := none) #[true, true, true, true, true, true, true] rfl rfl (by kernel_rfl) (by decide) (fun K hK => ?_)
        have hk5 := blk_below (g := Ae) Ac.out HS0.out
        have hk6 := blk_below (g := Ah) Ad.out HS0.out
        have hk2 := blk_below (g := An) Ab.out HS0.out
        have hk4 := blk_below (g := Ag) Aa.out HS0.out
        have hkb := below_step HB.out HS0.out
        refine skip_ (w1 := Al.setRow Ae #[.int .u64 t0, .int .u64 t1]) (by rfl) rfl (store_runs rfl rfl rfl hk5 (hi139.trans (by rfl)) (by rfl) (by first | (simp [Value.oneCell']; done) | (simp; exact ⟨rfl, rfl⟩))) ?_
        have hgs := setRow_grown Al Ae #[.int .u64 t0, .int .u64 t1]
        clear Ab Aa Ac Ad Af HB
        have Ad := A_ (blk_grown (g := Ah) hk6 hgs (fun e_ => (Ne.symm NE5_6.out) (by injection e_)))
        have Ab := A_ (blk_grown (g := An) hk2 hgs (fun e_ => NE2_5.out (by injection e_)))
        have Aa := A_ (blk_grown (g := Ag) hk4 hgs (fun e_ => NE4_5.out (by injection e_)))
        have Ac := A_ (setRow_heap Al Ae _ #[.int .u64 t0, .int .u64 t1] 139 (0, 0) hk5)
        have HB := A_ (hkb.grown hgs hkb.size (fun k_ e_ => by injection e_ with e_; rw [← e_]; exact Au.out))
        generalize Al.setRow Ae #[.int .u64 t0, .int .u64 t1] = A8 at *
        refine hK.out _ _ ?_
        clear hK K hgs hk5 hk6 hk2 hk4 hkb
        refine done_ (by kernel_rfl) ?_
        go_wp2
        go_roundg k1
        case measure => have := HK1.out; omega
        case rel => exact ⟨A1, c' - 16, l'.drop 16, t0, t1, eq_b, H', ⟨by have := HK1.out; omega⟩, Ay, Az, HYD, HMD, HTP, Ac, Ad, Ab, Aa, HB⟩
      · rw [if_neg c3] at H
        have Ap : decide (0 < (l'.length : Int)) = false := decide_eq_false (by omega)
        have Aq : (0 < (l'.length : Int)) = False := eq_false (by omega)
        have Ar : (0 < l'.length) = False := eq_false (by omega)
        simp only [Option.some.injEq, Prod.mk.injEq] at H
        obtain ⟨rfl, rfl⟩ := H
        clear c3
        go_wp2_with (first | ((with_reducible refine d1_ 29 ?_); refine arr_load rfl rfl rfl rfl Ac.out Try.underlying139 rfl (hi139.trans (by rfl)) ?_) | (go_at_call 117; (with_reducible refine (blk117 s0 s1 HS.out.1 HS.out.2 _).mono ?_); rintro e wc ⟨rfl, hb⟩; replace Aa := hb1_ Aa hb; replace HB := hb2_ hb; clear hb) | ((with_reducible refine s1_ 113 4 ?_); refine arr_store (cs' := ub (bytv s0 s1)) rfl rfl rfl rfl rfl Aa.out (hi113.trans (by rw [ub_size, bytv_len])) (by rw [ub_size, ub_size, bytv_len]; rfl) (ub_one _) ?_; intro Am hbs hgs; replace HB := hb6_ HB hgs Av; replace Aa := A_ hbs; clear hbs hgs))
        refine bodyPost_ret (results_cell_row rfl _ _ Ag 113 (ub (bytv s0 s1)) (0, 0) _ rfl Aa.out Try.underlying113 rfl (hi113.trans (by rw [ub_size, bytv_len]))) rfl ?_
        exact ⟨rfl, HB.out⟩
def ctrb (b : List Int) : Nat → List Int
  | 0 => b
  | n + 1 => upv (ctrb b n)
theorem ctrb_len (b : List Int) (h : b.length = 16) (n : Nat) : (ctrb b n).length = 16 := by
  induction n with
  | zero => exact h
  | succ n ih => rw [ctrb, upv_len, ih]
def strf (ks b l : List Int) : Nat → Int := fun j => xr (rd l j) (rd (encv ks (ctrb b (j / 16))) ((j % 16 : Nat) : Int))
def strv (ks b l : List Int) : List Int := (List.range l.length).map (strf ks b l)
theorem mix_ge (f : Nat → Int) (l : List Int) (m : Nat) (h : l.length ≤ m) : mixTo f l m = (List.range l.length).map f := by
  unfold mixTo
  refine List.map_congr_left fun j hj => if_pos ?_
  have := List.mem_range.1 hj
  omega
theorem stream86 (gbc : Nat) (A : Option Addr) (c : Nat) (ks b l : List Int) (w : World) (hk : ks.length = 176) (hl : b.length = 16) (hr : Kd.C (Kd.int .u8) w A l.length l) (hc : l.length ≤ c) (hn : l.length ≤ 100000) (hcc : w.heap[gbc]? = some (.cells (ub ks) 135 (0, 0))) : Calls Try.prog 86 #[.pointer (some ⟨gbc, 0, none⟩), .agg (ub b), .slice A l.length c] w fun e w' => ∃ v, e = .returned v ∧ Kd.R (Kd.int .u8) 5 w' w.heap.size (fun _ => True) v (strv ks b l) ∧ Below w.heap.size w w' := by
  have hu113 := Try.underlying113
  have hz5 := Try.sizeOf5
  have HR := A_ hr
  have HC := A_ hc
  have HK := A_ hk
  have HL := A_ hl
  have HN := A_ hn
  have HF := A_ (show bytes_Clone.f l = some l by unfold bytes_Clone.f; rw [if_pos (by omega)])
  have BKc := A_ hcc
  have HLC := A_ (blk_lt hcc)
  have HB := A_ (Below.refl w.heap.size w)
  clear hr hc hl hk hn hcc
  go_enter Try.func86, Try.ntmps86
  go_wp2_with (first | ((with_reducible refine d1_ 4 ?_); refine bx_ 4 (ub b) 113 rfl rfl ?hr ?_; (case hr => go_simp <;> rfl); intro Af hg wb4 hbox hb; have Ak := gw_ (w := w) hg; have NEc_4 := hb3_ BKc hg; replace BKc := hb1_ BKc hb; replace HB := hb2_ hb; have Aa := A_ (hbox); clear hb hbox hg) | (go_at_call 105; (refine (bytes_Clone.calls _ _ l l _ ?s1 HC.out HF.out).mono ?_); (case s1 => exact Kd.C_below HR.out below_a); rintro e wc ⟨v7, rfl, ho, hb⟩; have HG4 := A_ (blk_lt Aa.out); have HSZ := A_ HB.out.size; replace BKc := hb1_ BKc hb; replace Aa := hb1_ Aa hb; replace HB := hb2_ hb; have HO := A_ ho; clear ho hb))
  obtain ⟨Ao, co, eo⟩ := Kd.R_slice HO.out
  subst eo
  have hB1 : ∃ B1, B1 = wb4.heap.size := ⟨_, rfl⟩
  obtain ⟨B1, hB1⟩ := hB1
  rw [← hB1] at HO HG4 HSZ
  clear hB1
  replace HO := A_ (show Kd.R (Kd.int .u8) 5 wc B1 (fun _ => True) (.slice Ao l.length co) (mixTo (strf ks b l) l 0) by rw [mix_zero]; exact HO.out)
  go_loopg [8] (l.length + 16) (fun kq v8 w' => ∃ (i : Int), v8 = .int .i64 i ∧ Aside0 (0 ≤ i ∧ i % 16 = 0 ∧ i ≤ (l.length : Int) + 15) ∧ Aside0 (kq = l.length + 16 - i.toNat) ∧ Aside0 (Kd.R (Kd.int .u8) 5 w' B1 (fun _ => True) (.slice Ao l.length co) (mixTo (strf ks b l) l i.toNat)) ∧ Aside0 (w'.heap[Af]? = some (.cells (ub (ctrb b (i / 16).toNat)) 113 (0, 0))) ∧ Aside0 (w'.heap[gbc]? = some (.cells (ub ks) 135 (0, 0))) ∧ Aside0 (Below w.heap.size w w'))
  case atStart => exact ⟨0, eq_b, ⟨by omega⟩, ⟨rfl⟩, HO, Aa, BKc, HB⟩
  case round =>
    clear HO Aa BKc HB
    obtain ⟨i, rfl, HI, HK1, HO, Aa, BKc, HB⟩ := hrel
    by_cases c4 : i < (l.length : Int)
    · have Ag : decide (i < (l.length : Int)) = true := decide_eq_true c4
      have Ad := A_ c4
      have HD := A_ (show ctrb b ((i + 16) / 16).toNat = upv (ctrb b (i / 16).toNat) by rw [show ((i + 16) / 16).toNat = (i / 16).toNat + 1 by have := HI.out; omega, ctrb])
      have HCL := A_ (ctrb_len b HL.out (i / 16).toNat)
      have HFX := A_ (show ∀ k : Int, i ≤ k → k < i + 16 → (strf ks b l) k.toNat = xr (rd l k) (rd (encv ks (ctrb b (i / 16).toNat)) (k - i)) by
        intro k h1 h2
        have := HI.out
        rw [strf, show ((k.toNat : Nat) : Int) = k by omega, show k.toNat / 16 = (i / 16).toNat by omega, show ((k.toNat % 16 : Nat) : Int) = k - i by omega])
      obtain ⟨go, Au, Am, An, gl1, Ap, HG1⟩ := Kd.R_form HO.out (by rw [mix_len]; have := HI.out; omega)
      injection Am with ea1 en1 ec1
      subst ea1
      subst ec1
      have hob : (Value.slice (some ⟨go, 0, none⟩) l.length co).ownBlock = some go := by first | rfl | simp [Value.ownBlock]
      have HOB := A_ hob
      have NEo_4 := A_ (show go ≠ Af from by have := HG4.out; omega)
      have NEc_o := A_ (show gbc ≠ go from by have := HLC.out; have := HSZ.out; omega)
      have HGW := A_ (show w.heap.size ≤ go from by have := HSZ.out; omega)
      have Ah : wrap64 (i + 16) = i + 16 := by have := HI.out; have := HN.out; unfold wrap64; omega
      have HW16 := A_ Ah
      generalize hcb : ctrb b (i / 16).toNat = cb at Aa HD HCL HFX
      clear hcb c4 hob en1 An HG1 Ap Ah
      go_wp2_with (first | ((with_reducible refine d1_ 20 ?_); refine arr_load rfl rfl rfl rfl Aa.out Try.underlying113 rfl (hi113.trans (by rw [ub_size, HCL.out])) ?_) | (go_at_call 108; (with_reducible refine (enc108 gbc ks cb HK.out HCL.out _ BKc.out).mono ?_); rintro e wc ⟨rfl, hb⟩; replace BKc := hb1_ BKc hb; replace Aa := hb1_ Aa hb; replace HO := A_ (Kd.R_below HO.out hb); replace HB := hb2_ hb; clear hb) | ((with_reducible refine d1_ 9 ?_); refine bx_ 9 (ub (List.replicate 16 0)) 113 rfl rfl ?hr ?_; (case hr => have hz := Try.zeroValue113; go_simp <;> rfl); intro Ai hg wb9 hbox hb; have Aq := gw_ (w := w) hg; have NEc_9 := hb3_ BKc hg; have NE4_9 := hb3_ Aa hg; replace BKc := hb1_ BKc hb; replace Aa := hb1_ Aa hb; have NEo_9 := A_ (show go ≠ Ai from by rw [hg]; exact Nat.ne_of_lt (Kd.R_lt HO.out go HOB.out)); replace HO := A_ (Kd.R_below HO.out hb); replace HB := hb2_ hb; have Ab := A_ (hbox); clear hb hbox hg) | ((with_reducible refine s1_ 113 9 ?_); refine arr_store (cs' := ub (encv ks cb)) rfl rfl rfl rfl rfl Ab.out (hi113.trans (by rw [ub_size, encv_len])) (by rw [ub_size, ub_size, encv_len]; rfl) (ub_one _) ?_; intro Ae hbs hgs; replace BKc := hb4_ BKc hgs NEc_9; replace Aa := hb4_ Aa hgs NE4_9; replace HO := A_ (Kd.R_grown1 HO.out rfl hgs (fun e_ => NEo_9.out (by rw [HOB.out] at e_; injection e_ with e_; exact e_.symm))); replace HB := hb6_ HB hgs Aq; replace Ab := A_ hbs; clear hbs hgs))
      go_loopg [10] 16 (fun kq Ar w' => ∃ (k : Int), Ar = .int .i64 k ∧ Aside0 (i ≤ k ∧ k ≤ i + 16 ∧ k ≤ (l.length : Int)) ∧ Aside0 (kq = (i + 16 - k).toNat) ∧ Aside0 (Kd.R (Kd.int .u8) 5 w' B1 (fun _ => True) (.slice (some ⟨go, 0, none⟩) l.length co) (mixTo (strf ks b l) l k.toNat)) ∧ Aside0 (w'.heap[Ai]? = some (.cells (ub (encv ks cb)) 113 (0, 0))) ∧ Aside0 (w'.heap[Af]? = some (.cells (ub cb) 113 (0, 0))) ∧ Aside0 (w'.heap[gbc]? = some (.cells (ub ks) 135 (0, 0))) ∧ Aside0 (Below w.heap.size w w'))
      case atStart => exact ⟨i, eq_b, ⟨by have := Ad.out; omega⟩, ⟨by omega⟩, HO, Ab, Aa, BKc, HB⟩
      case round =>
        clear HO Ab Aa BKc HB
        obtain ⟨k, rfl, HJ, HK2, HO, Ab, Aa, BKc, HB⟩ := hrel
        have Ah : wrap64 (i + 16) = i + 16 := HW16.out
        have w16b : IntKind.i64.wrap (i + 16) = i + 16 := by rw [i64_w]; exact HW16.out
        by_cases ca : k < (l.length : Int)
        · by_cases cb_ : k < i + 16
          · have Al : decide (k < (l.length : Int)) = true := decide_eq_true ca
            have As : decide (k < i + 16) = true := decide_eq_true cb_
            have HCA := A_ ca
            have HCB := A_ cb_
            obtain ⟨k1, rfl⟩ : ∃ k1, gk = k1 + 1 := ⟨gk - 1, by have := HK2.out; omega⟩
            have hk0 : 0 ≤ k := by have := HJ.out; have := HI.out; omega
            obtain ⟨Aj, Av⟩ := Kd.R_celln 0 HO.out k hk0 ca
            replace Aj : wr.cell? ⟨go, k.toNat, none⟩ = some (.int .u8 (rd (mixTo (strf ks b l) l k.toNat) k)) := Aj
            have hrk : rd (mixTo (strf ks b l) l k.toNat) k = rd l k := by
              have := mix_rd (strf ks b l) l k.toNat k.toNat (by omega)
              rw [if_neg (by omega), show ((k.toNat : Nat) : Int) = k by omega] at this
              exact this
            rw [hrk] at Aj
            have Aw : wr.cell? ⟨Ai, (k - i).toNat, none⟩ = some (.int .u8 (rd (encv ks cb) (k - i))) := blk_ub Ab.out (k - i) (by have := HJ.out; omega) (by rw [encv_len]; omega)
            have p1 : (0 ≤ k) = True := eq_true hk0
            have q1 : (k < (l.length : Int)) = True := eq_true ca
            have p2 : (0 ≤ k - i) = True := eq_true (by have := HJ.out; omega)
            have p3 : (i ≤ k) = True := eq_true HJ.out.1
            have q2 : (k - i < 16) = True := eq_true (by omega)
            have w1 : wrap64 (k - i) = k - i := by have := HJ.out; have := HI.out; have := HN.out; unfold wrap64; omega
            have w1b : IntKind.i64.wrap (k - i) = k - i := by rw [i64_w]; exact w1
            have HST := A_ (Kd.R_putg HO.out k (xr (rd l k) (rd (encv ks cb) (k - i))))
            have HSU := A_ (show (mixTo (strf ks b l) l k.toNat).set k.toNat (xr (rd l k) (rd (encv ks cb) (k - i))) = mixTo (strf ks b l) l (k + 1).toNat by
              rw [← HFX.out k HJ.out.1 cb_, mix_succ _ _ _ (by omega), show (k + 1).toNat = k.toNat + 1 by omega])
            have HWK := A_ (show wrap64 (k + 1) = k + 1 by have := HN.out; unfold wrap64; omega)
            clear ca cb_ hrk hk0
            go_wp2
            go_big_region
            go_wp2
            go_roundg k1
            case measure => have := HK2.out; omega
            case rel => exact ⟨k + 1, (by first | rfl | rw [HWK.out]), ⟨by have := HJ.out; have := HCA.out; have := HCB.out; omega⟩, ⟨by have := HK2.out; have := HCB.out; omega⟩, ⟨by have h_ := HST.out.1; rw [HSU.out] at h_; exact Kd.R_drew h_⟩, ⟨blk_far Ab.out (Ne.symm NEo_9.out) _⟩, ⟨blk_far Aa.out (Ne.symm NEo_4.out) _⟩, ⟨blk_far BKc.out NEc_o.out _⟩, ⟨(below_set HB.out HGW.out).drew⟩⟩
          · have Al : decide (k < (l.length : Int)) = true := decide_eq_true ca
            have As : decide (k < i + 16) = false := decide_eq_false cb_
            have HEX := A_ (show mixTo (strf ks b l) l k.toNat = mixTo (strf ks b l) l (i + 16).toNat from (by rw [show k = i + 16 by have := HJ.out; omega]))
            replace HO := A_ (show Kd.R (Kd.int .u8) 5 wr B1 (fun _ => True) (.slice (some ⟨go, 0, none⟩) l.length co) (mixTo (strf ks b l) l (i + 16).toNat) by rw [← HEX.out]; exact HO.out)
            clear ca cb_
            go_wp2_with (first | ((with_reducible refine d1_ 46 ?_); refine arr_load rfl rfl rfl rfl Aa.out Try.underlying113 rfl (hi113.trans (by rw [ub_size, HCL.out])) ?_) | (go_at_call 88; (with_reducible refine (up88 cb HCL.out _).mono ?_); rintro e wc ⟨rfl, hb⟩; replace BKc := hb1_ BKc hb; replace Aa := hb1_ Aa hb; replace Ab := hb1_ Ab hb; replace HO := A_ (Kd.R_below HO.out hb); replace HB := hb2_ hb; clear hb) | ((with_reducible refine s1_ 113 4 ?_); refine arr_store (cs' := ub (upv cb)) rfl rfl rfl rfl rfl Aa.out (hi113.trans (by rw [ub_size, upv_len, HCL.out])) (by rw [ub_size, ub_size, upv_len]) (ub_one _) ?_; intro Ac hbs hgs; replace BKc := hb4_ BKc hgs NEc_4; replace Ab := hb5_ Ab hgs NE4_9; replace HO := A_ (Kd.R_grown1 HO.out rfl hgs (fun e_ => NEo_4.out (by rw [HOB.out] at e_; injection e_ with e_; exact e_.symm))); replace HB := hb6_ HB hgs Ak; replace Aa := A_ hbs; clear hbs hgs))
            go_roundg (l.length - i.toNat)
            case measure => have := HK1.out; have := HI.out; have := Ad.out; omega
            case rel => exact ⟨i + 16, (by first | rfl | rw [HW16.out]), ⟨by have := HI.out; have := Ad.out; omega⟩, ⟨by have := HI.out; omega⟩, HO, ⟨by rw [HD.out]; exact Aa.out⟩, BKc, HB⟩
        · have Al : decide (k < (l.length : Int)) = false := decide_eq_false ca
          have cb_ : True := trivial
          have HEX := A_ (show mixTo (strf ks b l) l k.toNat = mixTo (strf ks b l) l (i + 16).toNat from (by rw [mix_ge _ _ _ (by have := HJ.out; omega), mix_ge _ _ _ (by have := HJ.out; omega)]))
          replace HO := A_ (show Kd.R (Kd.int .u8) 5 wr B1 (fun _ => True) (.slice (some ⟨go, 0, none⟩) l.length co) (mixTo (strf ks b l) l (i + 16).toNat) by rw [← HEX.out]; exact HO.out)
          clear ca cb_
          go_wp2_with (first | ((with_reducible refine d1_ 46 ?_); refine arr_load rfl rfl rfl rfl Aa.out Try.underlying113 rfl (hi113.trans (by rw [ub_size, HCL.out])) ?_) | (go_at_call 88; (with_reducible refine (up88 cb HCL.out _).mono ?_); rintro e wc ⟨rfl, hb⟩; replace BKc := hb1_ BKc hb; replace Aa := hb1_ Aa hb; replace Ab := hb1_ Ab hb; replace HO := A_ (Kd.R_below HO.out hb); replace HB := hb2_ hb; clear hb) | ((with_reducible refine s1_ 113 4 ?_); refine arr_store (cs' := ub (upv cb)) rfl rfl rfl rfl rfl Aa.out (hi113.trans (by rw [ub_size, upv_len, HCL.out])) (by rw [ub_size, ub_size, upv_len]) (ub_one _) ?_; intro Ac hbs hgs; replace BKc := hb4_ BKc hgs NEc_4; replace Ab := hb5_ Ab hgs NE4_9; replace HO := A_ (Kd.R_grown1 HO.out rfl hgs (fun e_ => NEo_4.out (by rw [HOB.out] at e_; injection e_ with e_; exact e_.symm))); replace HB := hb6_ HB hgs Ak; replace Aa := A_ hbs; clear hbs hgs))
          go_roundg (l.length - i.toNat)
          case measure => have := HK1.out; have := HI.out; have := Ad.out; omega
          case rel => exact ⟨i + 16, (by first | rfl | rw [HW16.out]), ⟨by have := HI.out; have := Ad.out; omega⟩, ⟨by have := HI.out; omega⟩, HO, ⟨by rw [HD.out]; exact Aa.out⟩, BKc, HB⟩
    · have Ag : decide (i < (l.length : Int)) = false := decide_eq_false c4
      have HE := A_ (mix_ge (strf ks b l) l i.toNat (by omega))
      clear c4
      go_wp2
      go_ret
      exact ⟨_, rfl, by have h_ := HO.out; rw [HE.out] at h_; exact Kd.R_lower h_ HSZ.out, HB.out⟩
def zr16 : List Int := List.replicate 16 0
theorem zr16_len : zr16.length = 16 := rfl
def xrf (a b : List Int) : Nat → Int := fun j => xr (rd a j) (rd b j)
def xrl (a b : List Int) : List Int := (List.range 16).map (xrf a b)
theorem xrl_len (a b : List Int) : (xrl a b).length = 16 := by simp [xrl]
def tagO (k : Nat) (ks nonce extra hid : List Int) : Option (List Int) :=
  (impl_word.f k (8 * (extra.length : Int)) 8).bind fun a => (impl_word.f k (8 * (hid.length : Int)) 8).bind fun b => if a.length + b.length < 140737488355328 then
    (impl_whole.f extra).bind fun e => (impl_whole.f hid).bind fun h => (slices_Concat_byte_byte.f k [e, h, a ++ b]).bind fun m =>
      if m.length % 16 = 0 ∧ m.length ≤ 9223372036854775807 ∧ ∀ x ∈ m, 0 ≤ x ∧ x ≤ 255 then (hashO (elo (encv ks zr16)) (ehi (encv ks zr16)) k m 0 0).bind fun s => some (xrl (encv ks (startv nonce)) (bytv s.1 s.2)) else none
    else none
theorem add_zero (g : Nat) (j : Nat) : (Addr.add ⟨g, 0, none⟩ j) = ⟨g, j, none⟩ := by
  by_cases hj0 : j = 0
  · subst hj0; rfl
  · simp [Addr.add, hj0]
theorem C_rows3 {W : World} {g t : Nat} {l1 l2 l3 : List Int} {A1 A2 A3 : Option Addr} {c1 c2 c3 : Nat} (h : W.heap[g]? = some (.cells #[.slice A1 l1.length c1, .slice A2 l2.length c2, .slice A3 l3.length c3] t (0, 0))) (h1 : Kd.C (Kd.int .u8) W A1 l1.length l1) (h2 : Kd.C (Kd.int .u8) W A2 l2.length l2) (h3 : Kd.C (Kd.int .u8) W A3 l3.length l3) (k1 : l1.length ≤ c1) (k2 : l2.length ≤ c2) (k3 : l3.length ≤ c3) : Kd.C (Kd.slice 5 (Kd.int .u8)) W (some ⟨g, 0, none⟩) [l1, l2, l3].length [l1, l2, l3] := by
  refine ⟨rfl, (by show 3 ≤ 9223372036854775807; decide), fun _ => ⟨_, rfl, fun j p hp => ?_⟩⟩
  have hj : j < 3 := (List.getElem?_eq_some_iff.1 hp).1
  have h01 : j = 0 ∨ j = 1 ∨ j = 2 := by omega
  have hk : ∀ (i : Nat) (u : Value) (z : Value), [z][i]? = some u → i = 0 ∧ u = z := by
    intro i u z hu
    cases i with
    | zero => exact ⟨rfl, by simpa using hu.symm⟩
    | succ i => simp at hu
  rcases h01 with rfl | rfl | rfl
  · obtain rfl : l1 = p := by simpa using hp
    refine ⟨[.slice A1 l1.length c1], rfl, ⟨A1, c1, rfl, k1, h1⟩, fun i u hu => ?_⟩
    obtain ⟨rfl, rfl⟩ := hk i u _ hu
    rw [add_zero]
    exact (blk_cell h _).trans rfl
  · obtain rfl : l2 = p := by simpa using hp
    refine ⟨[.slice A2 l2.length c2], rfl, ⟨A2, c2, rfl, k2, h2⟩, fun i u hu => ?_⟩
    obtain ⟨rfl, rfl⟩ := hk i u _ hu
    rw [add_zero]
    exact (blk_cell h _).trans rfl
  · obtain rfl : l3 = p := by simpa using hp
    refine ⟨[.slice A3 l3.length c3], rfl, ⟨A3, c3, rfl, k3, h3⟩, fun i u hu => ?_⟩
    obtain ⟨rfl, rfl⟩ := hk i u _ hu
    rw [add_zero]
    exact (blk_cell h _).trans rfl
theorem concat3 (k g : Nat) (l1 l2 l3 r : List Int) (W : World) (hr : Kd.C (Kd.slice 5 (Kd.int .u8)) W (some ⟨g, 0, none⟩) [l1, l2, l3].length [l1, l2, l3]) (h : slices_Concat_byte_byte.f k [l1, l2, l3] = some r) :
    Calls Try.prog 56 #[.slice (some ⟨g, 0, none⟩) 3 3] W fun e w' => ∃ v0_ : Value, e = .returned (v0_) ∧ Kd.R (Kd.int .u8) 5 w' W.heap.size (fun _ => True) v0_ r ∧ Below W.heap.size W w' := slices_Concat_byte_byte.calls k (some ⟨g, 0, none⟩) 3 [l1, l2, l3] r W hr (by simp) h
theorem tag85 (k gbc : Nat) (An : Option Addr) (cn : Nat) (Ae : Option Addr) (ce : Nat) (Ah : Option Addr) (ch : Nat) (ks nonce extra hid r : List Int) (w : World) (hk : ks.length = 176) (hrn : Kd.C (Kd.int .u8) w An nonce.length nonce) (hn : nonce.length = 12) (hre : Kd.C (Kd.int .u8) w Ae extra.length extra) (hce : extra.length ≤ ce) (hrh : Kd.C (Kd.int .u8) w Ah hid.length hid) (hch : hid.length ≤ ch) (hle : extra.length ≤ 100000) (hlh : hid.length ≤ 100000) (hcc : w.heap[gbc]? = some (.cells (ub ks) 135 (0, 0))) (h : tagO k ks nonce extra hid = some r) : Calls Try.prog 85 #[.pointer (some ⟨gbc, 0, none⟩), .slice An nonce.length cn, .slice Ae extra.length ce, .slice Ah hid.length ch] w fun e w' => ∃ g, e = .returned (.slice (some ⟨g, 0, none⟩) 16 16) ∧ w'.heap[g]? = some (.cells (ub r) 113 (0, 0)) ∧ r.length = 16 ∧ w.heap.size ≤ g ∧ Below w.heap.size w w' := by
  have hu113 := Try.underlying113
  have hu25 := Try.underlying25
  have hu119 := Try.underlying119
  have hz5 := Try.sizeOf5
  unfold tagO at h
  obtain ⟨a, ha1, h⟩ := Option.bind_eq_some_iff.1 h
  obtain ⟨b, ha2, h⟩ := Option.bind_eq_some_iff.1 h
  by_cases hal : a.length + b.length < 140737488355328
  rotate_left
  · rw [if_neg hal] at h; cases h
  rw [if_pos hal] at h
  obtain ⟨e1, ha3, h⟩ := Option.bind_eq_some_iff.1 h
  obtain ⟨h1, ha4, h⟩ := Option.bind_eq_some_iff.1 h
  obtain ⟨m, ha5, h⟩ := Option.bind_eq_some_iff.1 h
  by_cases hmb : m.length % 16 = 0 ∧ m.length ≤ 9223372036854775807 ∧ ∀ x ∈ m, 0 ≤ x ∧ x ≤ 255
  rotate_left
  · rw [if_neg hmb] at h; cases h
  rw [if_pos hmb] at h
  obtain ⟨⟨s0, s1⟩, ha6, h⟩ := Option.bind_eq_some_iff.1 h
  obtain ⟨ab, hab⟩ : ∃ ab, ab = a ++ b := ⟨_, rfl⟩
  rw [← hab] at ha5
  have HAB := A_ hab
  clear hab
  replace h : some (xrl (encv ks (startv nonce)) (bytv s0 s1)) = some r := h
  obtain rfl := Option.some.inj h
  have HA1 := A_ ha1
  have HA2 := A_ ha2
  have HA3 := A_ ha3
  have HA4 := A_ ha4
  have HA5 := A_ ha5
  have HA6 := A_ ha6
  have HAL := A_ hal
  have HMB := A_ hmb
  have HRn := A_ hrn
  have HNN := A_ hn
  have HRe := A_ hre
  have HCe := A_ hce
  have HRh := A_ hrh
  have HCh := A_ hch
  have HK := A_ hk
  have HCC := A_ hcc
  have HB := A_ (Below.refl w.heap.size w)
  have we1 : wrap64 (8 * (extra.length : Int)) = 8 * (extra.length : Int) := by unfold wrap64; omega
  have we2 : IntKind.i64.wrap (8 * (extra.length : Int)) = 8 * (extra.length : Int) := by rw [i64_w]; exact we1
  have wh1 : wrap64 (8 * (hid.length : Int)) = 8 * (hid.length : Int) := by unfold wrap64; omega
  have wh2 : IntKind.i64.wrap (8 * (hid.length : Int)) = 8 * (hid.length : Int) := by rw [i64_w]; exact wh1
  clear hk hrn hn hre hce hrh hch hle hlh hcc h ha1 ha2 ha3 ha4 ha5 ha6 hal hmb
  go_enter Try.func85, Try.ntmps85
  go_wp2_with (first | ((with_reducible refine f1_ 70 ?_); refine gl_ (some 16) Try.func70 #[.int .i64 (8 * (extra.length : Int)), .int .i64 8] ?_; (with_reducible refine (impl_word.calls k _ _ a _ HA1.out).mono ?_); rintro e wc16 ⟨A0, rfl, ho, hb⟩; refine ⟨_, rfl, ?_⟩; have Af := A_ (Kd.R_lower ho HB.out.size); clear ho; replace HB := hb2_ hb; clear hb) | ((with_reducible refine f1_ 70 ?_); refine gl_ (some 20) Try.func70 #[.int .i64 (8 * (hid.length : Int)), .int .i64 8] ?_; (with_reducible refine (impl_word.calls k _ _ b _ HA2.out).mono ?_); rintro e wc20 ⟨Bf, rfl, ho, hb⟩; refine ⟨_, rfl, ?_⟩; obtain ⟨Bg, Bh, A1⟩ := Kd.R_slice ho; subst A1; have Ak := A_ (Kd.R_reads' ho).2.2; have Aq := A_ (Kd.R_reads' ho).2.1; clear ho; replace Af := A_ (Kd.R_below Af.out hb); replace HB := hb2_ hb; clear hb) | ((with_reducible refine gate_builtin (b := .append) (xs := #[.tmp 16, .tmp 20]) rfl ?_); at_builtin; refine Kd.R_append_rows (Kd.int .u8) (w0 := w) w.heap.size rfl (.tmp 16) (.tmp 20) 25 5 (.int .u8 0) 1 rfl Try.underlying25 info5 rfl (by decide) (by omega) A0 a b _ _ _ (fun _ => True) (fun _ => False) rfl rfl ?aO ?aR (fun _ _ h => h) (fun _ h => h.elim) ?aF ?aB ?aS ?aL ?_; (case aR => exact Ak.out); (case aB => exact HB.out); (case aF => exact (fun _ _ => trivial)); (case aO => exact Af.out); (case aS => exact HB.out.size); (case aL => have := HAL.out; omega); intro Bi Bj ho hb hg hat; clear Af Ak Aq hg hat HB; have HB := A_ hb; rw [← HAB.out] at ho; obtain ⟨A9, c9, e9⟩ := Kd.R_slice ho; subst e9; have Ag := A_ (Kd.R_reads' ho).2.2; have A3 := A_ (Kd.R_reads' ho).2.1; clear ho; clear hb) | ((with_reducible refine d1_ 23 ?_); refine val_event rfl (.agg (ub zr16)) ?hr ?_; (case hr => have hz := Try.zeroValue113; go_simp <;> rfl)) | ((with_reducible refine f1_ 108 ?_); refine gl_ (some 24) Try.func108 #[.pointer (some ⟨gbc, 0, none⟩), .agg (ub zr16)] ?_; (with_reducible refine (enc108 gbc ks zr16 HK.out zr16_len _ (blk_below (g := gbc) HCC.out HB.out)).mono ?_); rintro e wc24 ⟨rfl, hb⟩; refine ⟨_, rfl, ?_⟩; replace Ag := A_ (Kd.C_below Ag.out hb); replace HB := hb2_ hb; clear hb) | ((with_reducible refine f1_ 109 ?_); refine gl_ (some 26) Try.func109 #[.slice Ae extra.length ce] ?_; (with_reducible refine (impl_whole.calls _ _ extra e1 _ ?s1 HCe.out HA3.out).mono ?_); (case s1 => exact Kd.C_below HRe.out below_a); rintro e wc26 ⟨Bk, rfl, ho, hb⟩; refine ⟨_, rfl, ?_⟩; obtain ⟨A4, A5, A6⟩ := Kd.R_slice ho; subst A6; have Ac := A_ (Kd.R_reads' ho).2.2; have Ar := A_ (Kd.R_reads' ho).2.1; clear ho; replace Ag := A_ (Kd.C_below Ag.out hb); replace HB := hb2_ hb; clear hb) | ((with_reducible refine f1_ 109 ?_); refine gl_ (some 28) Try.func109 #[.slice Ah hid.length ch] ?_; (with_reducible refine (impl_whole.calls _ _ hid h1 _ ?s1 HCh.out HA4.out).mono ?_); (case s1 => exact Kd.C_below HRh.out below_a); rintro e wc28 ⟨Bl, rfl, ho, hb⟩; refine ⟨_, rfl, ?_⟩; obtain ⟨A7, A8, Ba⟩ := Kd.R_slice ho; subst Ba; have Ai := A_ (Kd.R_reads' ho).2.2; have As := A_ (Kd.R_reads' ho).2.1; clear ho; replace Ag := A_ (Kd.C_below Ag.out hb); replace Ac := A_ (Kd.C_below Ac.out hb); replace HB := hb2_ hb; clear hb) | ((with_reducible refine d1_ 30 ?_); refine sl_event ?hg (N := 30) ?hd (cs := #[.slice A4 e1.length A5, .slice A7 h1.length A8, .slice A9 ab.length c9]) (t := 25) (n := 3) ?hr ?_; (case hd => rfl); (case hg => rfl); (case hr => go_simp <;> rfl); intro Al hg wb30 hbox hb; have Au := A_ hbox; clear hbox hg; replace Ag := A_ (Kd.C_below Ag.out hb); replace Ac := A_ (Kd.C_below Ac.out hb); replace Ai := A_ (Kd.C_below Ai.out hb); replace HB := hb2_ hb; clear hb) | ((with_reducible refine f1_ 56 ?_); refine gl_ (some 31) Try.func56 #[.slice (some ⟨Al, 0, none⟩) 3 3] ?_; (with_reducible refine (concat3 k Al e1 h1 ab m _ ?s1 HA5.out).mono ?_); (case s1 => exact C_rows3 Au.out Ac.out Ai.out Ag.out Ar.out As.out A3.out); rintro e wc31 ⟨Bm, rfl, ho, hb⟩; refine ⟨_, rfl, ?_⟩; obtain ⟨Bb, Bc, Bd⟩ := Kd.R_slice ho; subst Bd; have Av := A_ (Kd.R_reads' ho).2.2; have Aw := A_ (Kd.R_reads' ho).2.1; clear ho; replace HB := hb2_ hb; clear hb) | ((with_reducible refine f1_ 107 ?_); refine gl_ (some 32) Try.func107 #[.agg (ub (encv ks zr16)), .slice Bb m.length Bc] ?_; (with_reducible refine (hash107 k _ _ (encv ks zr16) m s0 s1 _ Av.out Aw.out (encv_len _ _) (encv_byte _ _) HMB.out.2.2 HMB.out.1 HMB.out.2.1 HA6.out).mono ?_); rintro e wc32 ⟨rfl, hb⟩; refine ⟨_, rfl, ?_⟩; replace HB := hb2_ hb; clear hb) | ((with_reducible refine d1_ 10 ?_); refine bx_ 10 (ub (List.replicate 16 0)) 113 rfl rfl ?hr ?_; (case hr => have hz := Try.zeroValue113; go_simp <;> rfl); intro Am hg wb10 hbox hb; have Ax := gw_ (w := w) hg; replace HB := hb2_ hb; have Aa := A_ (hbox); clear hb hbox hg) | ((with_reducible refine s1_ 113 10 ?_); refine arr_store (cs' := ub (bytv s0 s1)) rfl rfl rfl rfl rfl Aa.out (hi113.trans (by rw [ub_size, bytv_len])) (by rw [ub_size, ub_size, bytv_len]; rfl) (ub_one _) ?_; intro Ao hbs hgs; replace HB := hb6_ HB hgs Ax; replace Aa := A_ hbs; clear hbs hgs) | ((with_reducible refine f1_ 87 ?_); refine gl_ (some 35) Try.func87 #[.slice An nonce.length cn] ?_; (with_reducible refine (start87 _ _ nonce _ ?s1 HNN.out).mono ?_); (case s1 => exact Kd.C_below HRn.out below_a); rintro e wc35 ⟨rfl, hb⟩; refine ⟨_, rfl, ?_⟩; replace Aa := hb1_ Aa hb; replace HB := hb2_ hb; clear hb) | ((with_reducible refine f1_ 108 ?_); refine gl_ (some 36) Try.func108 #[.pointer (some ⟨gbc, 0, none⟩), .agg (ub (startv nonce))] ?_; (with_reducible refine (enc108 gbc ks (startv nonce) HK.out (startv_len _ HNN.out) _ (blk_below (g := gbc) HCC.out HB.out)).mono ?_); rintro e wc36 ⟨rfl, hb⟩; refine ⟨_, rfl, ?_⟩; replace Aa := hb1_ Aa hb; replace HB := hb2_ hb; clear hb) | ((with_reducible refine d1_ 11 ?_); refine bx_ 11 (ub (List.replicate 16 0)) 113 rfl rfl ?hr ?_; (case hr => have hz := Try.zeroValue113; go_simp <;> rfl); intro Ad hg wb11 hbox hb; have Aj := gw_ (w := w) hg; have NE10_11 := hb3_ Aa hg; replace Aa := hb1_ Aa hb; replace HB := hb2_ hb; have Ab := A_ (hbox); clear hb hbox hg) | ((with_reducible refine s1_ 113 11 ?_); refine arr_store (cs' := ub (encv ks (startv nonce))) rfl rfl rfl rfl rfl Ab.out (hi113.trans (by rw [ub_size, encv_len])) (by rw [ub_size, ub_size, encv_len]; rfl) (ub_one _) ?_; intro Ap hbs hgs; replace Aa := hb4_ Aa hgs NE10_11; replace HB := hb6_ HB hgs Aj; replace Ab := A_ hbs; clear hbs hgs))
  go_loopg [37] 16 (fun kq Be w' => ∃ (x : Int), Be = .int .i64 x ∧ Aside0 (0 ≤ x ∧ x ≤ 16) ∧ Aside0 (kq = 16 - x.toNat) ∧ Aside0 (w'.heap[Ad]? = some (.cells (ub (mixTo (xrf (encv ks (startv nonce)) (bytv s0 s1)) (encv ks (startv nonce)) x.toNat)) 113 (0, 0))) ∧ Aside0 (w'.heap[Am]? = some (.cells (ub (bytv s0 s1)) 113 (0, 0))) ∧ Aside0 (Below w.heap.size w w'))
  case atStart => exact ⟨0, eq_b, ⟨by omega⟩, ⟨rfl⟩, ⟨by rw [show (0 : Int).toNat = 0 from rfl, mix_zero]; exact Ab.out⟩, Aa, HB⟩
  case round =>
    clear Ab Aa HB
    obtain ⟨x, rfl, HI, HK1, Ab, Aa, HB⟩ := hrel
    by_cases c4 : x < 16
    · have Ay : decide (x < 16) = true := decide_eq_true c4
      have Az := A_ c4
      obtain ⟨k1, rfl⟩ : ∃ k1, gk = k1 + 1 := ⟨gk - 1, by have := HK1.out; have := HI.out; omega⟩
      have hrk : rd (mixTo (xrf (encv ks (startv nonce)) (bytv s0 s1)) (encv ks (startv nonce)) x.toNat) x = rd (encv ks (startv nonce)) x := by
        have := mix_rd (xrf (encv ks (startv nonce)) (bytv s0 s1)) (encv ks (startv nonce)) x.toNat x.toNat (by rw [encv_len]; have := HI.out; omega)
        rw [if_neg (by omega), show ((x.toNat : Nat) : Int) = x by have := HI.out; omega] at this
        exact this
      have hxa : wr.cell? ⟨Ad, x.toNat, none⟩ = some (.int .u8 (rd (encv ks (startv nonce)) x)) := (blk_ub Ab.out x HI.out.1 (by rw [mix_len, encv_len]; omega)).trans (by rw [hrk])
      have hfa : wr.frozen? ⟨Ad, x.toNat, none⟩ = false := blk_frozen Ab.out _
      have hxb : wr.cell? ⟨Am, x.toNat, none⟩ = some (.int .u8 (rd (bytv s0 s1) x)) := blk_ub Aa.out x HI.out.1 (by rw [bytv_len]; omega)
      have p1 : (0 ≤ x) = True := eq_true HI.out.1
      have q1 : (x < 16) = True := eq_true c4
      have HFX := A_ (show (xrf (encv ks (startv nonce)) (bytv s0 s1)) x.toNat = xr (rd (encv ks (startv nonce)) x) (rd (bytv s0 s1) x) by rw [xrf, show ((x.toNat : Nat) : Int) = x by have := HI.out; omega])
      have HWK := A_ (show wrap64 (x + 1) = x + 1 by have := HI.out; unfold wrap64; omega)
      clear c4 hrk
      go_wp2
      go_big_region
      go_wp2
      go_roundg k1
      case measure => have := HK1.out; have := HI.out; omega
      case rel => exact ⟨x + 1, (by first | rfl | rw [HWK.out]), ⟨by have := HI.out; have := Az.out; omega⟩, ⟨by have := HK1.out; have := HI.out; omega⟩, ⟨by rw [show (x + 1).toNat = x.toNat + 1 by have := HI.out; omega]; exact blk_drew (mix_put Ab.out (by rw [encv_len]; have := HI.out; have := Az.out; omega) HFX.out)⟩, ⟨blk_far Aa.out NE10_11.out _⟩, ⟨(below_set HB.out Aj.out).drew⟩⟩
    · have Ay : decide (x < 16) = false := decide_eq_false c4
      have hx : x = 16 := by have := HI.out; omega
      subst hx
      replace Ab := A_ (show wr.heap[Ad]? = some (.cells (ub (xrl (encv ks (startv nonce)) (bytv s0 s1))) 113 (0, 0)) from (by have h_ := Ab.out; rwa [show (16 : Int).toNat = 16 from rfl, mix_all _ _ 16 (encv_len _ _)] at h_))
      clear c4
      go_wp2
      go_ret
      exact ⟨Ad, rfl, Ab.out, xrl_len _ _, Aj.out, HB.out⟩
theorem sched_len (key : List Int) (h : key.length = 16) : (sched key).length = 176 := keyr_len key h 40
def impl_OpenText.f (k : Nat) (l0 l1 l2 l3 : List Int) : Option (Int × List Int) :=
  if l0.length = 16 then (if l1.length = 12 then (if l2.length ≤ 100 then (if l3.length ≤ 616 then (if l3.length < 16 then some (9, []) else (if ∀ x ∈ l0, 0 ≤ x ∧ x ≤ 255 then
    (tagO k (sched l0) l1 l2 (l3.take (l3.length - 16))).bind fun t => (bytes_Equal.f t (l3.drop (l3.length - 16))).bind fun q => if q = true then some (0, strv (sched l0) (upv (startv l1)) (l3.take (l3.length - 16))) else some (9, [])
    else none)) else some (2, [])) else some (2, [])) else some (2, [])) else some (2, [])
theorem equal69 (g : Nat) (t D : List Int) (A : Option Addr) (c : Nat) (q : Bool) (W : World) (hb : W.heap[g]? = some (.cells (ub t) 113 (0, 0))) (ht : t.length = 16) (hr : Kd.C (Kd.int .u8) W A D.length D) (hc : D.length ≤ c) (h : bytes_Equal.f t D = some q) :
    Calls Try.prog 69 #[.slice (some ⟨g, 0, none⟩) 16 16, .slice A D.length c] W fun e w' => e = .returned (.bool q) ∧ Drawn0 W w' := by
  have h1 := bytes_Equal.calls (some ⟨g, 0, none⟩) 16 t A c D q W (C_blk hb rfl (by rw [ht]; decide)) (by rw [ht]; exact Nat.le_refl _) hr hc h
  rw [ht] at h1
  exact h1
theorem hi48 : (Try.prog.info? 48).map (·.size) = some 2 := by kernel_rfl
theorem impl_OpenText.calls (k : Nat) (A0 : Option Addr) (c0 : Nat) (l0 : List Int) (A1 : Option Addr) (c1 : Nat) (l1 : List Int) (A2 : Option Addr) (c2 : Nat) (l2 : List Int) (A3 : Option Addr) (c3 : Nat) (l3 : List Int) (r1 : Int) (r2 : List Int) (w : World) (Ao : Kd.C (Kd.int .u8) w A0 l0.length l0) (Ax : l0.length ≤ c0) (Ap : Kd.C (Kd.int .u8) w A1 l1.length l1) (Ay : l1.length ≤ c1) (Aq : Kd.C (Kd.int .u8) w A2 l2.length l2) (Ar : l2.length ≤ c2) (As : Kd.C (Kd.int .u8) w A3 l3.length l3) (Ah : l3.length ≤ c3) (h : impl_OpenText.f k l0 l1 l2 l3 = some (r1, r2)) :
    Calls Try.prog 42 #[.slice A0 l0.length c0, .slice A1 l1.length c1, .slice A2 l2.length c2, .slice A3 l3.length c3] w fun e w' => ∃ v1_ : Value, e = .returned (.agg #[.int .i64 r1, v1_]) ∧ Kd.R (Kd.int .u8) 5 w' w.heap.size (fun _ => True) v1_ r2 ∧ Below w.heap.size w w' := by
  have hu48 := Try.underlying48
  have hu25 := Try.underlying25
  unfold impl_OpenText.f at h
  have Az := A_ Ao
  have Al := A_ Ap
  have Au := A_ Aq
  have Av := A_ As
  have Aw := A_ Ar
  have A6 := A_ Ah
  have HB := A_ (Below.refl w.heap.size w)
  clear Ao Ap Aq As Ax Ay Ar
  by_cases d0 : l0.length = 16
  rotate_left
  · rw [if_neg d0] at h
    have d0b0 : ((l0.length : Int) != 16) = true := by simp [d0]; try omega
    have d0b1 : ((l0.length : Int) == 16) = false := by simp [d0]; try omega
    simp only [Option.some.injEq, Prod.mk.injEq] at h
    obtain ⟨rfl, rfl⟩ := h
    clear d0 Ah
    go_enter Try.func42, Try.ntmps42
    go_wp2_with (first | ((with_reducible refine d1_ 8 ?_); refine bx_ 8 (#[.int .i64 0, .slice none 0 0]) 48 rfl rfl ?hr ?_; (case hr => have hz := Try.zeroValue48; go_simp <;> rfl); intro Ac hg wb8 hbox hb; have Ae := gw_ (w := w) hg; replace HB := hb2_ hb; have Aa := A_ (hbox); clear hb hbox hg) | ((with_reducible refine f1_ 54 ?_); refine gl_ (some 30) Try.func54 #[.int .i64 2] ?_; (with_reducible refine (impl_noBytes.calls 2 2 [] _ rfl).mono ?_); rintro e wc30 ⟨vn, rfl, ho, hb⟩; refine ⟨_, rfl, ?_⟩; obtain ⟨An, cn, en⟩ := Kd.R_slice ho; subst en; have HOn := A_ (Kd.R_lower ho (Nat.le_of_lt (blk_lt Aa.out))); have HNE := A_ (show some Ac ≠ (Value.slice An ([] : List Int).length cn).ownBlock from fun e_ => Nat.lt_irrefl _ (Nat.lt_of_lt_of_le (blk_lt Aa.out) (Kd.R_base ho Ac e_.symm))); clear ho; replace Aa := hb1_ Aa hb; replace HB := hb2_ hb; clear hb) | ((with_reducible refine s1_ 48 8 ?_); refine arr_store (cs' := #[.int .i64 2, .slice An 0 cn]) rfl rfl rfl rfl rfl Aa.out (hi48.trans (by rfl)) (by rfl) (by first | (simp [Value.oneCell']; done) | (simp; exact ⟨rfl, rfl⟩)) ?_; intro Ad hbs hgs; replace HOn := A_ (Kd.R_grown1 HOn.out rfl hgs HNE.out); replace HB := hb6_ HB hgs Ae; replace Aa := A_ hbs; clear hbs hgs))
    refine bodyPost_ret (results_cell_row rfl _ _ Ac 48 (#[.int .i64 2, .slice An 0 cn]) (0, 0) _ rfl Aa.out Try.underlying48 rfl (hi48.trans (by rfl))) rfl ?_
    exact ⟨_, rfl, Kd.R_lower HOn.out Ae.out, HB.out⟩
  have Kd0 := A_ d0
  rw [if_pos d0] at h
  have d0b0 : ((l0.length : Int) != 16) = false := by simp [d0]; try omega
  have d0b1 : ((l0.length : Int) == 16) = true := by simp [d0]; try omega
  clear d0
  by_cases d1 : l1.length = 12
  rotate_left
  · rw [if_neg d1] at h
    have d1b0 : ((l1.length : Int) != 12) = true := by simp [d1]; try omega
    have d1b1 : ((l1.length : Int) == 12) = false := by simp [d1]; try omega
    simp only [Option.some.injEq, Prod.mk.injEq] at h
    obtain ⟨rfl, rfl⟩ := h
    clear d1 Ah
    go_enter Try.func42, Try.ntmps42
    go_wp2_with (first | ((with_reducible refine d1_ 8 ?_); refine bx_ 8 (#[.int .i64 0, .slice none 0 0]) 48 rfl rfl ?hr ?_; (case hr => have hz := Try.zeroValue48; go_simp <;> rfl); intro Ac hg wb8 hbox hb; have Ae := gw_ (w := w) hg; replace HB := hb2_ hb; have Aa := A_ (hbox); clear hb hbox hg) | ((with_reducible refine f1_ 54 ?_); refine gl_ (some 30) Try.func54 #[.int .i64 2] ?_; (with_reducible refine (impl_noBytes.calls 2 2 [] _ rfl).mono ?_); rintro e wc30 ⟨vn, rfl, ho, hb⟩; refine ⟨_, rfl, ?_⟩; obtain ⟨An, cn, en⟩ := Kd.R_slice ho; subst en; have HOn := A_ (Kd.R_lower ho (Nat.le_of_lt (blk_lt Aa.out))); have HNE := A_ (show some Ac ≠ (Value.slice An ([] : List Int).length cn).ownBlock from fun e_ => Nat.lt_irrefl _ (Nat.lt_of_lt_of_le (blk_lt Aa.out) (Kd.R_base ho Ac e_.symm))); clear ho; replace Aa := hb1_ Aa hb; replace HB := hb2_ hb; clear hb) | ((with_reducible refine s1_ 48 8 ?_); refine arr_store (cs' := #[.int .i64 2, .slice An 0 cn]) rfl rfl rfl rfl rfl Aa.out (hi48.trans (by rfl)) (by rfl) (by first | (simp [Value.oneCell']; done) | (simp; exact ⟨rfl, rfl⟩)) ?_; intro Ad hbs hgs; replace HOn := A_ (Kd.R_grown1 HOn.out rfl hgs HNE.out); replace HB := hb6_ HB hgs Ae; replace Aa := A_ hbs; clear hbs hgs))
    refine bodyPost_ret (results_cell_row rfl _ _ Ac 48 (#[.int .i64 2, .slice An 0 cn]) (0, 0) _ rfl Aa.out Try.underlying48 rfl (hi48.trans (by rfl))) rfl ?_
    exact ⟨_, rfl, Kd.R_lower HOn.out Ae.out, HB.out⟩
  have Kd1 := A_ d1
  rw [if_pos d1] at h
  have d1b0 : ((l1.length : Int) != 12) = false := by simp [d1]; try omega
  have d1b1 : ((l1.length : Int) == 12) = true := by simp [d1]; try omega
  clear d1
  by_cases d2 : l2.length ≤ 100
  rotate_left
  · rw [if_neg d2] at h
    have d2b0 : decide (100 < (l2.length : Int)) = true := decide_eq_true (by omega)
    simp only [Option.some.injEq, Prod.mk.injEq] at h
    obtain ⟨rfl, rfl⟩ := h
    clear d2 Ah
    go_enter Try.func42, Try.ntmps42
    go_wp2_with (first | ((with_reducible refine d1_ 8 ?_); refine bx_ 8 (#[.int .i64 0, .slice none 0 0]) 48 rfl rfl ?hr ?_; (case hr => have hz := Try.zeroValue48; go_simp <;> rfl); intro Ac hg wb8 hbox hb; have Ae := gw_ (w := w) hg; replace HB := hb2_ hb; have Aa := A_ (hbox); clear hb hbox hg) | ((with_reducible refine f1_ 54 ?_); refine gl_ (some 30) Try.func54 #[.int .i64 2] ?_; (with_reducible refine (impl_noBytes.calls 2 2 [] _ rfl).mono ?_); rintro e wc30 ⟨vn, rfl, ho, hb⟩; refine ⟨_, rfl, ?_⟩; obtain ⟨An, cn, en⟩ := Kd.R_slice ho; subst en; have HOn := A_ (Kd.R_lower ho (Nat.le_of_lt (blk_lt Aa.out))); have HNE := A_ (show some Ac ≠ (Value.slice An ([] : List Int).length cn).ownBlock from fun e_ => Nat.lt_irrefl _ (Nat.lt_of_lt_of_le (blk_lt Aa.out) (Kd.R_base ho Ac e_.symm))); clear ho; replace Aa := hb1_ Aa hb; replace HB := hb2_ hb; clear hb) | ((with_reducible refine s1_ 48 8 ?_); refine arr_store (cs' := #[.int .i64 2, .slice An 0 cn]) rfl rfl rfl rfl rfl Aa.out (hi48.trans (by rfl)) (by rfl) (by first | (simp [Value.oneCell']; done) | (simp; exact ⟨rfl, rfl⟩)) ?_; intro Ad hbs hgs; replace HOn := A_ (Kd.R_grown1 HOn.out rfl hgs HNE.out); replace HB := hb6_ HB hgs Ae; replace Aa := A_ hbs; clear hbs hgs))
    refine bodyPost_ret (results_cell_row rfl _ _ Ac 48 (#[.int .i64 2, .slice An 0 cn]) (0, 0) _ rfl Aa.out Try.underlying48 rfl (hi48.trans (by rfl))) rfl ?_
    exact ⟨_, rfl, Kd.R_lower HOn.out Ae.out, HB.out⟩
  have Kd2 := A_ d2
  rw [if_pos d2] at h
  have d2b0 : decide (100 < (l2.length : Int)) = false := decide_eq_false (by omega)
  clear d2
  by_cases d3 : l3.length ≤ 616
  rotate_left
  · rw [if_neg d3] at h
    have d3b0 : decide (616 < (l3.length : Int)) = true := decide_eq_true (by omega)
    simp only [Option.some.injEq, Prod.mk.injEq] at h
    obtain ⟨rfl, rfl⟩ := h
    clear d3 Ah
    go_enter Try.func42, Try.ntmps42
    go_wp2_with (first | ((with_reducible refine d1_ 8 ?_); refine bx_ 8 (#[.int .i64 0, .slice none 0 0]) 48 rfl rfl ?hr ?_; (case hr => have hz := Try.zeroValue48; go_simp <;> rfl); intro Ac hg wb8 hbox hb; have Ae := gw_ (w := w) hg; replace HB := hb2_ hb; have Aa := A_ (hbox); clear hb hbox hg) | ((with_reducible refine f1_ 54 ?_); refine gl_ (some 30) Try.func54 #[.int .i64 2] ?_; (with_reducible refine (impl_noBytes.calls 2 2 [] _ rfl).mono ?_); rintro e wc30 ⟨vn, rfl, ho, hb⟩; refine ⟨_, rfl, ?_⟩; obtain ⟨An, cn, en⟩ := Kd.R_slice ho; subst en; have HOn := A_ (Kd.R_lower ho (Nat.le_of_lt (blk_lt Aa.out))); have HNE := A_ (show some Ac ≠ (Value.slice An ([] : List Int).length cn).ownBlock from fun e_ => Nat.lt_irrefl _ (Nat.lt_of_lt_of_le (blk_lt Aa.out) (Kd.R_base ho Ac e_.symm))); clear ho; replace Aa := hb1_ Aa hb; replace HB := hb2_ hb; clear hb) | ((with_reducible refine s1_ 48 8 ?_); refine arr_store (cs' := #[.int .i64 2, .slice An 0 cn]) rfl rfl rfl rfl rfl Aa.out (hi48.trans (by rfl)) (by rfl) (by first | (simp [Value.oneCell']; done) | (simp; exact ⟨rfl, rfl⟩)) ?_; intro Ad hbs hgs; replace HOn := A_ (Kd.R_grown1 HOn.out rfl hgs HNE.out); replace HB := hb6_ HB hgs Ae; replace Aa := A_ hbs; clear hbs hgs))
    refine bodyPost_ret (results_cell_row rfl _ _ Ac 48 (#[.int .i64 2, .slice An 0 cn]) (0, 0) _ rfl Aa.out Try.underlying48 rfl (hi48.trans (by rfl))) rfl ?_
    exact ⟨_, rfl, Kd.R_lower HOn.out Ae.out, HB.out⟩
  have Kd3 := A_ d3
  rw [if_pos d3] at h
  have d3b0 : decide (616 < (l3.length : Int)) = false := decide_eq_false (by omega)
  clear d3
  by_cases d4 : l3.length < 16
  · rw [if_pos d4] at h
    have d4b0 : decide ((l3.length : Int) < 16) = true := decide_eq_true (by omega)
    simp only [Option.some.injEq, Prod.mk.injEq] at h
    obtain ⟨rfl, rfl⟩ := h
    clear d4 Ah
    go_enter Try.func42, Try.ntmps42
    go_wp2_with (first | ((with_reducible refine d1_ 8 ?_); refine bx_ 8 (#[.int .i64 0, .slice none 0 0]) 48 rfl rfl ?hr ?_; (case hr => have hz := Try.zeroValue48; go_simp <;> rfl); intro Ac hg wb8 hbox hb; have Ae := gw_ (w := w) hg; replace HB := hb2_ hb; have Aa := A_ (hbox); clear hb hbox hg) | ((with_reducible refine f1_ 54 ?_); refine gl_ (some 34) Try.func54 #[.int .i64 9] ?_; (with_reducible refine (impl_noBytes.calls 9 9 [] _ rfl).mono ?_); rintro e wc34 ⟨vn, rfl, ho, hb⟩; refine ⟨_, rfl, ?_⟩; obtain ⟨An, cn, en⟩ := Kd.R_slice ho; subst en; have HOn := A_ (Kd.R_lower ho (Nat.le_of_lt (blk_lt Aa.out))); have HNE := A_ (show some Ac ≠ (Value.slice An ([] : List Int).length cn).ownBlock from fun e_ => Nat.lt_irrefl _ (Nat.lt_of_lt_of_le (blk_lt Aa.out) (Kd.R_base ho Ac e_.symm))); clear ho; replace Aa := hb1_ Aa hb; replace HB := hb2_ hb; clear hb) | ((with_reducible refine s1_ 48 8 ?_); refine arr_store (cs' := #[.int .i64 9, .slice An 0 cn]) rfl rfl rfl rfl rfl Aa.out (hi48.trans (by rfl)) (by rfl) (by first | (simp [Value.oneCell']; done) | (simp; exact ⟨rfl, rfl⟩)) ?_; intro Ad hbs hgs; replace HOn := A_ (Kd.R_grown1 HOn.out rfl hgs HNE.out); replace HB := hb6_ HB hgs Ae; replace Aa := A_ hbs; clear hbs hgs))
    refine bodyPost_ret (results_cell_row rfl _ _ Ac 48 (#[.int .i64 9, .slice An 0 cn]) (0, 0) _ rfl Aa.out Try.underlying48 rfl (hi48.trans (by rfl))) rfl ?_
    exact ⟨_, rfl, Kd.R_lower HOn.out Ae.out, HB.out⟩
  · rw [if_neg d4] at h
    have d4b0 : decide ((l3.length : Int) < 16) = false := decide_eq_false (by omega)
    have HD4 := A_ d4
    by_cases d5 : ∀ x ∈ l0, 0 ≤ x ∧ x ≤ 255
    rotate_left
    · rw [if_neg d5] at h; cases h
    rw [if_pos d5] at h
    have HY0 := A_ d5
    obtain ⟨tg, ht1, h⟩ := Option.bind_eq_some_iff.1 h
    obtain ⟨q, hq1, h⟩ := Option.bind_eq_some_iff.1 h
    have HT := A_ ht1
    have HQ := A_ hq1
    clear ht1 hq1 d5
    obtain ⟨i0, Am, _, hsz, _⟩ := info_parts info5
    obtain ⟨hcut0, hA0, hC0⟩ := print_take_of (P := Try.prog) (Value.int .u8) 0 25 5 .i64 Try.underlying25 Am hsz A3 c3 l3 ((l3.length : Int) - 16) (by omega) (by omega) Ah
    obtain ⟨A4, hcut1, hA1, hC1⟩ := print_drop_of (P := Try.prog) (Value.int .u8) 0 25 5 .i64 Try.underlying25 Am hsz A3 c3 l3 ((l3.length : Int) - 16) (by omega) (by omega) Ah
    have HLT := A_ (show (l3.take (l3.length - 16)).length ≤ 100000 by rw [List.length_take]; have := Kd3.out; omega)
    rw [show ((l3.length : Int) - 16).toNat = l3.length - 16 by omega] at hcut0 hcut1 hA0 hA1 hC0 hC1
    have HRT := A_ (show Kd.C (Kd.int .u8) w A3 (l3.take (l3.length - 16)).length (l3.take (l3.length - 16)) from Kd.C_of_reads (h1 := fun _ => rfl) (hA0 _ (Kd.reads_of_C Av.out)))
    have HRD := A_ (show Kd.C (Kd.int .u8) w A4 (l3.drop (l3.length - 16)).length (l3.drop (l3.length - 16)) from Kd.C_of_reads (h1 := fun _ => rfl) (hA1 _ (Kd.reads_of_C Av.out)))
    have HCT := A_ hC0
    have HCD := A_ hC1
    have wn1 : wrap64 ((l3.length : Int) - 16) = (l3.length : Int) - 16 := by have := Kd3.out; unfold wrap64; omega
    have wn2 : IntKind.i64.wrap ((l3.length : Int) - 16) = (l3.length : Int) - 16 := by rw [i64_w]; exact wn1
    generalize l3.take (l3.length - 16) = T at *
    generalize l3.drop (l3.length - 16) = D at *
    generalize c3 - (l3.length - 16) = cd at *
    generalize hks : sched l0 = ks at *
    have HKS := A_ (show ks.length = 176 by rw [← hks]; exact sched_len l0 Kd0.out)
    have HKE := A_ hks
    clear hA0 hA1 hC0 hC1 Am hsz hks d4 Ah
    go_enter Try.func42, Try.ntmps42
    go_wp2_with (first | ((with_reducible refine d1_ 8 ?_); refine bx_ 8 (#[.int .i64 0, .slice none 0 0]) 48 rfl rfl ?hr ?_; (case hr => have hz := Try.zeroValue48; go_simp <;> rfl); intro Ac hg wb8 hbox hb; have Ae := gw_ (w := w) hg; replace HB := hb2_ hb; have Aa := A_ (hbox); clear hb hbox hg) | ((with_reducible refine f1_ 84 ?_); refine gl_ (some 36) Try.func84 #[.slice A0 l0.length c0] ?_; (with_reducible refine (newC84 A0 c0 l0 _ ?s1 Kd0.out HY0.out).mono ?_); (case s1 => exact Kd.C_below Az.out below_a); rintro e wc36 ⟨Ai, rfl, hg36, hb36, hb⟩; refine ⟨_, rfl, ?_⟩; rw [HKE.out] at hb36; have NE8_36 := A_ (show Ac ≠ Ai from Nat.ne_of_lt (Nat.lt_of_lt_of_le (blk_lt Aa.out) hg36)); have A5 := A_ (Nat.le_trans HB.out.size hg36); have Ab := A_ hb36; clear hb36 hg36; replace Aa := hb1_ Aa hb; replace HB := hb2_ hb; clear hb))
    go_quiet (fail)
    replace Ab := A_ (blk_drewN Ab.out nq)
    replace Aa := A_ (blk_drewN Aa.out nq)
    replace HB := A_ (pw_below_drewN HB.out nq)
    cases q with
    | false =>
      replace h : some ((9 : Int), ([] : List Int)) = some (r1, r2) := h
      simp only [Option.some.injEq, Prod.mk.injEq] at h
      obtain ⟨rfl, rfl⟩ := h
      go_wp2_with (first | ((with_reducible refine f1_ 85 ?_); refine gl_ (some 51) Try.func85 #[.pointer (some ⟨Ai, 0, none⟩), .slice A1 l1.length c1, .slice A2 l2.length c2, .slice A3 T.length c3] ?_; (with_reducible refine (tag85 k Ai A1 c1 A2 c2 A3 c3 ks l1 l2 T tg _ HKS.out ?s1 Kd1.out ?s2 Aw.out ?s3 HCT.out (Nat.le_trans Kd2.out (by decide)) HLT.out Ab.out HT.out).mono ?_); (case s1 => exact Kd.C_below Al.out below_a); (case s2 => exact Kd.C_below Au.out below_a); (case s3 => exact Kd.C_below HRT.out below_a); rintro e wc51 ⟨Ak, rfl, hb51, Af, hg51, hb⟩; refine ⟨_, rfl, ?_⟩; have Ag := A_ hb51; have Aj := A_ Af; clear hb51 Af hg51; replace Ab := hb1_ Ab hb; replace Aa := hb1_ Aa hb; replace HB := hb2_ hb; clear hb) | ((with_reducible refine f1_ 69 ?_); refine gl_ (some 53) Try.func69 #[.slice (some ⟨Ak, 0, none⟩) 16 16, .slice A4 D.length cd] ?_; (with_reducible refine (equal69 Ak tg D A4 cd false _ Ag.out Aj.out ?s1 HCD.out HQ.out).mono ?_); (case s1 => exact Kd.C_below HRD.out below_a); rintro e wq ⟨rfl, ⟨nd, rfl⟩⟩; refine ⟨_, rfl, ?_⟩; clear Ag; replace Ab := A_ (blk_drewN Ab.out nd); replace Aa := A_ (blk_drewN Aa.out nd); replace HB := A_ (pw_below_drewN HB.out nd)) | ((with_reducible refine f1_ 54 ?_); refine gl_ (some 55) Try.func54 #[.int .i64 9] ?_; (with_reducible refine (impl_noBytes.calls 9 9 [] _ rfl).mono ?_); rintro e wc55 ⟨vn, rfl, ho, hb⟩; refine ⟨_, rfl, ?_⟩; obtain ⟨An, cn, en⟩ := Kd.R_slice ho; subst en; have HOn := A_ (Kd.R_lower ho (Nat.le_of_lt (blk_lt Aa.out))); have HNE := A_ (show some Ac ≠ (Value.slice An ([] : List Int).length cn).ownBlock from fun e_ => Nat.lt_irrefl _ (Nat.lt_of_lt_of_le (blk_lt Aa.out) (Kd.R_base ho Ac e_.symm))); clear ho; replace Aa := hb1_ Aa hb; replace HB := hb2_ hb; clear hb) | ((with_reducible refine s1_ 48 8 ?_); refine arr_store (cs' := #[.int .i64 9, .slice An 0 cn]) rfl rfl rfl rfl rfl Aa.out (hi48.trans (by rfl)) (by rfl) (by first | (simp [Value.oneCell']; done) | (simp; exact ⟨rfl, rfl⟩)) ?_; intro Ad hbs hgs; replace HOn := A_ (Kd.R_grown1 HOn.out rfl hgs HNE.out); replace HB := hb6_ HB hgs Ae; replace Aa := A_ hbs; clear hbs hgs))
      refine bodyPost_ret (results_cell_row rfl _ _ Ac 48 (#[.int .i64 9, .slice An 0 cn]) (0, 0) _ rfl Aa.out Try.underlying48 rfl (hi48.trans (by rfl))) rfl ?_
      exact ⟨_, rfl, Kd.R_lower HOn.out Ae.out, HB.out⟩
    | true =>
      replace h : some ((0 : Int), strv ks (upv (startv l1)) T) = some (r1, r2) := h
      simp only [Option.some.injEq, Prod.mk.injEq] at h
      obtain ⟨rfl, rfl⟩ := h
      have HUL := A_ (show (upv (startv l1)).length = 16 by rw [upv_len, startv_len _ Kd1.out])
      go_wp2_with (first | ((with_reducible refine f1_ 85 ?_); refine gl_ (some 51) Try.func85 #[.pointer (some ⟨Ai, 0, none⟩), .slice A1 l1.length c1, .slice A2 l2.length c2, .slice A3 T.length c3] ?_; (with_reducible refine (tag85 k Ai A1 c1 A2 c2 A3 c3 ks l1 l2 T tg _ HKS.out ?s1 Kd1.out ?s2 Aw.out ?s3 HCT.out (Nat.le_trans Kd2.out (by decide)) HLT.out Ab.out HT.out).mono ?_); (case s1 => exact Kd.C_below Al.out below_a); (case s2 => exact Kd.C_below Au.out below_a); (case s3 => exact Kd.C_below HRT.out below_a); rintro e wc51 ⟨Ak, rfl, hb51, Af, hg51, hb⟩; refine ⟨_, rfl, ?_⟩; have Ag := A_ hb51; have Aj := A_ Af; clear hb51 Af hg51; replace Ab := hb1_ Ab hb; replace Aa := hb1_ Aa hb; replace HB := hb2_ hb; clear hb) | ((with_reducible refine f1_ 69 ?_); refine gl_ (some 53) Try.func69 #[.slice (some ⟨Ak, 0, none⟩) 16 16, .slice A4 D.length cd] ?_; (with_reducible refine (equal69 Ak tg D A4 cd true _ Ag.out Aj.out ?s1 HCD.out HQ.out).mono ?_); (case s1 => exact Kd.C_below HRD.out below_a); rintro e wq ⟨rfl, ⟨nd, rfl⟩⟩; refine ⟨_, rfl, ?_⟩; clear Ag; replace Ab := A_ (blk_drewN Ab.out nd); replace Aa := A_ (blk_drewN Aa.out nd); replace HB := A_ (pw_below_drewN HB.out nd)) | ((with_reducible refine f1_ 87 ?_); refine gl_ (some 58) Try.func87 #[.slice A1 l1.length c1] ?_; (with_reducible refine (start87 _ _ l1 _ ?s1 Kd1.out).mono ?_); (case s1 => exact Kd.C_below Al.out below_a); rintro e wc58 ⟨rfl, hb⟩; refine ⟨_, rfl, ?_⟩; replace Ab := hb1_ Ab hb; replace Aa := hb1_ Aa hb; replace HB := hb2_ hb; clear hb) | ((with_reducible refine f1_ 88 ?_); refine gl_ (some 59) Try.func88 #[.agg (ub (startv l1))] ?_; (with_reducible refine (up88 (startv l1) (startv_len _ Kd1.out) _).mono ?_); rintro e wc59 ⟨rfl, hb⟩; refine ⟨_, rfl, ?_⟩; replace Ab := hb1_ Ab hb; replace Aa := hb1_ Aa hb; replace HB := hb2_ hb; clear hb) | ((with_reducible refine f1_ 86 ?_); refine gl_ (some 61) Try.func86 #[.pointer (some ⟨Ai, 0, none⟩), .agg (ub (upv (startv l1))), .slice A3 T.length c3] ?_; (with_reducible refine (stream86 Ai A3 c3 ks (upv (startv l1)) T _ HKS.out HUL.out ?s1 HCT.out HLT.out Ab.out).mono ?_); (case s1 => exact Kd.C_below HRT.out below_a); rintro e wc61 ⟨vn, rfl, ho, hb⟩; refine ⟨_, rfl, ?_⟩; obtain ⟨An, cn, en⟩ := Kd.R_slice ho; subst en; have HOn := A_ (Kd.R_lower ho (Nat.le_of_lt (blk_lt Aa.out))); have HNE := A_ (show some Ac ≠ (Value.slice An (strv ks (upv (startv l1)) T).length cn).ownBlock from fun e_ => Nat.lt_irrefl _ (Nat.lt_of_lt_of_le (blk_lt Aa.out) (Kd.R_base ho Ac e_.symm))); clear ho; replace Aa := hb1_ Aa hb; replace HB := hb2_ hb; clear hb) | ((with_reducible refine s1_ 48 8 ?_); refine arr_store (cs' := #[.int .i64 0, .slice An (strv ks (upv (startv l1)) T).length cn]) rfl rfl rfl rfl rfl Aa.out (hi48.trans (by rfl)) (by rfl) (by first | (simp [Value.oneCell']; done) | (simp; exact ⟨rfl, rfl⟩)) ?_; intro Ad hbs hgs; replace HOn := A_ (Kd.R_grown1 HOn.out rfl hgs HNE.out); replace HB := hb6_ HB hgs Ae; replace Aa := A_ hbs; clear hbs hgs))
      refine bodyPost_ret (results_cell_row rfl _ _ Ac 48 (#[.int .i64 0, .slice An (strv ks (upv (startv l1)) T).length cn]) (0, 0) _ rfl Aa.out Try.underlying48 rfl (hi48.trans (by rfl))) rfl ?_
      exact ⟨_, rfl, Kd.R_lower HOn.out Ae.out, HB.out⟩
end Go.Proofs.Ytiioiohdifkbgaa.MFnLetters
