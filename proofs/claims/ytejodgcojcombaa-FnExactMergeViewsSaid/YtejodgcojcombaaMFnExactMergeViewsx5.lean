-- Laid by a program of this session (the kit's print, turned where it falls short; the texts of functions that it does not take are proved by hand).
import Derived.Test.YtejodgcojcombaaMFnExactMergeViewsx0
namespace Go.Proofs.Ytejodgcojcombaa.MFnExactMergeViews
open Go.RowKit Go.Proofs.YtejodgcojcombaaW.PrintWords Go.Proofs.YtejodgcojcombaaW.PrintLast Go.Proofs.YtejodgcojcombaaW.PrintMore
attribute [local go_sem] max2_int min2_int max_two min_two max_three min_three max_four min_four   -- for this text's walks alone
set_option linter.unusedVariables false
set_option linter.unusedSimpArgs false

attribute [local go_sem] isSome_setCell
/-! ### impl_Claim_33: function 33 -/
theorem ins_copy {P : Program} (w : World) (dT sT ty elem : TypeId) (k m : Nat) (b o dLen dCap : Nat) (a : Addr) (sLen sCap : Nat) (cs : List Value)
    (hu : P.underlying dT = some (.slice elem)) (hs : (P.info? elem).map (·.size) = some k) (hm : m = Nat.min sLen dLen) (hn : cs.length = m * k)
    (hsrc : ∀ j v, cs[j]? = some v → w.cell? (a.add j) = some v) (hc : ∀ j, j < cs.length → (w.cell? ⟨b, o + j, none⟩).isSome = true) (hf : ∀ j, j < cs.length → w.frozen? ⟨b, o + j, none⟩ = false) (h1 : ∀ v ∈ cs, v.oneCell' = true) :
    (Builtin.copy_ #[dT, sT] ty #[.slice (some ⟨b, o, none⟩) dLen dCap, .slice (some a) sLen sCap]).run P w = .ok (goInt m) (w.setCells b o cs) := by
  have hl := run_loadCells_list (P := P) w a cs hsrc
  have hst := run_storeCells_cells (P := P) b o cs 0 w (by simpa using hc) (by simpa using hf) h1
  cases hq : P.info? elem with
  | none => simp [hq] at hs
  | some i =>
    have hi : i.size = k := by simpa [hq] using hs
    rw [hn] at hl
    simp [Builtin.copy_, run_underlying hu, Builtin.lenOf, Builtin.firstCells, sizeOf, typeInfo, hq, hi, ← hm, hl, hst]
theorem ins_copy_runI {P : Program} (w : World) {o : Oper} {a : Act} {K : Act → World → Prop} {Q : Exit → Act → World → Prop} (d s : Operand) (t t' : TypeId)
    (ho : o.op = .call { callee := .builtin .copy, args := #[d, s], argTypes := #[t, t'] }) (v u : Value) (hd : a.eval d = v) (hs : a.eval s = u) {v' : Value} {w' : World}
    (hr : (Builtin.copy_ #[t, t'] o.type #[v, u]).run P w = .ok v' w') (h : K (a.put o.dst v') w') : o.wp P a w K Q := by
  unfold Oper.wp execOp
  simp only [ho, resolve, invoke, builtin, Sem.run_bind, Sem.run_pure, Result.andThen_ok, List.map_toArray, List.map_cons, List.map_nil, hd, hs, hr]
  exact h
theorem wpList_ins_copy {P : Program} (w : World) {ops : Array Oper} {rest : List Oper} {o : Oper} {a : Act} {Q : Exit → Act → World → Prop} (hgd : o.guard = none) (d s : Operand) (t t' : TypeId)
    (ho : o.op = .call { callee := .builtin .copy, args := #[d, s], argTypes := #[t, t'] }) (v u : Value) (hd : a.eval d = v) (hs : a.eval s = u) {v' : Value} {w' : World}
    (hr : (Builtin.copy_ #[t, t'] o.type #[v, u]).run P w = .ok v' w') (h : wpList P ops Q rest (a.put o.dst v') w') : wpList P ops Q (o :: rest) a w :=
  wpList_plain hgd fun _ hK => ins_copy_runI w d s t t' ho v u hd hs hr (hK _ _ h)
theorem step_ins_copy {P : Program} {ops : Array Oper} {o : Oper} {a : Act} {w : World} {K : Act → World → Prop} {Q : Exit → Act → World → Prop} {E : Prop}
    (hg : o.guard = none) (d x : Operand) (dT sT : TypeId) (hop : o.op = Op.call { callee := Callee.builtin Builtin.copy, args := #[d, x], argTypes := #[dT, sT] })
    (v u : Value) (hd : a.eval d = v) (hx : a.eval x = u) {v' : Value} {w' : World} (hr : (Builtin.copy_ #[dT, sT] o.type #[v, u]).run P w = .ok v' w') (hK : K (a.put o.dst v') w') :
    if Region.wanted o (yielded ops a.tmps) = true then Oper.wp P o a w K Q else E := by
  have hw : Region.wanted o (yielded ops a.tmps) = true := by simp [Region.wanted, hg]
  rw [if_pos hw]
  unfold Oper.wp
  simp [execOp, hop, resolve, invoke, builtin, hd, hx, hr, Result.andThen]
  exact hK
set_option maxHeartbeats 8000000 in
set_option maxRecDepth 100000 in
/-- there is room, i < n: in place -/
theorem ins_room (g n cap i vb vc : Nat) (cs vs : List Value) (w : World) (hi : i < n) (hroom : n + 1 ≤ cap) (hc63 : cap ≤ 9223372036854775807) (hvb : vb ≠ g) (hcl : cs.length = n * 4) (hvl : vs.length = 4)
    (hcs : ∀ j v, cs[j]? = some v → w.cell? ⟨g, j, none⟩ = some v) (hsp : ∀ j, j < (n + 1) * 4 → (w.cell? ⟨g, j, none⟩).isSome = true) (hfz : ∀ j, w.frozen? ⟨g, j, none⟩ = false)
    (hvs : ∀ j v, vs[j]? = some v → w.cell? ⟨vb, j, none⟩ = some v) (h1c : ∀ v ∈ cs, v.oneCell' = true) (h1v : ∀ v ∈ vs, v.oneCell' = true)
    (tA tB : TypeId) (kA kB : Nat) (hsa : w.shape? vb = some (tA, kA)) (hsb : w.shape? g = some (tB, kB)) (hkB : kB ≠ 0) (hfa : ∀ j, w.frozen? ⟨vb, j, none⟩ = false) :
    Calls Try.prog 33 #[.slice (some ⟨g, 0, none⟩) n cap, .int .i64 i, .slice (some ⟨vb, 0, none⟩) 1 vc] w fun e w' =>
      e = .returned (.slice (some ⟨g, 0, none⟩) (n + 1) cap) ∧ w' = (w.drew.setCells g ((i + 1) * 4) (cs.drop (i * 4))).setCells g (i * 4) vs := by
  have hsz : (Try.prog.info? 31).map (·.size) = some 4 := by obtain ⟨i0, hi0, h0, h1, h2⟩ := info_parts info31; rw [hi0]; simp [h1]
  have hz2 : ¬ ((i : Int) = (n : Int)) := by omega
  have hin : i ≤ n := by omega
  have hb2 : ¬ (cap = i + 1) := by omega
  have hw1 : IntKind.i64.wrap ((i : Int) + 1) = (i : Int) + 1 := by rw [IntKind.wrap_i64]; omega
  have hb1 : (0 : Int) ≤ (i : Int) + 1 := by omega
  have htn : ((i : Int) + 1).toNat = i + 1 := by omega
  have hb3 : (i : Int) ≤ (n : Int) + 1 := by omega
  have hb4 : ¬ (cap = i) := by omega
  have hov : ∀ lb cb, (callFunc 50 #[.slice (some ⟨vb, 0, none⟩) 1 vc, .slice (some ⟨g, (i + 1) * 4, none⟩) lb cb]).run Try.prog w = .ok (.value (.bool false)) w := fun lb cb => by
    rw [run_callFunc_extern Try.func50 (by kernel_rfl) (by kernel_rfl) (by kernel_rfl) (e := Extern.SlicesOverlaps.overlaps #[26, 26] #[4]) (by kernel_rfl),
      Lib.run_overlaps_apart w 26 4 31 Try.underlying26 4 Try.sizeOf31 ⟨vb, 0, none⟩ ⟨g, (i + 1) * 4, none⟩ 1 vc lb cb hvb tA tB kA kB hsa hsb hkB (hfa _) (hfa _)]
    rfl
  have hdl : (cs.drop (i * 4)).length = (n - i) * 4 := by rw [List.length_drop, hcl, Nat.sub_mul]
  have hcp1 : ∀ ty dc sc, (Builtin.copy_ #[26, 26] ty #[.slice (some ⟨g, (i + 1) * 4, none⟩) (n - i) dc, .slice (some ⟨g, i * 4, none⟩) (n + 1 - i) sc]).run Try.prog w.drew = .ok (goInt (n - i : Nat)) (w.drew.setCells g ((i + 1) * 4) (cs.drop (i * 4))) := fun ty dc sc =>
    ins_copy w.drew _ _ ty 31 4 (n - i) g ((i + 1) * 4) (n - i) dc ⟨g, i * 4, none⟩ (n + 1 - i) sc (cs.drop (i * 4)) Try.underlying26 hsz (by simp only [Nat.min_def]; split <;> omega) hdl
      (fun j v hj => by rw [Addr.add_lit]; exact hcs (i * 4 + j) v (by rwa [List.getElem?_drop] at hj))
      (fun j hj => hsp _ (by omega)) (fun j hj => hfz _) (fun v hv => h1c v (List.mem_of_mem_drop hv))
  obtain ⟨W1, hW1⟩ : ∃ W1, W1 = w.drew.setCells g ((i + 1) * 4) (cs.drop (i * 4)) := ⟨_, rfl⟩
  have hsp1 : ∀ k, k < (n + 1) * 4 → (W1.cell? ⟨g, k, none⟩).isSome = true := fun k hk => by
    rw [hW1]
    by_cases hin' : (i + 1) * 4 ≤ k ∧ k < (i + 1) * 4 + (cs.drop (i * 4)).length
    · have := World.cell?_setCells_in g (cs.drop (i * 4)) ((i + 1) * 4) w.drew (fun j hj => hsp _ (by omega)) (k - (i + 1) * 4) (by omega)
      rw [show (i + 1) * 4 + (k - (i + 1) * 4) = k by omega] at this
      rw [this]; rfl
    · rw [World.cell?_setCells_out g _ _ _ ⟨g, k, none⟩ (fun _ _ => by show k < (i + 1) * 4 ∨ (i + 1) * 4 + (cs.drop (i * 4)).length ≤ k; omega)]
      exact hsp k hk
  have hcp2 : ∀ (W : World), (∀ x, W.cell? x = W1.cell? x) → (∀ x, W.frozen? x = W1.frozen? x) → ∀ ty dc, (Builtin.copy_ #[26, 26] ty #[.slice (some ⟨g, i * 4, none⟩) (n + 1 - i) dc, .slice (some ⟨vb, 0, none⟩) 1 vc]).run Try.prog W = .ok (goInt (1 : Nat)) (W.setCells g (i * 4) vs) := fun W hWc hWf ty dc =>
    ins_copy W _ _ ty 31 4 1 g (i * 4) (n + 1 - i) dc ⟨vb, 0, none⟩ 1 vc vs Try.underlying26 hsz (by simp only [Nat.min_def]; split <;> omega) (by rw [hvl])
      (fun j v hj => by
        rw [Addr.add_lit, hWc, hW1, World.cell?_setCells_out g _ _ _ _ (fun h _ => absurd h hvb), Nat.zero_add]
        exact hvs j v hj)
      (fun j hj => by rw [hWc]; exact hsp1 _ (by omega)) (fun j hj => by rw [hWf, hW1, World.frozen?_setCells]; exact hfz _) h1v
  rw [← hW1] at hcp1
  clear hsp1 hdl
  go_enter Try.func33, Try.ntmps33
  go_wp2_with (simp only [hov])
  go_region_law (refine step_ins_copy rfl _ _ 26 26 rfl (.slice (some ⟨g, (i + 1) * 4, none⟩) (n - i) (cap - (i + 1))) (.slice (some ⟨g, i * 4, none⟩) (n + 1 - i) (cap - i)) (by simp [Act.eval, Act.put]) (by simp [Act.eval, Act.put]) (hcp1 3 _ _) ?_)
  go_wp2_with (at_builtin; refine wpList_ins_copy _ rfl _ _ 26 26 rfl _ _ rfl rfl (hcp2 _ (fun _ => rfl) (fun _ => rfl) _ _) ?_)
  go_ret
  first | exact ⟨rfl, rfl⟩ | exact ⟨rfl, by rw [hW1]⟩
set_option maxHeartbeats 8000000 in
set_option maxRecDepth 100000 in
/-- there is no room, i < n: a new row -/
theorem ins_grow (g n cap i vb vc : Nat) (cs vs : List Value) (w : World) (hi : i < n) (hnc : n ≤ cap) (hroom : cap < n + 1) (hbig : (n + 1) * 32 ≤ 140737488355328) (hcl : cs.length = n * 4) (hvl : vs.length = 4)
    (hcs : ∀ j v, cs[j]? = some v → w.cell? ⟨g, j, none⟩ = some v) (hgw : g < w.heap.size) (hvw : vb < w.heap.size)
    (hvs : ∀ j v, vs[j]? = some v → w.cell? ⟨vb, j, none⟩ = some v) (h1c : ∀ v ∈ cs, v.oneCell' = true) (h1v : ∀ v ∈ vs, v.oneCell' = true) :
    Calls Try.prog 33 #[.slice (some ⟨g, 0, none⟩) n cap, .int .i64 i, .slice (some ⟨vb, 0, none⟩) 1 vc] w fun e w' =>
      ∃ G ROW, e = .returned (.slice (some ⟨w.heap.size, 0, none⟩) (n + 1) G) ∧ n + 1 ≤ G ∧ G ≤ maxLen ∧ ROW.size = G * 4 ∧ (∃ z1 z2 : List Value, ROW.toList = cs.take (i * 4) ++ z1 ++ z2 ∧ z1.length = (n + 1 - i) * 4) ∧
      w' = (((w.alloc (.cells ROW 31)).drew.setCells w.heap.size (i * 4) vs).drew).setCells w.heap.size ((i + 1) * 4) (cs.drop (i * 4)) := by
  obtain ⟨i0, hi0, hz0, hzs, hzb⟩ := info_parts info31
  have hsz : (Try.prog.info? 31).map (·.size) = some 4 := by rw [hi0]; simp [hzs]
  have hz2 : ¬ ((i : Int) = (n : Int)) := by omega
  have hz3 : (cap : Int) < (n : Int) + 1 := by omega
  have hkk : (n : Int) + 1 - (i : Int) = ((n + 1 - i : Nat) : Int) := by omega
  have hik : i + (n + 1 - i) = n + 1 := by omega
  have hold : (Builtin.firstCells i0.size i (.slice (some ⟨g, 0, none⟩) i cap)).run Try.prog w.drew = .ok (cs.take (i * 4)).toArray w.drew := by
    rw [hzs]
    exact run_firstCells_some w.drew 4 i ⟨g, 0, none⟩ i cap (cs.take (i * 4)) (by rw [List.length_take, hcl]; omega) (fun j v hj => by
      rw [Addr.add_lit, Nat.zero_add]
      rw [List.getElem?_take] at hj
      split at hj
      · exact hcs j v hj
      · cases hj)
  obtain ⟨G, hG⟩ : ∃ G, G = grownCap w (n + 1) cap 31 := ⟨_, rfl⟩
  obtain ⟨ROW, hROW⟩ : ∃ ROW : Array Value, ROW = (cs.take (i * 4)).toArray ++ Builtin.zeroCells (Value.agg #[.int .i64 0, .int .i64 0, .int .i64 0, .int .i64 0]).cells (n + 1 - i) ++ Builtin.zeroCells (Value.agg #[.int .i64 0, .int .i64 0, .int .i64 0, .int .i64 0]).cells (G - (n + 1)) := ⟨_, rfl⟩
  have hrz : ∀ ty, (Builtin.append_ #[26, 3] ty #[.slice (some ⟨g, 0, none⟩) i cap, .int .i64 ((n : Int) + 1 - (i : Int))]).run Try.prog w =
      .ok (.slice (some ⟨w.heap.size, 0, none⟩) (n + 1) G) (w.drew.alloc (.cells ROW 31)) := fun ty => by
    have h := Lib.run_append_grow_zeros w 26 3 ty 31 i0 _ .i64 .i64 Try.underlying26 Try.underlying3 hi0 hz0 (some ⟨g, 0, none⟩) i cap (cs.take (i * 4)) hold (n + 1 - i) (by omega) (by rw [hzs]; omega) (by omega) (by omega) (by rw [hzb]; omega) (by rw [hzb, hik]; exact growslice_fits hroom hbig)
    rw [hik] at h
    rw [hkk, hG, hROW, hG]
    exact h
  have hGn : n + 1 ≤ G := by rw [hG]; exact grownCap_ge w _ _ _
  have hGm : G ≤ maxLen := by rw [hG]; exact grownCap_le_maxLen w (n + 1) cap 31 (by unfold maxLen; omega)
  have hzl : ∀ m, (Builtin.zeroCells (Value.agg #[.int .i64 0, .int .i64 0, .int .i64 0, .int .i64 0]).cells m).size = m * 4 := fun m => by simp [Builtin.zeroCells, Value.cells]
  have hRs : ROW.size = G * 4 := by
    rw [hROW, Array.size_append, Array.size_append, hzl, hzl, List.size_toArray, List.length_take, hcl]
    omega
  have hRl : ∃ z1 z2 : List Value, ROW.toList = cs.take (i * 4) ++ z1 ++ z2 ∧ z1.length = (n + 1 - i) * 4 := ⟨_, _, by rw [hROW, Array.toList_append, Array.toList_append], by rw [Array.length_toList, hzl]⟩
  have hR4 : (n + 1) * 4 ≤ ROW.size := by rw [hRs]; omega
  obtain ⟨W1, hW1⟩ : ∃ W1, W1 = w.drew.alloc (.cells ROW 31) := ⟨_, rfl⟩
  rw [← hW1] at hrz
  have hN : ∀ j, j < (n + 1) * 4 → (W1.cell? ⟨w.heap.size, j, none⟩).isSome = true := fun j hj => by
    rw [hW1, World.cell?_alloc_at (w := w.drew) ROW _ w.heap.size j rfl, Array.getElem?_eq_getElem (by omega)]; rfl
  have hNf : ∀ j, W1.frozen? ⟨w.heap.size, j, none⟩ = false := fun j => by rw [hW1]; exact World.frozen?_alloc_at (w := w.drew) ROW _ w.heap.size j rfl
  have hOb : ∀ j v, w.cell? ⟨g, j, none⟩ = some v → W1.cell? ⟨g, j, none⟩ = some v := fun j v h => by rw [hW1, World.cell?_alloc_past (w := w.drew) _ g j hgw]; exact h
  have hOv : ∀ j v, w.cell? ⟨vb, j, none⟩ = some v → W1.cell? ⟨vb, j, none⟩ = some v := fun j v h => by rw [hW1, World.cell?_alloc_past (w := w.drew) _ vb j hvw]; exact h
  have hcpA : ∀ (W : World), (∀ x, W.cell? x = W1.cell? x) → (∀ x, W.frozen? x = W1.frozen? x) → ∀ ty dc, (Builtin.copy_ #[26, 26] ty #[.slice (some ⟨w.heap.size, i * 4, none⟩) (n + 1 - i) dc, .slice (some ⟨vb, 0, none⟩) 1 vc]).run Try.prog W = .ok (goInt (1 : Nat)) (W.setCells w.heap.size (i * 4) vs) := fun W hWc hWf ty dc =>
    ins_copy W _ _ ty 31 4 1 w.heap.size (i * 4) (n + 1 - i) dc ⟨vb, 0, none⟩ 1 vc vs Try.underlying26 hsz (by simp only [Nat.min_def]; split <;> omega) (by rw [hvl])
      (fun j v hj => by rw [Addr.add_lit, hWc, Nat.zero_add]; exact hOv _ v (hvs j v hj))
      (fun j hj => by rw [hWc]; exact hN _ (by omega)) (fun j hj => by rw [hWf]; exact hNf _) h1v
  have hG63 : G ≤ 9223372036854775807 := by have := hGm; unfold maxLen at this; omega
  have hGi : ¬ (G = i) := by omega
  have hGim : ¬ (G = i + 1) := by omega
  have hci : ¬ (cap = i) := by omega
  have hbN : g ≠ w.heap.size := by omega
  have hdl : (cs.drop (i * 4)).length = (n - i) * 4 := by rw [List.length_drop, hcl, Nat.sub_mul]
  have hcpB : ∀ (W : World), (∀ x, W.cell? x = (W1.setCells w.heap.size (i * 4) vs).cell? x) → (∀ x, W.frozen? x = (W1.setCells w.heap.size (i * 4) vs).frozen? x) → ∀ ty dc sc, (Builtin.copy_ #[26, 26] ty #[.slice (some ⟨w.heap.size, (i + 1) * 4, none⟩) (n - i) dc, .slice (some ⟨g, i * 4, none⟩) (n - i) sc]).run Try.prog W = .ok (goInt (n - i : Nat)) (W.setCells w.heap.size ((i + 1) * 4) (cs.drop (i * 4))) := fun W hWc hWf ty dc sc =>
    ins_copy W _ _ ty 31 4 (n - i) w.heap.size ((i + 1) * 4) (n - i) dc ⟨g, i * 4, none⟩ (n - i) sc (cs.drop (i * 4)) Try.underlying26 hsz (by simp only [Nat.min_def]; split <;> omega) hdl
      (fun j v hj => by
        rw [Addr.add_lit, hWc, World.cell?_setCells_out _ _ _ _ _ (fun h _ => absurd h hbN)]
        exact hOb _ v (hcs (i * 4 + j) v (by rwa [List.getElem?_drop] at hj)))
      (fun j hj => by rw [hWc]; exact World.isSome_setCells _ _ _ _ _ (hN _ (by omega)))
      (fun j hj => by rw [hWf, World.frozen?_setCells]; exact hNf _) (fun v hv => h1c v (List.mem_of_mem_drop hv))
  subst hW1
  have hE1 : ∀ x, ((w.alloc (.cells ROW 31)).drew).cell? x = (w.drew.alloc (.cells ROW 31)).cell? x := fun x => rfl
  have hE2 : ∀ x, ((w.alloc (.cells ROW 31)).drew).frozen? x = (w.drew.alloc (.cells ROW 31)).frozen? x := fun x => rfl
  have hF1 : ∀ x, (((w.alloc (.cells ROW 31)).drew.setCells w.heap.size (i * 4) vs).drew).cell? x = ((w.drew.alloc (.cells ROW 31)).setCells w.heap.size (i * 4) vs).cell? x := fun x => rfl
  have hF2 : ∀ x, (((w.alloc (.cells ROW 31)).drew.setCells w.heap.size (i * 4) vs).drew).frozen? x = ((w.drew.alloc (.cells ROW 31)).setCells w.heap.size (i * 4) vs).frozen? x := fun x => rfl
  have hw1 : IntKind.i64.wrap ((i : Int) + 1) = (i : Int) + 1 := by rw [IntKind.wrap_i64]; omega
  have hb1 : (0 : Int) ≤ (i : Int) + 1 := by omega
  have hin : i ≤ n := by omega
  have htn : ((i : Int) + 1).toNat = i + 1 := by omega
  have hb3 : (i : Int) ≤ (n : Int) := by omega
  have HX : Aside0 (n + 1 ≤ G ∧ G ≤ maxLen ∧ ROW.size = G * 4 ∧ (∃ z1 z2 : List Value, ROW.toList = cs.take (i * 4) ++ z1 ++ z2 ∧ z1.length = (n + 1 - i) * 4)) := ⟨⟨hGn, hGm, hRs, hRl⟩⟩
  clear hkk hik hold hROW hG hRl hRs hGm hzl hR4 hi0 hz0 hzs hzb hdl
  go_enter Try.func33, Try.ntmps33
  go_wp2_with (first
    | (at_builtin; refine Lib.wpList_append_run _ rfl _ _ _ _ rfl _ _ rfl rfl _ _ (hrz _) ?_)
    | (at_builtin; refine wpList_ins_copy _ rfl _ _ 26 26 rfl _ _ rfl rfl (hcpA _ hE1 hE2 _ _) ?_)
    | (at_builtin; refine wpList_ins_copy _ rfl _ _ 26 26 rfl _ _ rfl rfl (hcpB _ (fun _ => rfl) (fun _ => rfl) _ _ _) ?_))
  go_region_law (refine step_ins_copy rfl _ _ 26 26 rfl (.slice (some ⟨w.heap.size, (i + 1) * 4, none⟩) (n - i) (G - (i + 1))) (.slice (some ⟨g, i * 4, none⟩) (n - i) (cap - i)) (by simp [Act.eval, Act.put]) (by simp [Act.eval, Act.put]) (hcpB _ hF1 hF2 3 (G - (i + 1)) (cap - i)) ?_)
  go_wp2
  go_ret
  exact ⟨G, ROW, rfl, HX.out.1, HX.out.2.1, HX.out.2.2.1, HX.out.2.2.2, rfl⟩
theorem ins_below {B b : Nat} {a : World} (hb : B ≤ b) : ∀ (vs : List Value) (o : Nat) (w : World), Below B a w → Below B a (w.setCells b o vs)
  | [], _, _, h => h
  | v :: r, o, w, h => by
    rw [World.setCells]
    exact ins_below hb r (o + 1) _ (h.setCell hb v)
theorem ins_kept {w W : World} {S : Nat → Prop} {g : Nat} (h : Kept w W S) (hg : S g ∨ w.heap.size ≤ g) (vs : List Value) (o : Nat) : Kept w (W.setCells g o vs) S :=
  h.then_ (S2 := fun k => k = g) ⟨Nat.le_of_eq (setCells_same g vs o W).2.2.2.symm, fun i _ hn => setCells_far vs o i hn⟩ (fun k hk => by rw [hk]; exact hg)
theorem ins_one {w : World} {base : Nat} {ok : Nat → Prop} {ps : List S31} {cs : List Value} (h : Reps (k31.M w base ok) 4 ps cs) : ∀ u ∈ cs, u.oneCell' = true :=
  Kd.reps_one h (by omega) (fun p c hc u hu => by
    obtain rfl := k31_openM hc
    simp only [List.mem_cons, List.not_mem_nil, or_false] at hu
    rcases hu with rfl | rfl | rfl | rfl <;> rfl)
theorem ins_list1 {α : Type} (C X v : List α) (p q m : Nat) (hp : p + q ≤ C.length) (hv : v.length = q) (hm : m = p + q + X.length) (o : Nat) (ho : o = p + q) (e : List α) :
    (((C.take o ++ X ++ e).take p ++ v ++ (C.take o ++ X ++ e).drop (p + q)).take m) = C.take p ++ v ++ X := by
  subst ho hm
  have h1 : (C.take (p + q) ++ X ++ e).take p = C.take p := by
    rw [List.append_assoc, List.take_append_of_le_length (by rw [List.length_take]; omega), List.take_take, Nat.min_eq_left (by omega)]
  have h2 : (C.take (p + q) ++ X ++ e).drop (p + q) = X ++ e := by
    rw [List.append_assoc, List.drop_left' (by rw [List.length_take]; omega)]
  rw [h1, h2, ← List.append_assoc, List.take_left' (by rw [List.length_append, List.length_append, List.length_take, hv]; omega)]
theorem ins_list2 {α : Type} (T X v z e e2 : List α) (p q m o : Nat) (hT : T.length = p) (hv : v.length = q) (hm : m = p + q + X.length) (ho : o = p + q) :
    (((T ++ z).take p ++ v ++ e).take o ++ X ++ e2).take m = T ++ v ++ X := by
  subst ho hm
  have h1 : (T ++ z).take p = T := List.take_left' hT
  have h2 : (T ++ v ++ e).take (p + q) = T ++ v := List.take_left' (by rw [List.length_append, hT, hv])
  rw [h1, h2]
  exact List.take_left' (by rw [List.length_append, List.length_append, hT, hv])
/-- the row that is left, out of its cells -/
theorem ins_row {w w' : World} {base0 base base2 g cap i n : Nat} {ok ok2 okr : Nat → Prop} {l0 : List S31} {c : S31} {inner inner2 : List Value} {cur : Array Value}
    (h0 : Reps (k31.M w base0 ok) 4 l0 inner) (h2 : Reps (k31.M w base2 ok2) 4 [c] inner2) (hn : l0.length = n) (hi : i ≤ n) (hh : w'.heap[g]? = some (.cells cur 31 (0, 0))) (hb : base ≤ g) (hok : okr g) (hcap : n + 1 ≤ cap) (hcm : cap ≤ maxLen) (hcs : cur.size = cap * 4)
    (ht : cur.toList.take ((n + 1) * 4) = inner.take (i * 4) ++ inner2 ++ inner.drop (i * 4)) : Kd.R k31 31 w' base okr (.slice (some ⟨g, 0, none⟩) (n + 1) cap) (l0.take i ++ [c] ++ l0.drop i) := by
  have hl : (l0.take i ++ [c] ++ l0.drop i).length = n + 1 := by simp [hn]; omega
  have hr : Reps (k31.M w' base (fun k => okr k ∧ some k ≠ (Value.slice (some ⟨g, 0, none⟩) (n + 1) cap).ownBlock)) 4 (l0.take i ++ [c] ++ l0.drop i) (inner.take (i * 4) ++ inner2 ++ inner.drop (i * 4)) :=
    Kd.reps_append (Kd.reps_append ((Kd.reps_take h0 (by omega)).imp_ (fun p z hz => by obtain rfl := k31_openM hz; exact k31_mkM _ _ _ _)) (h2.imp_ (fun p z hz => by obtain rfl := k31_openM hz; exact k31_mkM _ _ _ _))) ((Kd.reps_drop h0).imp_ (fun p z hz => by obtain rfl := k31_openM hz; exact k31_mkM _ _ _ _))
  refine ⟨fun k hk => ?_, _, ⟨hr.1, .inr ⟨g, cap, cur, ?_, hb, hh, ?_, hcm, hcs, ?_⟩⟩, hr⟩
  · have : g = k := by simpa [Value.ownBlock] using hk
    exact this ▸ hok
  · rw [hl]
  · rw [hl]; exact hcap
  · rw [hl]; exact ht
def impl_Claim_33.f (l0 : List (S31)) (a1 : Int) (l2 : List (S31)) : Option (List (S31)) := if 0 ≤ a1 then (if a1 ≤ (l0.length : Int) then (if l2.length = 1 then (if l0.length < 4398046511103 then some (l0.take a1.toNat ++ l2 ++ l0.drop a1.toNat) else none) else none) else none) else none
set_option maxHeartbeats 8000000 in
set_option maxRecDepth 100000 in
theorem impl_Claim_33.calls (P0_ : Nat → Prop) (u9000_ : Value) (l0 : List (S31)) (a1 : Int) (P2_ : Nat → Prop) (u9001_ : Value) (l2 : List (S31)) (r : List (S31)) (w0 w : World) (hB : Below w0.heap.size w0 w) (ho0 : Kd.R k31 31 w w0.heap.size P0_ u9000_ l0) (hp0_2 : ∀ k_, P0_ k_ → ¬ P2_ k_) (ho2 : Kd.R k31 31 w w0.heap.size P2_ u9001_ l2) (hp2_0 : ∀ k_, P2_ k_ → ¬ P0_ k_) (h : impl_Claim_33.f l0 a1 l2 = some r) :
    Calls Try.prog 33 #[u9000_, .int .i64 a1, u9001_] w fun e w' => ∃ v0_ : Value, e = .returned (v0_) ∧ Kd.R k31 31 w' w0.heap.size (fun k_ => ((P0_ k_ ∨ P2_ k_) ∨ w.heap.size ≤ k_)) v0_ r ∧ Below w0.heap.size w0 w' ∧ Kept w w' (fun k_ => P0_ k_ ∨ P2_ k_) := by
  unfold impl_Claim_33.f at h
  by_cases c1 : 0 ≤ a1
  rotate_left
  · rw [if_neg c1] at h; exact absurd h (by simp)
  rw [if_pos c1] at h
  by_cases c2 : a1 ≤ (l0.length : Int)
  rotate_left
  · rw [if_neg c2] at h; exact absurd h (by simp)
  rw [if_pos c2] at h
  by_cases c3 : l2.length = 1
  rotate_left
  · rw [if_neg c3] at h; exact absurd h (by simp)
  rw [if_pos c3] at h
  by_cases c4 : l0.length < 4398046511103
  rotate_left
  · rw [if_neg c4] at h; exact absurd h (by simp)
  rw [if_pos c4] at h
  obtain rfl := Option.some.inj h
  clear h
  obtain ⟨i, rfl⟩ : ∃ i : Nat, a1 = (i : Int) := ⟨a1.toNat, by omega⟩
  obtain ⟨c, rfl⟩ : ∃ c, l2 = [c] := List.length_eq_one_iff.1 c3
  rw [Int.toNat_natCast]
  have hR2 := Kd.R_reads ho2
  have HO0 := Aside0.mk ho0
  have HO2 := Aside0.mk ho2
  obtain ⟨hP0, inner, ⟨hil, hown⟩, hreps⟩ := ho0
  obtain ⟨hP2, inner2, ⟨hil2, hown2⟩, hreps2⟩ := ho2
  rcases hown2 with ⟨rfl, h0⟩ | ⟨vb, vc, cur2, rfl, hvb, hh2, hnc2, hcm2, hcs2, htk2⟩
  · simp at h0
  have hp2 := hP2 vb rfl
  by_cases he : i = l0.length
  · subst he
    have e1 : l0.take l0.length ++ [c] ++ l0.drop l0.length = l0 ++ [c] := by simp
    rw [e1]
    have HL := Aside0.mk c4
    clear c1 c2 c3 c4 e1
    have fin : ∀ (v1 : Value) (w1 : World), Kd.R k31 31 w1 w0.heap.size (fun k_ => ((P0_ k_ ∨ P2_ k_) ∨ w.heap.size ≤ k_)) v1 (l0 ++ [c]) → Below w0.heap.size w0 w1 → w.grownBy w1 u9000_.ownBlock → ∃ v0_ : Value, Ending.returned v1 = .returned (v0_) ∧ Kd.R k31 31 w1 w0.heap.size (fun k_ => ((P0_ k_ ∨ P2_ k_) ∨ w.heap.size ≤ k_)) v0_ (l0 ++ [c]) ∧ Below w0.heap.size w0 w1 ∧ Kept w w1 (fun k_ => P0_ k_ ∨ P2_ k_) :=
      fun v1 w1 hr hb hg => ⟨v1, rfl, hr, hb, Kept.of_grown hg (Kept.refl w _) (fun k hk => .inl (.inl (hP0 k hk)))⟩
    have FIN := Aside0.mk fin
    have HB := Aside0.mk hB
    clear fin hB
    rcases hown with ⟨rfl, h0⟩ | ⟨g, cap, cur, rfl, hg, hh, hnc, hcm, hcs, htk⟩
    · have hl0 : l0 = [] := List.length_eq_zero_iff.1 h0
      subst hl0
      clear h0 hreps hil hreps2 hil2 hh2 hnc2 hcm2 hcs2 htk2 hvb hP0 hP2 hR2 hp2
      go_enter Try.func33, Try.ntmps33
      go_wp2_with (first
        | ((with_reducible refine gate_builtin (b := .append) (xs := #[.tmp 23, .tmp 24]) rfl ?_); at_builtin; refine Kd.R_append_rows k31 (w0 := w0) w0.heap.size rfl (.tmp 23) (.tmp 24) 26 31 (.agg #[(.int .i64 0), (.int .i64 0), (.int .i64 0), (.int .i64 0)]) 32 rfl Try.underlying26 info31 rfl (by decide) (by omega) (.slice none 0 0) ([] : List S31) [c] _ _ _ (fun k_ => ((P0_ k_ ∨ P2_ k_) ∨ w.heap.size ≤ k_)) (fun _ => False) rfl rfl ?aO ?aR (fun _ _ h => h) (fun _ h => h.elim) ?aF ?aB ?aS ?aL ?_; (case aR => exact (Kd.R_reads' HO2.out).2.2); (case aB => exact HB.out); (case aF => exact (fun _ hk => .inr hk)); (case aO => exact Kd.R_nil _ _ _ _ _); (case aS => exact HB.out.size); (case aL => simp only [List.length_nil]; omega); intro v7 w7 ho hb hg hat; clear hat))
      all_goals (go_ret; exact FIN.out _ _ ho hb hg)
    · clear hreps hil hreps2 hil2 hh2 hnc2 hcm2 hcs2 htk2 hvb hP2 hR2 hp2 hP0 hh hcs htk hg
      have HN := Aside0.mk hnc
      have HM := Aside0.mk hcm
      clear hcm
      go_enter Try.func33, Try.ntmps33
      go_wp2_with (first
        | ((with_reducible refine gate_builtin (b := .append) (xs := #[.tmp 23, .tmp 24]) rfl ?_); at_builtin; refine Kd.R_append_rows k31 (w0 := w0) w0.heap.size rfl (.tmp 23) (.tmp 24) 26 31 (.agg #[(.int .i64 0), (.int .i64 0), (.int .i64 0), (.int .i64 0)]) 32 rfl Try.underlying26 info31 rfl (by decide) (by omega) _ l0 [c] _ _ _ (fun k_ => ((P0_ k_ ∨ P2_ k_) ∨ w.heap.size ≤ k_)) (fun _ => False) rfl rfl ?aO ?aR (fun _ _ h => h) (fun _ h => h.elim) ?aF ?aB ?aS ?aL ?_; (case aR => exact (Kd.R_reads' HO2.out).2.2); (case aB => exact HB.out); (case aF => exact (fun _ hk => .inr hk)); (case aO => exact Kd.R_mono HO0.out (fun _ hk => .inl (.inl hk))); (case aS => exact HB.out.size); (case aL => have := HL.out; omega); intro v7 w7 ho hb hg hat; clear hat))
      all_goals (go_ret; exact FIN.out _ _ ho hb hg)
  · rcases hown with ⟨rfl, h0⟩ | ⟨g, cap, cur, rfl, hg, hh, hnc, hcm, hcs, htk⟩
    · omega
    have hp0 := hP0 g rfl
    have hvg : vb ≠ g := fun e => hp0_2 g hp0 (e ▸ hp2)
    have hgw : g < w.heap.size := blk_lt hh
    have hvw : vb < w.heap.size := blk_lt hh2
    have hil' : inner.length = l0.length * 4 := hil
    have hil2' : inner2.length = 4 := by rw [hil2]; rfl
    have hcs' : cur.size = cap * 4 := hcs
    have hcs2' : cur2.size = vc * 4 := hcs2
    have hnc2' : 1 ≤ vc := hnc2
    have htk' : cur.toList.take (l0.length * 4) = inner := htk
    have htk2' : cur2.toList.take 4 = inner2 := htk2
    have hcellg : ∀ j v, inner[j]? = some v → w.cell? ⟨g, j, none⟩ = some v := fun j v hj => by
      rw [blk_cell hh j]
      rw [← htk', List.getElem?_take] at hj
      split at hj
      · simpa using hj
      · cases hj
    have hcellv : ∀ j v, inner2[j]? = some v → w.cell? ⟨vb, j, none⟩ = some v := fun j v hj => by
      rw [blk_cell hh2 j]
      rw [← htk2', List.getElem?_take] at hj
      split at hj
      · simpa using hj
      · cases hj
    have h1c := ins_one hreps
    have h1v := ins_one hreps2
    have hin : i ≤ l0.length := by omega
    by_cases hroom : l0.length + 1 ≤ cap
    · refine (ins_room g l0.length cap i vb vc inner inner2 w (by omega) hroom (by unfold maxLen at hcm; omega) hvg hil' hil2' hcellg ?_ (fun j => blk_frozen hh j) hcellv h1c h1v 31 31 cur2.size cur.size ?_ ?_ (by omega) (fun j => blk_frozen hh2 j)).mono ?_
      · intro j hj
        rw [blk_cell hh j, Array.getElem?_eq_getElem (by omega)]; rfl
      · simp [World.shape?, hh2]
      · simp [World.shape?, hh]
      rintro e w' ⟨rfl, rfl⟩
      have hd : (inner.drop (i * 4)).length = (l0.length - i) * 4 := by rw [List.length_drop, hil', Nat.sub_mul]
      obtain ⟨cur3, h3, h4, h5⟩ := setCells_row (inner.drop (i * 4)) ((i + 1) * 4) w.drew cur hh (by omega)
      obtain ⟨cur4, h6, h7, h8⟩ := setCells_row inner2 (i * 4) _ cur3 h3 (by omega)
      refine ⟨_, rfl, ins_row hreps hreps2 rfl hin h6 hg (.inl (.inl hp0)) hroom hcm (by omega) ?_, ins_below hg _ _ _ (ins_below hg _ _ _ (below_drew1 hB)), ins_kept (ins_kept (Kept.drew (Kept.refl w _)) (.inl (.inl hp0)) _ _) (.inl (.inl hp0)) _ _⟩
      rw [h8, h5, hil2', ins_list1 cur.toList (inner.drop (i * 4)) inner2 (i * 4) 4 ((l0.length + 1) * 4) (by rw [Array.length_toList]; omega) hil2' (by omega) ((i + 1) * 4) (by omega) _, ← htk', List.take_take, Nat.min_eq_left (by omega)]
    · refine (ins_grow g l0.length cap i vb vc inner inner2 w (by omega) hnc (by omega) (by omega) hil' hil2' hcellg hgw hvw hcellv h1c h1v).mono ?_
      rintro e w' ⟨G, ROW, rfl, hG1, hG2, hG3, ⟨z1, z2, hz1, hz2⟩, rfl⟩
      have hd : (inner.drop (i * 4)).length = (l0.length - i) * 4 := by rw [List.length_drop, hil', Nat.sub_mul]
      have hA : ((w.alloc (.cells ROW 31)).drew).heap[w.heap.size]? = some (.cells ROW 31 (0, 0)) := heap_alloc_new w _
      obtain ⟨cur3, h3, h4, h5⟩ := setCells_row inner2 (i * 4) _ ROW hA (by omega)
      obtain ⟨cur4, h6, h7, h8⟩ := setCells_row (inner.drop (i * 4)) ((i + 1) * 4) (((w.alloc (.cells ROW 31)).drew.setCells w.heap.size (i * 4) inner2).drew) cur3 h3 (by omega)
      refine ⟨_, rfl, ins_row hreps hreps2 rfl hin h6 hB.size (.inr (Nat.le_refl _)) hG1 hG2 (by omega) ?_, ins_below hB.size _ _ _ (below_drew1 (ins_below hB.size _ _ _ (below_drew1 (hB.alloc hB.size _)))), ins_kept (Kept.drew (ins_kept (Kept.drew (Kept.alloc (Kept.refl w _) _)) (.inr (Nat.le_refl _)) _ _)) (.inr (Nat.le_refl _)) _ _⟩
      rw [h8, h5, hil2', hz1, List.append_assoc (inner.take (i * 4)) z1 z2]
      exact ins_list2 _ _ _ _ _ _ _ 4 _ _ (by rw [List.length_take]; omega) hil2' (by omega) (by omega)

end Go.Proofs.Ytejodgcojcombaa.MFnExactMergeViews
