/- The law FnExactOpenLetter holds: its row, out of the pure statement and the printed contract. -/
import Derived.Test.YtiioiohdifkbgaaRows
import Derived.Test.YtiioiohdifkbgaaPureFnExactOpenLetter
import Derived.WalkKit
import Derived.ProofKit
import Derived.OpenShut
import Derived.ShutString
import Derived.ChangeOld
import Derived.Below
import Derived.SizedLaws
namespace Go.Proofs.Ytiioiohdifkbgaa.fnExactOpenLetter
open Go.ChangeShapes Go.WideShapes Go.ChangeAt Go.RowKit
open Go.ChangeMaps (open_string shut_string)
open Go.Proofs.Ytiioiohdifkbgaa.Open Go.Proofs.Ytiioiohdifkbgaa.Pure Go.Proofs.Ytiioiohdifkbgaa.MFnExactOpenLetter Go.Proofs.YtiioiohdifkbgaaW.PrintWords
set_option linter.unusedVariables false
theorem own : ownKnob Try.prog.godebug = none := by kernel_rfl
theorem laidOut : laidOutB Try.prog = true := by kernel_rfl
set_option maxRecDepth 100000 in
theorem lifted (os : Os) (started : os.Started) (H : Type) (enc : TypeId × Value → H) :
    ReturnsInHanded {} Try.checked os 3 .any (Rows.fnExactOpenLetterSpec.pre6 enc Try.prog Try.f3 Rows.fnExactOpenLetterRow.domain false) (Rows.fnExactOpenLetterSpec.post enc Try.prog Try.f3 false true false false) := by
  refine returnsInHanded_of_change_sized (C := Try.checked) own started (by kernel_rfl) Try.func3
    (ChangeSpec.witness6 (enc := enc) (C := Try.checked) false ⟨#[], #[.agg #[.int .i64 0, .slice none 0 0], .slice none 0 0], []⟩ 8 (by kernel_rfl) (by kernel_rfl) (by kernel_rfl) (by kernel_rfl)) ?_
  intro W base args ds gs before hval0 hW hcnd hsz0 _
  have hval : ∀ (j : Nat) t v, Try.f3.params[j]? = some t → args[j]? = some v → Value.okWide Try.prog W .any base t v := hval0
  have hW' := hW
  obtain ⟨p, q, hA0, hV, rfl, hfz, hnd⟩ := hW
  have hA : DataW.TrodAll enc Try.prog W 0 (fun _ => true) true Try.f3.params.toList args.toList ds p := hA0
  rw [Try.params3] at hA hval
  obtain ⟨v0, vs0, d0, ds0, p0, q0, hargs, rfl, rfl, h0, r0⟩ := trodAll_cons hA
  obtain ⟨v1, vs1, d1, ds1, p1, q1, rfl, rfl, rfl, h1, r1⟩ := trodAll_cons r0
  obtain ⟨rfl, rfl, rfl⟩ := trodAll_nil r1
  obtain rfl : args = #[v0, v1] := by cases args; simp_all
  obtain ⟨rfl, rfl⟩ := trodVars_none hV
  have k0 := h0
  have lt0 : ∀ x ∈ p0, x.block < W.heap.size := by obtain ⟨m, hm⟩ := k0; exact DataW.trod_lt m _ _ _ hm
  obtain ⟨⟨y0_0, y0_1⟩, cs0, hv0, hk0, hg0⟩ := open_agg (d := Kd.iso (Kd.pair (Kd.int .i64) (Kd.slice 100 (k100))) id) Try.underlying24 (Opens.struct (d := (Kd.pair (Kd.int .i64) (Kd.slice 100 (k100)))) id id (fun _ => rfl) Try.underlying24 (by kernel_rfl) (OpensF.cons rfl (Opens.int Try.underlying2 (by kernel_rfl)) (OpensF.last rfl (Opens.slice Try.underlying22 (by kernel_rfl) open100)))) (hval 0 24 v0 rfl rfl) h0
  obtain ⟨_, _, rfl, rfl, ⟨A0_1, c0_1, rfl, hc0_1, hr0_1⟩⟩ := hk0
  obtain ⟨g0_0, g0_1⟩ := hg0
  obtain rfl : v0 = .agg #[.int .i64 y0_0, .slice A0_1 y0_1.length c0_1] := hv0
  have k1 := h1
  have lt1 : ∀ x ∈ p1, x.block < W.heap.size := by obtain ⟨m, hm⟩ := k1; exact DataW.trod_lt m _ _ _ hm
  obtain ⟨A1, c1, l1, rfl, hr1, hc1, hl1, hg1⟩ := open_slice Try.underlying25 (by kernel_rfl) (Opens.int Try.underlying5 (by kernel_rfl)) (hval 1 25 v1 rfl rfl) h1
  have q1 := hl1
  have z1 := hg1
  clear hA0 hval0 hsz0
  obtain ⟨k, hf⟩ := Pure.FnExactOpenLetter y0_0 y0_1 l1 g0_0 g0_1 q1 z1
  refine (laws_FnExactOpenLetter.calls k y0_0 A0_1 c0_1 y0_1 A1 c1 l1 true W hr0_1 hc0_1 hr1 hc1 hf).mono fun e W' ⟨he, bel0⟩ => ?_
  have bel : Below W.heap.size W W' := bel0
  subst he
  exact ⟨_, rfl, _, _, _, [], _, [], hW', trodAll_mk1 (shut_bool Try.underlying4 _), (trodAll_cons_mk (Below.trod laidOut (by kernel_rfl) (of_decide_eq_true (by kernel_rfl)) k0 bel lt0) (trodAll_cons_mk (Below.trod laidOut (by kernel_rfl) (of_decide_eq_true (by kernel_rfl)) k1 bel lt1) trodAll_mk0)), rfl, bel.frame _, fun h => by cases h⟩
theorem over : Rows.fnExactOpenLetterRow.holds Try.pinned (OpenSpec.ofChange Rows.fnExactOpenLetterSpec) :=
  OpenClaim.holds_of_wide 3 Try.f3 rfl rfl rfl rfl rfl rfl rfl ⟨rfl, rfl, rfl, rfl, rfl⟩ rfl rfl rfl rfl rfl (by kernel_rfl) Try.func3 (by kernel_rfl)
    (of_decide_eq_true (by kernel_rfl)) (by unfold Func.isWrapper; first | (rw [if_pos (by decide +kernel)]; kernel_rfl) | (rw [if_neg (by decide +kernel)]; exact ⟨rfl, rfl⟩))
    (fun os started H enc _ => lifted os started H enc)
theorem proved : Rows.FnExactOpenLetterSaid := over
#print axioms proved
end Go.Proofs.Ytiioiohdifkbgaa.fnExactOpenLetter
namespace Go.Proofs.Ytiioiohdifkbgaa
/-- The row, under a short name, for the claim. -/
theorem fnExactOpenLetter_holds : Rows.FnExactOpenLetterSaid := fnExactOpenLetter.proved
end Go.Proofs.Ytiioiohdifkbgaa
