/- How the arguments of the law FnExactBuryBy open, and what is left to be proved of numbers and lists alone. -/
import Derived.Test.YtijeopohnhlpoaaMFnExactBuryByx7
import Derived.Test.YtijeopohnhlpoaaOpFnExactBuryBy
import Derived.KernelRfl
namespace Go.Proofs.Ytijeopohnhlpoaa.Pure
open Go.RowKit Go.Proofs.Ytijeopohnhlpoaa.Open Go.Proofs.Ytijeopohnhlpoaa.MFnExactBuryBy Go.Proofs.YtijeopohnhlpoaaW.PrintWords Go.Proofs.YtijeopohnhlpoaaW.PrintLast
set_option linter.unusedVariables false
def G64 (x : S64) : Prop := (Lit.int .i64 x.f0).wf = true ∧ ((Lit.int .i64 x.f1).wf = true ∧ ((Lit.int .i64 x.f2).wf = true ∧ (Lit.int .i64 x.f3).wf = true))
theorem open64 : Opens Try.prog 64 k64 G64 :=
  Opens.struct (fun x : S64 => (x.f0, x.f1, x.f2, x.f3)) (fun p => ⟨p.1, p.2.1, p.2.2.1, p.2.2.2⟩) (fun _ => rfl) Try.underlying64 (by kernel_rfl) (OpensF.cons rfl (Opens.int Try.underlying2 (by kernel_rfl)) (OpensF.cons rfl (Opens.int Try.underlying2 (by kernel_rfl)) (OpensF.cons rfl (Opens.int Try.underlying2 (by kernel_rfl)) (OpensF.last rfl (Opens.int Try.underlying2 (by kernel_rfl))))))
/-- The one pure statement. -/
def FnExactBuryBy_stated : Prop := ∀ (l0 : List (S64)) (y1_0 : Int) (y1_1 : Int) (y1_2 : Int) (y1_3 : Int) (y1_4 : Int) (y1_5 : Int) (y1_6 : Int), l0.length ≤ maxLen → (∀ y ∈ l0, G64 y) → (Lit.int .i64 y1_0).wf = true → (Lit.int .i64 y1_1).wf = true → (Lit.int .i64 y1_2).wf = true → (Lit.int .i64 y1_3).wf = true → (Lit.int .i64 y1_4).wf = true → (Lit.int .i64 y1_5).wf = true → (Lit.int .i64 y1_6).wf = true → ∃ k, laws_FnExactBuryBy.f k l0 y1_0 y1_1 y1_2 y1_3 y1_4 y1_5 y1_6 = some true
end Go.Proofs.Ytijeopohnhlpoaa.Pure
