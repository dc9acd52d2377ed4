/- How the arguments of the law FnExactClearWaits open, and what is left to be proved of numbers and lists alone. -/
import Derived.Test.YtijeopohnhlpoaaMFnExactClearWaitsx7
import Derived.Test.YtijeopohnhlpoaaOpen
import Derived.KernelRfl
namespace Go.Proofs.Ytijeopohnhlpoaa.Pure
open Go.RowKit Go.Proofs.Ytijeopohnhlpoaa.Open Go.Proofs.Ytijeopohnhlpoaa.MFnExactClearWaits Go.Proofs.YtijeopohnhlpoaaW.PrintWords Go.Proofs.YtijeopohnhlpoaaW.PrintLast
set_option linter.unusedVariables false
def G38 (x : S38) : Prop := (Lit.int .i64 x.f0).wf = true ∧ ((Lit.int .i64 x.f1).wf = true ∧ ((Lit.int .i64 x.f2).wf = true ∧ ((Lit.int .i64 x.f3).wf = true ∧ ((Lit.int .i64 x.f4).wf = true ∧ ((Lit.int .i64 x.f5).wf = true ∧ (Lit.int .i64 x.f6).wf = true)))))
theorem open38 : Opens Try.prog 38 k38 G38 :=
  Opens.struct (fun x : S38 => (x.f0, x.f1, x.f2, x.f3, x.f4, x.f5, x.f6)) (fun p => ⟨p.1, p.2.1, p.2.2.1, p.2.2.2.1, p.2.2.2.2.1, p.2.2.2.2.2.1, p.2.2.2.2.2.2⟩) (fun _ => rfl) Try.underlying38 (by kernel_rfl) (OpensF.cons rfl (Opens.int Try.underlying2 (by kernel_rfl)) (OpensF.cons rfl (Opens.int Try.underlying2 (by kernel_rfl)) (OpensF.cons rfl (Opens.int Try.underlying2 (by kernel_rfl)) (OpensF.cons rfl (Opens.int Try.underlying2 (by kernel_rfl)) (OpensF.cons rfl (Opens.int Try.underlying2 (by kernel_rfl)) (OpensF.cons rfl (Opens.int Try.underlying2 (by kernel_rfl)) (OpensF.last rfl (Opens.int Try.underlying2 (by kernel_rfl)))))))))
/-- The one pure statement. -/
def FnExactClearWaits_stated : Prop := ∀ (l0 : List (S38)) (a1 : Int), l0.length ≤ maxLen → (∀ y ∈ l0, G38 y) → (Lit.int .i64 a1).wf = true → ∃ k, laws_FnExactClearWaits.f k l0 a1 = some true
end Go.Proofs.Ytijeopohnhlpoaa.Pure
