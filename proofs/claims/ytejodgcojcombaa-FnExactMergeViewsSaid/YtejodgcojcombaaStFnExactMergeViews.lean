/- How the arguments of the law FnExactMergeViews open, and what is left to be proved of numbers and lists alone. -/
import Derived.Test.YtejodgcojcombaaMFnExactMergeViewsx7
import Derived.Test.YtejodgcojcombaaOpFnExactMergeViews
import Derived.KernelRfl
namespace Go.Proofs.Ytejodgcojcombaa.Pure
open Go.RowKit Go.Proofs.Ytejodgcojcombaa.Open Go.Proofs.Ytejodgcojcombaa.MFnExactMergeViews Go.Proofs.YtejodgcojcombaaW.PrintWords Go.Proofs.YtejodgcojcombaaW.PrintLast
set_option linter.unusedVariables false
def G24 (x : S24) : Prop := (Lit.int .i64 x.f0).wf = true ∧ ((Lit.int .i64 x.f1).wf = true ∧ ((Lit.int .i64 x.f2).wf = true ∧ (Lit.int .i64 x.f3).wf = true))
theorem open24 : Opens Try.prog 24 k24 G24 :=
  Opens.struct (fun x : S24 => (x.f0, x.f1, x.f2, x.f3)) (fun p => ⟨p.1, p.2.1, p.2.2.1, p.2.2.2⟩) (fun _ => rfl) Try.underlying24 (by kernel_rfl) (OpensF.cons rfl (Opens.int Try.underlying2 (by kernel_rfl)) (OpensF.cons rfl (Opens.int Try.underlying2 (by kernel_rfl)) (OpensF.cons rfl (Opens.int Try.underlying2 (by kernel_rfl)) (OpensF.last rfl (Opens.int Try.underlying2 (by kernel_rfl))))))
/-- The one pure statement. -/
def FnExactMergeViews_stated : Prop := ∀ (l0 : List (S24)) (l1 : List (S24)), l0.length ≤ maxLen → (∀ y ∈ l0, G24 y) → l1.length ≤ maxLen → (∀ y ∈ l1, G24 y) → ∃ k, laws_FnExactMergeViews.f k l0 l1 = some true
end Go.Proofs.Ytejodgcojcombaa.Pure
