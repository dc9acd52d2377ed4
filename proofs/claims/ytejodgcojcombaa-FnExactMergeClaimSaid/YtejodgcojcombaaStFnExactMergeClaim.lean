/- How the arguments of the law FnExactMergeClaim open, and what is left to be proved of numbers and lists alone. -/
import Derived.Test.YtejodgcojcombaaMFnExactMergeClaimx6
import Derived.Test.YtejodgcojcombaaOpFnExactMergeClaim
import Derived.KernelRfl
namespace Go.Proofs.Ytejodgcojcombaa.Pure
open Go.RowKit Go.Proofs.Ytejodgcojcombaa.Open Go.Proofs.Ytejodgcojcombaa.MFnExactMergeClaim Go.Proofs.YtejodgcojcombaaW.PrintWords Go.Proofs.YtejodgcojcombaaW.PrintLast
set_option linter.unusedVariables false
def G24 (x : S24) : Prop := (Lit.int .i64 x.f0).wf = true ∧ ((Lit.int .i64 x.f1).wf = true ∧ ((Lit.int .i64 x.f2).wf = true ∧ (Lit.int .i64 x.f3).wf = true))
theorem open24 : Opens Try.prog 24 k24 G24 :=
  Opens.struct (fun x : S24 => (x.f0, x.f1, x.f2, x.f3)) (fun p => ⟨p.1, p.2.1, p.2.2.1, p.2.2.2⟩) (fun _ => rfl) Try.underlying24 (by kernel_rfl) (OpensF.cons rfl (Opens.int Try.underlying2 (by kernel_rfl)) (OpensF.cons rfl (Opens.int Try.underlying2 (by kernel_rfl)) (OpensF.cons rfl (Opens.int Try.underlying2 (by kernel_rfl)) (OpensF.last rfl (Opens.int Try.underlying2 (by kernel_rfl))))))
/-- The one pure statement. -/
def FnExactMergeClaim_stated : Prop := ∀ (l0 : List (S24)) (y1_0 : Int) (y1_1 : Int) (y1_2 : Int) (y1_3 : Int), l0.length ≤ maxLen → (∀ y ∈ l0, G24 y) → (Lit.int .i64 y1_0).wf = true → (Lit.int .i64 y1_1).wf = true → (Lit.int .i64 y1_2).wf = true → (Lit.int .i64 y1_3).wf = true → ∃ k, laws_FnExactMergeClaim.f k l0 y1_0 y1_1 y1_2 y1_3 = some true
end Go.Proofs.Ytejodgcojcombaa.Pure
