/- How the arguments of the law FnExactWaitsFault open, and what is left to be proved of numbers and lists alone. -/
import Derived.Test.YtldhhghppgkeaaaMFnExactWaitsFaultx4
import Derived.Test.YtldhhghppgkeaaaOpen
import Derived.KernelRfl
namespace Go.Proofs.Ytldhhghppgkeaaa.Pure
open Go.RowKit Go.Proofs.Ytldhhghppgkeaaa.Open Go.Proofs.Ytldhhghppgkeaaa.MFnExactWaitsFault Go.Proofs.YtldhhghppgkeaaaW.PrintWords Go.Proofs.YtldhhghppgkeaaaW.PrintLast
set_option linter.unusedVariables false
def G92 (x : S92) : Prop := (Lit.int .i64 x.f0).wf = true ∧ ((Lit.int .i64 x.f1).wf = true ∧ ((Lit.int .i64 x.f2).wf = true ∧ ((Lit.int .i64 x.f3).wf = true ∧ ((Lit.int .i64 x.f4).wf = true ∧ ((Lit.int .i64 x.f5).wf = true ∧ (Lit.int .i64 x.f6).wf = true)))))
theorem open92 : Opens Try.prog 92 k92 G92 :=
  Opens.struct (fun x : S92 => (x.f0, x.f1, x.f2, x.f3, x.f4, x.f5, x.f6)) (fun p => ⟨p.1, p.2.1, p.2.2.1, p.2.2.2.1, p.2.2.2.2.1, p.2.2.2.2.2.1, p.2.2.2.2.2.2⟩) (fun _ => rfl) Try.underlying92 (by kernel_rfl) (OpensF.cons rfl (Opens.int Try.underlying2 (by kernel_rfl)) (OpensF.cons rfl (Opens.int Try.underlying2 (by kernel_rfl)) (OpensF.cons rfl (Opens.int Try.underlying2 (by kernel_rfl)) (OpensF.cons rfl (Opens.int Try.underlying2 (by kernel_rfl)) (OpensF.cons rfl (Opens.int Try.underlying2 (by kernel_rfl)) (OpensF.cons rfl (Opens.int Try.underlying2 (by kernel_rfl)) (OpensF.last rfl (Opens.int Try.underlying2 (by kernel_rfl)))))))))
/-- The one pure statement. -/
def FnExactWaitsFault_stated : Prop := ∀ (l0 : List (S92)), l0.length ≤ maxLen → (∀ y ∈ l0, G92 y) → ∃ k, laws_FnExactWaitsFault.f k l0 = some true
end Go.Proofs.Ytldhhghppgkeaaa.Pure
