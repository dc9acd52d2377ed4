/- How the arguments of the law FnExactSameViews open, and what is left to be proved of numbers and lists alone. -/
import Derived.Test.YtldhhghppgkeaaaPFnExactSameViewsx3
import Derived.Test.YtldhhghppgkeaaaOpen
import Derived.KernelRfl
namespace Go.Proofs.Ytldhhghppgkeaaa.Pure
open Go.RowKit Go.Proofs.Ytldhhghppgkeaaa.Open Go.Proofs.Ytldhhghppgkeaaa.PFnExactSameViews Go.Proofs.YtldhhghppgkeaaaW.PrintWords Go.Proofs.YtldhhghppgkeaaaW.PrintLast
set_option linter.unusedVariables false
def G23 (x : S23) : Prop := (Lit.int .i64 x.f0).wf = true ∧ ((Lit.int .i64 x.f1).wf = true ∧ ((Lit.int .i64 x.f2).wf = true ∧ (Lit.int .i64 x.f3).wf = true))
theorem open23 : Opens Try.prog 23 k23 G23 :=
  Opens.struct (fun x : S23 => (x.f0, x.f1, x.f2, x.f3)) (fun p => ⟨p.1, p.2.1, p.2.2.1, p.2.2.2⟩) (fun _ => rfl) Try.underlying23 (by kernel_rfl) (OpensF.cons rfl (Opens.int Try.underlying2 (by kernel_rfl)) (OpensF.cons rfl (Opens.int Try.underlying2 (by kernel_rfl)) (OpensF.cons rfl (Opens.int Try.underlying2 (by kernel_rfl)) (OpensF.last rfl (Opens.int Try.underlying2 (by kernel_rfl))))))
/-- The one pure statement. -/
def FnExactSameViews_stated : Prop := ∀ (l0 : List (S23)) (l1 : List (S23)), l0.length ≤ maxLen → (∀ y ∈ l0, G23 y) → l1.length ≤ maxLen → (∀ y ∈ l1, G23 y) → ∃ k, laws_FnExactSameViews.f k l0 l1 = some true
end Go.Proofs.Ytldhhghppgkeaaa.Pure
