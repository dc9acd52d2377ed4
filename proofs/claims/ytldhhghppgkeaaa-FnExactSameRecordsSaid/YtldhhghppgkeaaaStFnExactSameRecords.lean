/- How the arguments of the law FnExactSameRecords open, and what is left to be proved of numbers and lists alone. -/
import Derived.Test.YtldhhghppgkeaaaPFnExactSameRecordsx3
import Derived.Test.YtldhhghppgkeaaaOpen
import Derived.KernelRfl
namespace Go.Proofs.Ytldhhghppgkeaaa.Pure
open Go.RowKit Go.Proofs.Ytldhhghppgkeaaa.Open Go.Proofs.Ytldhhghppgkeaaa.PFnExactSameRecords Go.Proofs.YtldhhghppgkeaaaW.PrintWords Go.Proofs.YtldhhghppgkeaaaW.PrintLast
set_option linter.unusedVariables false
def G86 (x : S86) : Prop := (Lit.int .i64 x.f0).wf = true ∧ ((Lit.int .i64 x.f1).wf = true ∧ (Lit.int .i64 x.f2).wf = true)
theorem open86 : Opens Try.prog 86 k86 G86 :=
  Opens.struct (fun x : S86 => (x.f0, x.f1, x.f2)) (fun p => ⟨p.1, p.2.1, p.2.2⟩) (fun _ => rfl) Try.underlying86 (by kernel_rfl) (OpensF.cons rfl (Opens.int Try.underlying2 (by kernel_rfl)) (OpensF.cons rfl (Opens.int Try.underlying2 (by kernel_rfl)) (OpensF.last rfl (Opens.int Try.underlying2 (by kernel_rfl)))))
/-- The one pure statement. -/
def FnExactSameRecords_stated : Prop := ∀ (l0 : List (S86)) (l1 : List (S86)), l0.length ≤ maxLen → (∀ y ∈ l0, G86 y) → l1.length ≤ maxLen → (∀ y ∈ l1, G86 y) → ∃ k, laws_FnExactSameRecords.f k l0 l1 = some true
end Go.Proofs.Ytldhhghppgkeaaa.Pure
