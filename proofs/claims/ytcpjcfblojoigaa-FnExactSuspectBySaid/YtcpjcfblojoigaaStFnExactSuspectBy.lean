/- How the arguments of the law FnExactSuspectBy open, and what is left to be proved of numbers and lists alone. -/
import Derived.Test.YtcpjcfblojoigaaMFnExactSuspectByx4
import Derived.Test.YtcpjcfblojoigaaOpen
import Derived.KernelRfl
namespace Go.Proofs.Ytcpjcfblojoigaa.Pure
open Go.RowKit Go.Proofs.Ytcpjcfblojoigaa.Open Go.Proofs.Ytcpjcfblojoigaa.MFnExactSuspectBy Go.Proofs.YtcpjcfblojoigaaW.PrintWords Go.Proofs.YtcpjcfblojoigaaW.PrintLast
set_option linter.unusedVariables false
def G71 (x : S71) : Prop := (Lit.int .i64 x.f0).wf = true ∧ ((Lit.int .i64 x.f1).wf = true ∧ ((Lit.int .i64 x.f2).wf = true ∧ (Lit.int .i64 x.f3).wf = true))
theorem open71 : Opens Try.prog 71 k71 G71 :=
  Opens.struct (fun x : S71 => (x.f0, x.f1, x.f2, x.f3)) (fun p => ⟨p.1, p.2.1, p.2.2.1, p.2.2.2⟩) (fun _ => rfl) Try.underlying71 (by kernel_rfl) (OpensF.cons rfl (Opens.int Try.underlying2 (by kernel_rfl)) (OpensF.cons rfl (Opens.int Try.underlying2 (by kernel_rfl)) (OpensF.cons rfl (Opens.int Try.underlying2 (by kernel_rfl)) (OpensF.last rfl (Opens.int Try.underlying2 (by kernel_rfl))))))
/-- The one pure statement. -/
def FnExactSuspectBy_stated : Prop := ∀ (l0 : List (S71)) (a1 : Int), l0.length ≤ maxLen → (∀ y ∈ l0, G71 y) → (Lit.int .i64 a1).wf = true → ∃ k, laws_FnExactSuspectBy.f k l0 a1 = some true
end Go.Proofs.Ytcpjcfblojoigaa.Pure
