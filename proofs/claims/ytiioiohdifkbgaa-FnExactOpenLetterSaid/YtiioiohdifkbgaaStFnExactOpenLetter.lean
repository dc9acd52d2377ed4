/- How the arguments of the law FnExactOpenLetter open, and what is left to be proved of numbers and lists alone. -/
import Derived.Test.YtiioiohdifkbgaaMFnExactOpenLetterx12
import Derived.Test.YtiioiohdifkbgaaOpFnExactOpenLetter
import Derived.KernelRfl
namespace Go.Proofs.Ytiioiohdifkbgaa.Pure
open Go.RowKit Go.Proofs.Ytiioiohdifkbgaa.Open Go.Proofs.Ytiioiohdifkbgaa.MFnExactOpenLetter Go.Proofs.YtiioiohdifkbgaaW.PrintWords Go.Proofs.YtiioiohdifkbgaaW.PrintLast
set_option linter.unusedVariables false
def G100 (x : S100) : Prop := (Lit.int .i64 x.f0).wf = true ∧ (x.f1.length ≤ maxLen ∧ ∀ y ∈ x.f1, (Lit.int .u8 y).wf = true)
theorem open100 : Opens Try.prog 100 k100 G100 :=
  Opens.struct (fun x : S100 => (x.f0, x.f1)) (fun p => ⟨p.1, p.2⟩) (fun _ => rfl) Try.underlying100 (by kernel_rfl) (OpensF.cons rfl (Opens.int Try.underlying2 (by kernel_rfl)) (OpensF.last rfl (Opens.slice Try.underlying25 (by kernel_rfl) (Opens.int Try.underlying5 (by kernel_rfl)))))
/-- The one pure statement. -/
def FnExactOpenLetter_stated : Prop := ∀ (y0_0 : Int) (y0_1 : List (S100)) (l1 : List (Int)), (Lit.int .i64 y0_0).wf = true → (y0_1.length ≤ maxLen ∧ ∀ y ∈ y0_1, G100 y) → l1.length ≤ maxLen → (∀ y ∈ l1, (Lit.int .u8 y).wf = true) → ∃ k, laws_FnExactOpenLetter.f k y0_0 y0_1 l1 = some true
end Go.Proofs.Ytiioiohdifkbgaa.Pure
