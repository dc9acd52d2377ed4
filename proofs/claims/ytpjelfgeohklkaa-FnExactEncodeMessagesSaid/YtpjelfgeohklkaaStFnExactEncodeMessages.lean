/- How the arguments of the law FnExactEncodeMessages open, and what is left to be proved of numbers and lists alone. -/
import Derived.Test.YtpjelfgeohklkaaMFnExactEncodeMessagesx9
import Derived.Test.YtpjelfgeohklkaaOpFnExactEncodeMessages
import Derived.KernelRfl
namespace Go.Proofs.Ytpjelfgeohklkaa.Pure
open Go.RowKit Go.Proofs.Ytpjelfgeohklkaa.Open Go.Proofs.Ytpjelfgeohklkaa.MFnExactEncodeMessages Go.Proofs.YtpjelfgeohklkaaW.PrintWords Go.Proofs.YtpjelfgeohklkaaW.PrintLast
set_option linter.unusedVariables false
def G29 (x : S29) : Prop := (Lit.int .i64 x.f0).wf = true ∧ ((Lit.int .i64 x.f1).wf = true ∧ ((Lit.int .i64 x.f2).wf = true ∧ (Lit.int .i64 x.f3).wf = true))
theorem open29 : Opens Try.prog 29 k29 G29 :=
  Opens.struct (fun x : S29 => (x.f0, x.f1, x.f2, x.f3)) (fun p => ⟨p.1, p.2.1, p.2.2.1, p.2.2.2⟩) (fun _ => rfl) Try.underlying29 (by kernel_rfl) (OpensF.cons rfl (Opens.int Try.underlying2 (by kernel_rfl)) (OpensF.cons rfl (Opens.int Try.underlying2 (by kernel_rfl)) (OpensF.cons rfl (Opens.int Try.underlying2 (by kernel_rfl)) (OpensF.last rfl (Opens.int Try.underlying2 (by kernel_rfl))))))
def G32 (x : S32) : Prop := (Lit.int .i64 x.f0).wf = true ∧ (x.f1.length ≤ maxLen ∧ ∀ y ∈ x.f1, (Lit.int .u8 y).wf = true)
theorem open32 : Opens Try.prog 32 k32 G32 :=
  Opens.struct (fun x : S32 => (x.f0, x.f1)) (fun p => ⟨p.1, p.2⟩) (fun _ => rfl) Try.underlying32 (by kernel_rfl) (OpensF.cons rfl (Opens.int Try.underlying2 (by kernel_rfl)) (OpensF.last rfl (Opens.slice Try.underlying30 (by kernel_rfl) (Opens.int Try.underlying5 (by kernel_rfl)))))
def G34 (x : S34) : Prop := (Lit.int .i64 x.f0).wf = true ∧ ((Lit.int .i64 x.f1).wf = true ∧ ((Lit.int .i64 x.f2).wf = true ∧ (G29 x.f3 ∧ ((Lit.int .i64 x.f4).wf = true ∧ G32 x.f5))))
theorem open34 : Opens Try.prog 34 k34 G34 :=
  Opens.struct (fun x : S34 => (x.f0, x.f1, x.f2, x.f3, x.f4, x.f5)) (fun p => ⟨p.1, p.2.1, p.2.2.1, p.2.2.2.1, p.2.2.2.2.1, p.2.2.2.2.2⟩) (fun _ => rfl) Try.underlying34 (by kernel_rfl) (OpensF.cons rfl (Opens.int Try.underlying2 (by kernel_rfl)) (OpensF.cons rfl (Opens.int Try.underlying2 (by kernel_rfl)) (OpensF.cons rfl (Opens.int Try.underlying2 (by kernel_rfl)) (OpensF.cons rfl open29 (OpensF.cons rfl (Opens.int Try.underlying2 (by kernel_rfl)) (OpensF.last rfl open32))))))
/-- The one pure statement. -/
def FnExactEncodeMessages_stated : Prop := ∀ (l0 : List (S34)), l0.length ≤ maxLen → (∀ y ∈ l0, G34 y) → ∃ k, laws_FnExactEncodeMessages.f k l0 = some true
end Go.Proofs.Ytpjelfgeohklkaa.Pure
