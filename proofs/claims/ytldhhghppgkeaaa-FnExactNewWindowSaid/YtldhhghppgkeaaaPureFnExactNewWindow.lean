/- The pure statement of the law FnExactNewWindow: proved. -/
import Derived.Test.YtldhhghppgkeaaaLibFnExactNewWindow
namespace Go.Proofs.Ytldhhghppgkeaaa.Pure
open Go.RowKit Go.Proofs.Ytldhhghppgkeaaa.Open Go.Proofs.Ytldhhghppgkeaaa.Base Go.Proofs.Ytldhhghppgkeaaa.PFnExactNewWindow Go.Proofs.YtldhhghppgkeaaaW.PrintWords Go.Proofs.YtldhhghppgkeaaaW.PrintLast
set_option linter.unusedVariables false
set_option linter.unusedSimpArgs false
theorem FnExactNewWindow : FnExactNewWindow_stated := by
  refine ⟨100, ?_⟩
  have h1 := eqInt64S_self [] (by decide) 100 (by decide)
  have h2 := markInt64S_at [] 1 (by decide) (by decide) (by decide) 100 (by decide)
  have h3 := heldInt64S_at 0 1 (by decide) (by decide) (by decide) 100 (by decide)
  simp only [laws_FnExactNewWindow.f, spec_NewWindow.f, impl_NewWindow.f, Option.bind_some, laws_eqWindow.f, laws_markWindow.f, laws_heldWindow.f, h1, h2, ↓reduceIte]
  simp only [List.length_nil] at *
  simp [h3]
end Go.Proofs.Ytldhhghppgkeaaa.Pure
