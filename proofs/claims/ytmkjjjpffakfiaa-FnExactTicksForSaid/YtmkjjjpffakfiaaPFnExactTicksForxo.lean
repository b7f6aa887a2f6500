-- written by xprint.py, a program of this repo over the kit's print; not trusted: Lean checks it
import Derived.Test.YtmkjjjpffakfiaaPFnExactTicksForx3
namespace Go.Proofs.Ytmkjjjpffakfiaa.PFnExactTicksFor
open Go.RowKit Go.Proofs.YtmkjjjpffakfiaaW.PrintWords Go.Proofs.YtmkjjjpffakfiaaW.PrintLast Go.Proofs.YtmkjjjpffakfiaaW.PrintMore Go.Proofs.YtmkjjjpffakfiaaXW
set_option linter.unusedVariables false
def G116 : S116 → Prop := fun x => (Lit.int .i64 x.f0).wf = true ∧ (Lit.int .i64 x.f1).wf = true
theorem opens116 : Opens Try.prog 116 k116 G116 := Opens.iso (Opens.struct2 Try.underlying116 (Opens.int Try.underlying2 (by kernel_rfl)) (Opens.int Try.underlying2 (by kernel_rfl)) (by kernel_rfl) rfl rfl) (fun p => (⟨p.1, p.2⟩ : S116)) (fun _ => rfl)
/-- The pure statement of laws_FnExactTicksFor. -/
def laws_FnExactTicksFor.Pure : Prop := ∀ (l0 : List (S116)), (l0.length ≤ maxLen ∧ ∀ z ∈ l0, G116 z) → ∃ k, laws_FnExactTicksFor.f k l0 = some true
end Go.Proofs.Ytmkjjjpffakfiaa.PFnExactTicksFor
