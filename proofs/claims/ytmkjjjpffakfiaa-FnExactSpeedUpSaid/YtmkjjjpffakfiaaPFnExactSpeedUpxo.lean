-- written by xprint.py, a program of this repo over the kit's print; not trusted: Lean checks it
import Derived.Test.YtmkjjjpffakfiaaPFnExactSpeedUpx6
namespace Go.Proofs.Ytmkjjjpffakfiaa.PFnExactSpeedUp
open Go.RowKit Go.Proofs.YtmkjjjpffakfiaaW.PrintWords Go.Proofs.YtmkjjjpffakfiaaW.PrintLast Go.Proofs.YtmkjjjpffakfiaaW.PrintMore Go.Proofs.YtmkjjjpffakfiaaXW
set_option linter.unusedVariables false
def G122 : S122 → Prop := fun x => (Lit.int .i64 x.f0).wf = true ∧ (Lit.int .i64 x.f1).wf = true
theorem opens122 : Opens Try.prog 122 k122 G122 := Opens.iso (Opens.struct2 Try.underlying122 (Opens.int Try.underlying2 (by kernel_rfl)) (Opens.int Try.underlying2 (by kernel_rfl)) (by kernel_rfl) rfl rfl) (fun p => (⟨p.1, p.2⟩ : S122)) (fun _ => rfl)
/-- The pure statement of laws_FnExactSpeedUp. -/
def laws_FnExactSpeedUp.Pure : Prop := ∀ (l0 : List (S122)) (a1 : Int) (a2 : Int), (l0.length ≤ maxLen ∧ ∀ z ∈ l0, G122 z) → (Lit.int .i64 a1).wf = true → (Lit.int .i64 a2).wf = true → ∃ k, laws_FnExactSpeedUp.f k l0 a1 a2 = some true
end Go.Proofs.Ytmkjjjpffakfiaa.PFnExactSpeedUp
