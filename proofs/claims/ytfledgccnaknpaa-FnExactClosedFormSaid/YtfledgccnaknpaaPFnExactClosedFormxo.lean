-- written by xprint.py, a program of this repo over the kit's print; not trusted: Lean checks it
import Derived.Test.YtfledgccnaknpaaPFnExactClosedFormx13
namespace Go.Proofs.Ytfledgccnaknpaa.PFnExactClosedForm
open Go.RowKit Go.Proofs.YtfledgccnaknpaaW.PrintWords Go.Proofs.YtfledgccnaknpaaW.PrintLast Go.Proofs.YtfledgccnaknpaaW.PrintMore Go.Proofs.YtfledgccnaknpaaXW
set_option linter.unusedVariables false
def G101 : S101 → Prop := fun x => x.f0.size ≤ maxLen ∧ (Lit.int .i64 x.f1).wf = true ∧ (Lit.int .i64 x.f2).wf = true
theorem opens101 : Opens Try.prog 101 k101 G101 := Opens.iso (Opens.struct3 Try.underlying101 (Opens.string Try.underlying9 (by kernel_rfl)) (Opens.int Try.underlying2 (by kernel_rfl)) (Opens.int Try.underlying2 (by kernel_rfl)) (by kernel_rfl) rfl rfl rfl) (fun p => (⟨p.1, p.2.1, p.2.2⟩ : S101)) (fun _ => rfl)
/-- The pure statement of laws_FnExactClosedForm. -/
def laws_FnExactClosedForm.Pure : Prop := ∀ (l0 : List (S101)) (l1 : List Int) (l2 : List (List Int)), (l0.length ≤ maxLen ∧ ∀ z ∈ l0, G101 z) → (l1.length ≤ maxLen ∧ ∀ z ∈ l1, (Lit.int .i64 z).wf = true) → (l2.length ≤ maxLen ∧ ∀ z ∈ l2, (z.length ≤ maxLen ∧ ∀ z1 ∈ z, (Lit.int .i64 z1).wf = true)) → ∃ k, laws_FnExactClosedForm.f k l0 l1 l2 = some true
end Go.Proofs.Ytfledgccnaknpaa.PFnExactClosedForm
