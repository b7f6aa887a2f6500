-- written by xprint.py, a program of this repo over the kit's print; not trusted: Lean checks it
import Derived.Test.YtidbcglhpaamdaaPFnExactNumberedVariationx15
namespace Go.Proofs.Ytidbcglhpaamdaa.PFnExactNumberedVariation
open Go.RowKit Go.Proofs.YtidbcglhpaamdaaW.PrintWords Go.Proofs.YtidbcglhpaamdaaW.PrintLast Go.Proofs.YtidbcglhpaamdaaW.PrintMore Go.Proofs.YtidbcglhpaamdaaXW
set_option linter.unusedVariables false
def G61 : S61 → Prop := fun x => x.f0.size ≤ maxLen ∧ (Lit.int .i64 x.f1).wf = true ∧ (Lit.int .i64 x.f2).wf = true
theorem opens61 : Opens Try.prog 61 k61 G61 := Opens.iso (Opens.struct3 Try.underlying61 (Opens.string Try.underlying9 (by kernel_rfl)) (Opens.int Try.underlying2 (by kernel_rfl)) (Opens.int Try.underlying2 (by kernel_rfl)) (by kernel_rfl) rfl rfl rfl) (fun p => (⟨p.1, p.2.1, p.2.2⟩ : S61)) (fun _ => rfl)
/-- The pure statement of laws_FnExactNumberedVariation. -/
def laws_FnExactNumberedVariation.Pure : Prop := ∀ (l0 : List (S61)) (l1 : List Int) (a2 : Int) (a3 : Int) (a4 : Int), (l0.length ≤ maxLen ∧ ∀ z ∈ l0, G61 z) → (l1.length ≤ maxLen ∧ ∀ z ∈ l1, (Lit.int .i64 z).wf = true) → (Lit.int .i64 a2).wf = true → (Lit.int .i64 a3).wf = true → (Lit.int .i64 a4).wf = true → ∃ k, laws_FnExactNumberedVariation.f k l0 l1 a2 a3 a4 = some true
end Go.Proofs.Ytidbcglhpaamdaa.PFnExactNumberedVariation
