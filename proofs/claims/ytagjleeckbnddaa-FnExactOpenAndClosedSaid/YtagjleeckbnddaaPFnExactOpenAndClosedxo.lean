-- written by xprint.py, a program of this repo over the kit's print; not trusted: Lean checks it
import Derived.Test.YtagjleeckbnddaaPFnExactOpenAndClosedx13
namespace Go.Proofs.Ytagjleeckbnddaa.PFnExactOpenAndClosed
open Go.RowKit Go.Proofs.YtagjleeckbnddaaW.PrintWords Go.Proofs.YtagjleeckbnddaaW.PrintLast Go.Proofs.YtagjleeckbnddaaW.PrintMore Go.Proofs.YtagjleeckbnddaaXW
set_option linter.unusedVariables false
def G92 : S92 → Prop := fun x => x.f0.size ≤ maxLen ∧ (Lit.int .i64 x.f1).wf = true ∧ (Lit.int .i64 x.f2).wf = true
theorem opens92 : Opens Try.prog 92 k92 G92 := Opens.iso (Opens.struct3 Try.underlying92 (Opens.string Try.underlying9 (by kernel_rfl)) (Opens.int Try.underlying2 (by kernel_rfl)) (Opens.int Try.underlying2 (by kernel_rfl)) (by kernel_rfl) rfl rfl rfl) (fun p => (⟨p.1, p.2.1, p.2.2⟩ : S92)) (fun _ => rfl)
/-- The pure statement of laws_FnExactOpenAndClosed. -/
def laws_FnExactOpenAndClosed.Pure : Prop := ∀ (l0 : List (S92)) (l1 : List Int) (l2 : List (List Int)), (l0.length ≤ maxLen ∧ ∀ z ∈ l0, G92 z) → (l1.length ≤ maxLen ∧ ∀ z ∈ l1, (Lit.int .i64 z).wf = true) → (l2.length ≤ maxLen ∧ ∀ z ∈ l2, (z.length ≤ maxLen ∧ ∀ z1 ∈ z, (Lit.int .i64 z1).wf = true)) → ∃ k, laws_FnExactOpenAndClosed.f k l0 l1 l2 = some true
end Go.Proofs.Ytagjleeckbnddaa.PFnExactOpenAndClosed
