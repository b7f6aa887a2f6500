-- written by xprint.py, a program of this repo over the kit's print; not trusted: Lean checks it
import Derived.Test.YtjdmfkmagcnakaaPFnExactPeriodOfx9
namespace Go.Proofs.Ytjdmfkmagcnakaa.PFnExactPeriodOf
open Go.RowKit Go.Proofs.YtjdmfkmagcnakaaW.PrintWords Go.Proofs.YtjdmfkmagcnakaaW.PrintLast Go.Proofs.YtjdmfkmagcnakaaW.PrintMore Go.Proofs.YtjdmfkmagcnakaaXW
set_option linter.unusedVariables false
def G90 : S90 → Prop := fun x => x.f0.size ≤ maxLen ∧ (Lit.int .i64 x.f1).wf = true ∧ (Lit.int .i64 x.f2).wf = true
theorem opens90 : Opens Try.prog 90 k90 G90 := Opens.iso (Opens.struct3 Try.underlying90 (Opens.string Try.underlying9 (by kernel_rfl)) (Opens.int Try.underlying2 (by kernel_rfl)) (Opens.int Try.underlying2 (by kernel_rfl)) (by kernel_rfl) rfl rfl rfl) (fun p => (⟨p.1, p.2.1, p.2.2⟩ : S90)) (fun _ => rfl)
/-- The pure statement of laws_FnExactPeriodOf. -/
def laws_FnExactPeriodOf.Pure : Prop := ∀ (l0 : List (S90)) (l1 : List Int), (l0.length ≤ maxLen ∧ ∀ z ∈ l0, G90 z) → (l1.length ≤ maxLen ∧ ∀ z ∈ l1, (Lit.int .i64 z).wf = true) → ∃ k, laws_FnExactPeriodOf.f k l0 l1 = some true
end Go.Proofs.Ytjdmfkmagcnakaa.PFnExactPeriodOf
