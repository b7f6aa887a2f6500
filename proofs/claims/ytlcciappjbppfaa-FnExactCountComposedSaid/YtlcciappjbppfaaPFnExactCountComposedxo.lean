-- written by xprint.py, a program of this repo over the kit's print; not trusted: Lean checks it
import Derived.Test.YtlcciappjbppfaaPFnExactCountComposedx7
namespace Go.Proofs.Ytlcciappjbppfaa.PFnExactCountComposed
open Go.RowKit Go.Proofs.YtlcciappjbppfaaW.PrintWords Go.Proofs.YtlcciappjbppfaaW.PrintLast Go.Proofs.YtlcciappjbppfaaW.PrintMore Go.Proofs.YtlcciappjbppfaaXW
set_option linter.unusedVariables false
def G41 : S41 → Prop := fun x => x.f0.size ≤ maxLen ∧ (Lit.int .i64 x.f1).wf = true ∧ (Lit.int .i64 x.f2).wf = true
theorem opens41 : Opens Try.prog 41 k41 G41 := Opens.iso (Opens.struct3 Try.underlying41 (Opens.string Try.underlying9 (by kernel_rfl)) (Opens.int Try.underlying2 (by kernel_rfl)) (Opens.int Try.underlying2 (by kernel_rfl)) (by kernel_rfl) rfl rfl rfl) (fun p => (⟨p.1, p.2.1, p.2.2⟩ : S41)) (fun _ => rfl)
/-- The pure statement of laws_FnExactCountComposed. -/
def laws_FnExactCountComposed.Pure : Prop := ∀ (l0 : List (S41)) (a1 : Int) (a2 : Int) (a3 : Int), (l0.length ≤ maxLen ∧ ∀ z ∈ l0, G41 z) → (Lit.int .i64 a1).wf = true → (Lit.int .i64 a2).wf = true → (Lit.int .i64 a3).wf = true → ∃ k, laws_FnExactCountComposed.f k l0 a1 a2 a3 = some true
end Go.Proofs.Ytlcciappjbppfaa.PFnExactCountComposed
