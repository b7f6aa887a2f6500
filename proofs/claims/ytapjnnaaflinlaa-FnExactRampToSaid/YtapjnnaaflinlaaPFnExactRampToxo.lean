-- written by xprint.py, a program of this repo over the kit's print; not trusted: Lean checks it
import Derived.Test.YtapjnnaaflinlaaPFnExactRampTox6
namespace Go.Proofs.Ytapjnnaaflinlaa.PFnExactRampTo
open Go.RowKit Go.Proofs.YtapjnnaaflinlaaW.PrintWords Go.Proofs.YtapjnnaaflinlaaW.PrintLast Go.Proofs.YtapjnnaaflinlaaW.PrintMore Go.Proofs.YtapjnnaaflinlaaXW
set_option linter.unusedVariables false
def G56 : S56 → Prop := fun x => (Lit.int .i64 x.f0).wf = true ∧ (Lit.int .i64 x.f1).wf = true
theorem opens56 : Opens Try.prog 56 k56 G56 := Opens.iso (Opens.struct2 Try.underlying56 (Opens.int Try.underlying2 (by kernel_rfl)) (Opens.int Try.underlying2 (by kernel_rfl)) (by kernel_rfl) rfl rfl) (fun p => (⟨p.1, p.2⟩ : S56)) (fun _ => rfl)
/-- The pure statement of laws_FnExactRampTo. -/
def laws_FnExactRampTo.Pure : Prop := ∀ (l0 : List (S56)) (a1 : Int) (a2 : Int), (l0.length ≤ maxLen ∧ ∀ z ∈ l0, G56 z) → (Lit.int .i64 a1).wf = true → (Lit.int .i64 a2).wf = true → ∃ k, laws_FnExactRampTo.f k l0 a1 a2 = some true
end Go.Proofs.Ytapjnnaaflinlaa.PFnExactRampTo
