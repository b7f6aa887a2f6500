-- written by xprint.py, a program of this repo over the kit's print; not trusted: Lean checks it
import Derived.Test.YtmipmpgpolbefaaPFnExactValidTempox4
namespace Go.Proofs.Ytmipmpgpolbefaa.PFnExactValidTempo
open Go.RowKit Go.Proofs.YtmipmpgpolbefaaW.PrintWords Go.Proofs.YtmipmpgpolbefaaW.PrintLast Go.Proofs.YtmipmpgpolbefaaW.PrintMore Go.Proofs.YtmipmpgpolbefaaXW
set_option linter.unusedVariables false
def G63 : S63 → Prop := fun x => (Lit.int .i64 x.f0).wf = true ∧ (Lit.int .i64 x.f1).wf = true
theorem opens63 : Opens Try.prog 63 k63 G63 := Opens.iso (Opens.struct2 Try.underlying63 (Opens.int Try.underlying2 (by kernel_rfl)) (Opens.int Try.underlying2 (by kernel_rfl)) (by kernel_rfl) rfl rfl) (fun p => (⟨p.1, p.2⟩ : S63)) (fun _ => rfl)
/-- The pure statement of laws_FnExactValidTempo. -/
def laws_FnExactValidTempo.Pure : Prop := ∀ (l0 : List (S63)), (l0.length ≤ maxLen ∧ ∀ z ∈ l0, G63 z) → ∃ k, laws_FnExactValidTempo.f k l0 = some true
end Go.Proofs.Ytmipmpgpolbefaa.PFnExactValidTempo
