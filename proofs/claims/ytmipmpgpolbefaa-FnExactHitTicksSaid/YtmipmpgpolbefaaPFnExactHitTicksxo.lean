-- written by xprint.py, a program of this repo over the kit's print; not trusted: Lean checks it
import Derived.Test.YtmipmpgpolbefaaPFnExactHitTicksx3
namespace Go.Proofs.Ytmipmpgpolbefaa.PFnExactHitTicks
open Go.RowKit Go.Proofs.YtmipmpgpolbefaaW.PrintWords Go.Proofs.YtmipmpgpolbefaaW.PrintLast Go.Proofs.YtmipmpgpolbefaaW.PrintMore Go.Proofs.YtmipmpgpolbefaaXW
set_option linter.unusedVariables false
def G23 : S23 → Prop := fun x => (Lit.int .i64 x.f0).wf = true ∧ (Lit.int .i64 x.f1).wf = true
theorem opens23 : Opens Try.prog 23 k23 G23 := Opens.iso (Opens.struct2 Try.underlying23 (Opens.int Try.underlying2 (by kernel_rfl)) (Opens.int Try.underlying2 (by kernel_rfl)) (by kernel_rfl) rfl rfl) (fun p => (⟨p.1, p.2⟩ : S23)) (fun _ => rfl)
/-- The pure statement of laws_FnExactHitTicks. -/
def laws_FnExactHitTicks.Pure : Prop := ∀ (x0 : S23) (a1 : Int), G23 x0 → (Lit.int .i64 a1).wf = true → ∃ k, laws_FnExactHitTicks.f k x0.f0 x0.f1 a1 = some true
end Go.Proofs.Ytmipmpgpolbefaa.PFnExactHitTicks
