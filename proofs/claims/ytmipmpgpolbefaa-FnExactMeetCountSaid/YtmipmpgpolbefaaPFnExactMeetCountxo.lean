-- written by xprint.py, a program of this repo over the kit's print; not trusted: Lean checks it
import Derived.Test.YtmipmpgpolbefaaPFnExactMeetCountx3
namespace Go.Proofs.Ytmipmpgpolbefaa.PFnExactMeetCount
open Go.RowKit Go.Proofs.YtmipmpgpolbefaaW.PrintWords Go.Proofs.YtmipmpgpolbefaaW.PrintLast Go.Proofs.YtmipmpgpolbefaaW.PrintMore Go.Proofs.YtmipmpgpolbefaaXW
set_option linter.unusedVariables false
def G23 : S23 → Prop := fun x => (Lit.int .i64 x.f0).wf = true ∧ (Lit.int .i64 x.f1).wf = true
theorem opens23 : Opens Try.prog 23 k23 G23 := Opens.iso (Opens.struct2 Try.underlying23 (Opens.int Try.underlying2 (by kernel_rfl)) (Opens.int Try.underlying2 (by kernel_rfl)) (by kernel_rfl) rfl rfl) (fun p => (⟨p.1, p.2⟩ : S23)) (fun _ => rfl)
/-- The pure statement of laws_FnExactMeetCount. -/
def laws_FnExactMeetCount.Pure : Prop := ∀ (x0 : S23) (x1 : S23), G23 x0 → G23 x1 → ∃ k, laws_FnExactMeetCount.f k x0.f0 x0.f1 x1.f0 x1.f1 = some true
end Go.Proofs.Ytmipmpgpolbefaa.PFnExactMeetCount
