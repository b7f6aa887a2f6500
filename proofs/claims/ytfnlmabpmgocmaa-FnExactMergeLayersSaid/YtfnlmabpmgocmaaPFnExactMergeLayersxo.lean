-- written by xprint.py, a program of this repo over the kit's print; not trusted: Lean checks it
import Derived.Test.YtfnlmabpmgocmaaPFnExactMergeLayersx8
namespace Go.Proofs.Ytfnlmabpmgocmaa.PFnExactMergeLayers
open Go.RowKit Go.Proofs.YtfnlmabpmgocmaaW.PrintWords Go.Proofs.YtfnlmabpmgocmaaW.PrintLast Go.Proofs.YtfnlmabpmgocmaaW.PrintMore Go.Proofs.YtfnlmabpmgocmaaXW
set_option linter.unusedVariables false
def G61 : S61 → Prop := fun x => (Lit.int .i64 x.f0).wf = true ∧ (Lit.int .i64 x.f1).wf = true
theorem opens61 : Opens Try.prog 61 k61 G61 := Opens.iso (Opens.struct2 Try.underlying61 (Opens.int Try.underlying2 (by kernel_rfl)) (Opens.int Try.underlying2 (by kernel_rfl)) (by kernel_rfl) rfl rfl) (fun p => (⟨p.1, p.2⟩ : S61)) (fun _ => rfl)
/-- The pure statement of laws_FnExactMergeLayers. -/
def laws_FnExactMergeLayers.Pure : Prop := ∀ (l0 : List (S61)), (l0.length ≤ maxLen ∧ ∀ z ∈ l0, G61 z) → ∃ k, laws_FnExactMergeLayers.f k l0 = some true
end Go.Proofs.Ytfnlmabpmgocmaa.PFnExactMergeLayers
