-- written by xprint.py, a program of this repo over the kit's print; not trusted: Lean checks it
import Derived.Test.YtjdmfkmagcnakaaPFnExactBeatTimesx9
namespace Go.Proofs.Ytjdmfkmagcnakaa.PFnExactBeatTimes
open Go.RowKit Go.Proofs.YtjdmfkmagcnakaaW.PrintWords Go.Proofs.YtjdmfkmagcnakaaW.PrintLast Go.Proofs.YtjdmfkmagcnakaaW.PrintMore Go.Proofs.YtjdmfkmagcnakaaXW
set_option linter.unusedVariables false
def G74 : S74 → Prop := fun x => (Lit.int .i64 x.f0).wf = true ∧ (Lit.int .i64 x.f1).wf = true
theorem opens74 : Opens Try.prog 74 k74 G74 := Opens.iso (Opens.struct2 Try.underlying74 (Opens.int Try.underlying2 (by kernel_rfl)) (Opens.int Try.underlying2 (by kernel_rfl)) (by kernel_rfl) rfl rfl) (fun p => (⟨p.1, p.2⟩ : S74)) (fun _ => rfl)
/-- The pure statement of laws_FnExactBeatTimes. -/
def laws_FnExactBeatTimes.Pure : Prop := ∀ (l0 : List (S74)) (a1 : Int) (a2 : Int), (l0.length ≤ maxLen ∧ ∀ z ∈ l0, G74 z) → (Lit.int .i64 a1).wf = true → (Lit.int .i64 a2).wf = true → ∃ k, laws_FnExactBeatTimes.f k l0 a1 a2 = some true
end Go.Proofs.Ytjdmfkmagcnakaa.PFnExactBeatTimes
