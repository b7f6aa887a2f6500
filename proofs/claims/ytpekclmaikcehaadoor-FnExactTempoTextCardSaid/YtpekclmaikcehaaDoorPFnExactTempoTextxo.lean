-- written by xprint.py, a program of this repo over the kit's print; not trusted: Lean checks it
import Derived.Test.YtpekclmaikcehaaDoorPFnExactTempoTextx5
namespace Go.Proofs.YtpekclmaikcehaaDoor.PFnExactTempoText
open Go.RowKit Go.Proofs.YtpekclmaikcehaaDoorW.PrintWords Go.Proofs.YtpekclmaikcehaaDoorW.PrintLast Go.Proofs.YtpekclmaikcehaaDoorW.PrintMore Go.Proofs.YtpekclmaikcehaaDoorXW
set_option linter.unusedVariables false
def G56 : S56 → Prop := fun x => (Lit.int .i64 x.f0).wf = true ∧ (Lit.int .i64 x.f1).wf = true
theorem opens56 : Opens Tryd.prog 56 k56 G56 := Opens.iso (Opens.struct2 Tryd.underlying56 (Opens.int Tryd.underlying2 (by kernel_rfl)) (Opens.int Tryd.underlying2 (by kernel_rfl)) (by kernel_rfl) rfl rfl) (fun p => (⟨p.1, p.2⟩ : S56)) (fun _ => rfl)
/-- The pure statement of laws_FnExactTempoText. -/
def laws_FnExactTempoText.Pure : Prop := ∀ (l0 : List (S56)), (l0.length ≤ maxLen ∧ ∀ z ∈ l0, G56 z) → ∃ k, laws_FnExactTempoText.f k l0 = some true
end Go.Proofs.YtpekclmaikcehaaDoor.PFnExactTempoText
