-- written by xprint.py, a program of this repo over the kit's print; not trusted: Lean checks it
import Derived.Test.YtpekclmaikcehaaDoorPFnTempox10
namespace Go.Proofs.YtpekclmaikcehaaDoor.PFnTempo
open Go.RowKit Go.Proofs.YtpekclmaikcehaaDoorW.PrintWords Go.Proofs.YtpekclmaikcehaaDoorW.PrintLast Go.Proofs.YtpekclmaikcehaaDoorW.PrintMore Go.Proofs.YtpekclmaikcehaaDoorXW
set_option linter.unusedVariables false
/-- The pure statement of laws_FnTempo. -/
def laws_FnTempo.Pure : Prop := ∀ (l0 : List Int) (l1 : List Int), (l0.length ≤ maxLen ∧ ∀ z ∈ l0, (Lit.int .u8 z).wf = true) → (l1.length ≤ maxLen ∧ ∀ z ∈ l1, (Lit.int .u8 z).wf = true) → ∃ k, laws_FnTempo.f k l0 l1 = some true
end Go.Proofs.YtpekclmaikcehaaDoor.PFnTempo
