-- written by xprint.py, a program of this repo over the kit's print; not trusted: Lean checks it
import Derived.Test.YtpekclmaikcehaaDoorPFnExactOnsetsTextx3
namespace Go.Proofs.YtpekclmaikcehaaDoor.PFnExactOnsetsText
open Go.RowKit Go.Proofs.YtpekclmaikcehaaDoorW.PrintWords Go.Proofs.YtpekclmaikcehaaDoorW.PrintLast Go.Proofs.YtpekclmaikcehaaDoorW.PrintMore Go.Proofs.YtpekclmaikcehaaDoorXW
set_option linter.unusedVariables false
/-- The pure statement of laws_FnExactOnsetsText. -/
def laws_FnExactOnsetsText.Pure : Prop := ∀ (l0 : List Int), (l0.length ≤ maxLen ∧ ∀ z ∈ l0, (Lit.int .i64 z).wf = true) → ∃ k, laws_FnExactOnsetsText.f k l0 = some true
end Go.Proofs.YtpekclmaikcehaaDoor.PFnExactOnsetsText
