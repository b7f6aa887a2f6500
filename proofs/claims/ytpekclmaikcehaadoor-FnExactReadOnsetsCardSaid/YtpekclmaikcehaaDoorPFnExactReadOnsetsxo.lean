-- written by xprint.py, a program of this repo over the kit's print; not trusted: Lean checks it
import Derived.Test.YtpekclmaikcehaaDoorPFnExactReadOnsetsx5
namespace Go.Proofs.YtpekclmaikcehaaDoor.PFnExactReadOnsets
open Go.RowKit Go.Proofs.YtpekclmaikcehaaDoorW.PrintWords Go.Proofs.YtpekclmaikcehaaDoorW.PrintLast Go.Proofs.YtpekclmaikcehaaDoorW.PrintMore Go.Proofs.YtpekclmaikcehaaDoorXW
set_option linter.unusedVariables false
/-- The pure statement of laws_FnExactReadOnsets. -/
def laws_FnExactReadOnsets.Pure : Prop := ∀ (a0 : ByteArray), a0.size ≤ maxLen → ∃ k, laws_FnExactReadOnsets.f k a0 = some true
end Go.Proofs.YtpekclmaikcehaaDoor.PFnExactReadOnsets
