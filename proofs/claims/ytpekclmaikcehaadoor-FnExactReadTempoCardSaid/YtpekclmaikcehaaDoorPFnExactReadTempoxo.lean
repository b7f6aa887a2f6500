-- written by xprint.py, a program of this repo over the kit's print; not trusted: Lean checks it
import Derived.Test.YtpekclmaikcehaaDoorPFnExactReadTempox7
namespace Go.Proofs.YtpekclmaikcehaaDoor.PFnExactReadTempo
open Go.RowKit Go.Proofs.YtpekclmaikcehaaDoorW.PrintWords Go.Proofs.YtpekclmaikcehaaDoorW.PrintLast Go.Proofs.YtpekclmaikcehaaDoorW.PrintMore Go.Proofs.YtpekclmaikcehaaDoorXW
set_option linter.unusedVariables false
/-- The pure statement of laws_FnExactReadTempo. -/
def laws_FnExactReadTempo.Pure : Prop := ∀ (a0 : ByteArray), a0.size ≤ maxLen → ∃ k, laws_FnExactReadTempo.f k a0 = some true
end Go.Proofs.YtpekclmaikcehaaDoor.PFnExactReadTempo
