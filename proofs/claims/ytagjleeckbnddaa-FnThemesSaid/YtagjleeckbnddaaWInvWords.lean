-- words of the print, those rows struck that this claim does not need (prune.py of this repo)
import Derived.Test.YtagjleeckbnddaaWInv
import Derived.Test.YtagjleeckbnddaaWFootNe
namespace Go.Proofs.YtagjleeckbnddaaW.PrintWords
open Go.RowKit
end Go.Proofs.YtagjleeckbnddaaW.PrintWords
namespace Go.Proofs.YtagjleeckbnddaaW.PrintLast
section
variable {ops : Array Oper} {a : Act} {o og : Oper} {g : Nat} {t : Tmp} {u : Bool}
end
end Go.Proofs.YtagjleeckbnddaaW.PrintLast
