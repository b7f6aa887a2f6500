-- words of the print, those rows struck that this claim does not need (prune.py of this repo)
import Derived.Test.YtbpliblhpiompaaWInv
import Derived.Test.YtbpliblhpiompaaWFootNe
namespace Go.Proofs.YtbpliblhpiompaaW.PrintWords
open Go.RowKit
end Go.Proofs.YtbpliblhpiompaaW.PrintWords
namespace Go.Proofs.YtbpliblhpiompaaW.PrintLast
section
variable {ops : Array Oper} {a : Act} {o og : Oper} {g : Nat} {t : Tmp} {u : Bool}
end
end Go.Proofs.YtbpliblhpiompaaW.PrintLast
