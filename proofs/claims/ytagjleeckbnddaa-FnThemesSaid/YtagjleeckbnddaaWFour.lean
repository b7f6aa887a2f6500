-- words of the print, those rows struck that this claim does not need (prune.py of this repo)
import Derived.Test.YtagjleeckbnddaaWTab
namespace Go.Proofs.YtagjleeckbnddaaW.PrintLast
section
variable {P : Program} {ops : Array Oper} {Q : Exit → Act → World → Prop} {md : Region.Mode} {S : World → Prop} {ds : List Nat} {T : Bool × List (List Nat × List Nat)}
end
end Go.Proofs.YtagjleeckbnddaaW.PrintLast
