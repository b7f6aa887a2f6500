-- words of the print, those rows struck that this claim does not need (prune.py of this repo)
import Derived.Test.YtagjleeckbnddaaWWords
import Derived.Laws.StructEq
namespace Go.Proofs.YtagjleeckbnddaaW.PrintWords
open Go.RowKit
section
variable {P : Program} {d : Nat} {xs ys : Array Value} {f : Field} {fs : List Field} {a b : Value} {r s : Bool} {w : World}
end
end Go.Proofs.YtagjleeckbnddaaW.PrintWords
