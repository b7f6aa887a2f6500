-- words of the print, those rows struck that this claim does not need (prune.py of this repo)
import Derived.Test.YtagjleeckbnddaaWFootNe
namespace Go.Proofs.YtagjleeckbnddaaW.PrintWords
open Go.RowKit
section
variable {w w' u : World} {m B g : Nat} {o : Obj} {row : Option Nat} {S : Nat → Prop} {a : Addr} {v : Value}
end
namespace Kd
section
variable {α : Type} {d : Kd α} {e base n m : Nat} {ok : Nat → Prop} {w w' : World} {v : Value} {A : Option Addr} {xs : List α}
end
end Kd
end Go.Proofs.YtagjleeckbnddaaW.PrintWords
