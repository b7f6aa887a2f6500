-- words of the print, those rows struck that this claim does not need (prune.py of this repo)
import Derived.Test.YtagjleeckbnddaaWN
namespace Go.Proofs.YtagjleeckbnddaaW.PrintWords
open Go.RowKit
namespace Kd
section
variable {α : Type} {d : Kd α} {W : World} {g n : Nat} {S ok : Nat → Prop} {A : Option Addr} {ad : Addr} {xs : List α}
end
end Kd
end Go.Proofs.YtagjleeckbnddaaW.PrintWords
