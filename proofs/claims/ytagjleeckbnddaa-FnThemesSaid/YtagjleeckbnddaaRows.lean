/-
  No cell of these rows narrows 'for every input' (looked for: loops, veiled, ifaces, maps, wideKeys, modest, calm, conditions, laid).
  DERIVED. THE GIVEN ROWS OF THIS SEAT. 3 by the template 'for every input the law returns true; each argument reads behind the call as it read before'; 0 by the template 'total and deterministic' (their statements: YtagjleeckbnddaaTotals.lean).
  GIVEN WITH THE SEED: the statements are not yours to turn. If you find one false, say at which input.
  Laid BY PROGRAM, IN A SANDBOX (cutbox-rows.mjs): the forced cells as the released guide's own fill.sh prints them over the translation 37b724260d40eabc… (all of the seat's roots in one cut). By AI agents, Wed Nov 11 2026. No macro, syntax, notation, axiom, sorry.
-/
import Derived.Test.YtagjleeckbnddaaChecked
import GoSem.Claim
import GoSem.ClaimJoined
import GoSem.ClaimMapViews
import Derived.JoinedTies
import Derived.KernelRfl
namespace Go.Proofs.Ytagjleeckbnddaa
/- THE CELL 'sum', in the pinned program and in every row, IS THE sha256 OF THE DUMP (.gsa) THAT YtagjleeckbnddaaProg.lean LOADS. Nothing in Lean hashes anything: it is a label: what it is worth is what the hold of that sum in a sandbox is worth. -/
noncomputable def Try.pinned : Pinned := { name := "ytagjleeckbnddaa", sum := "37b724260d40eabceafed1847fa1877b9d0eabc98c8510b332cbe4159cc42a5d", checked := Try.checked }
namespace Rows
def none {H : Type} : Left H := { results := [], args := [] }

/-- 'laws.FnThemes': WHATEVER THE INPUT: true; the input reads as it did. -/
def fnThemesSpec : ChangeSpec := { name := "fnThemes", fn := fun _ => fun
  | [d1, d2] => { results := [.lit (.bool true)], args := [d1, d2] }
  | _ => none }
def fnThemesRow : OpenClaim := { program := "ytagjleeckbnddaa", sum := "37b724260d40eabceafed1847fa1877b9d0eabc98c8510b332cbe4159cc42a5d", func := "loop.example/g01033/laws.FnThemes", spec := "fnThemes", unfollowed := true, recurses := true, apart := false }
def FnThemesSaid : Prop := fnThemesRow.holds Try.pinned (OpenSpec.ofChange fnThemesSpec)

/-- ITS FALSE NEIGHBOUR: 'it returns false'. Refute it at one input. -/
def fnThemesWrong : ChangeSpec := { name := "fnThemes", fn := fun _ => fun
  | [d1, d2] => { results := [.lit (.bool false)], args := [d1, d2] }
  | _ => none }
def FnThemesWrongFalsely : Prop := fnThemesRow.holds Try.pinned (OpenSpec.ofChange fnThemesWrong)

/-- 'laws.FnExactOpenAndClosed': WHATEVER THE INPUT: true; the input reads as it did. -/
def fnExactOpenAndClosedSpec : ChangeSpec := { name := "fnExactOpenAndClosed", fn := fun _ => fun
  | [d1, d2, d3] => { results := [.lit (.bool true)], args := [d1, d2, d3] }
  | _ => none }
def fnExactOpenAndClosedRow : OpenClaim := { program := "ytagjleeckbnddaa", sum := "37b724260d40eabceafed1847fa1877b9d0eabc98c8510b332cbe4159cc42a5d", func := "loop.example/g01033/laws.FnExactOpenAndClosed", spec := "fnExactOpenAndClosed", unfollowed := true, recurses := true, apart := false }
def FnExactOpenAndClosedSaid : Prop := fnExactOpenAndClosedRow.holds Try.pinned (OpenSpec.ofChange fnExactOpenAndClosedSpec)

/-- ITS FALSE NEIGHBOUR: 'it returns false'. Refute it at one input. -/
def fnExactOpenAndClosedWrong : ChangeSpec := { name := "fnExactOpenAndClosed", fn := fun _ => fun
  | [d1, d2, d3] => { results := [.lit (.bool false)], args := [d1, d2, d3] }
  | _ => none }
def FnExactOpenAndClosedWrongFalsely : Prop := fnExactOpenAndClosedRow.holds Try.pinned (OpenSpec.ofChange fnExactOpenAndClosedWrong)

/-- 'laws.FnBars': WHATEVER THE INPUT: true; the input reads as it did. -/
def fnBarsSpec : ChangeSpec := { name := "fnBars", fn := fun _ => fun
  | [d1, d2] => { results := [.lit (.bool true)], args := [d1, d2] }
  | _ => none }
def fnBarsRow : OpenClaim := { program := "ytagjleeckbnddaa", sum := "37b724260d40eabceafed1847fa1877b9d0eabc98c8510b332cbe4159cc42a5d", func := "loop.example/g01033/laws.FnBars", spec := "fnBars", unfollowed := true, recurses := true, apart := false }
def FnBarsSaid : Prop := fnBarsRow.holds Try.pinned (OpenSpec.ofChange fnBarsSpec)

/-- ITS FALSE NEIGHBOUR: 'it returns false'. Refute it at one input. -/
def fnBarsWrong : ChangeSpec := { name := "fnBars", fn := fun _ => fun
  | [d1, d2] => { results := [.lit (.bool false)], args := [d1, d2] }
  | _ => none }
def FnBarsWrongFalsely : Prop := fnBarsRow.holds Try.pinned (OpenSpec.ofChange fnBarsWrong)

/- THE SECOND FORM. 'bulk': how many values and letters a reading holds, each counted each time it is reached (what is shared counts as often as it is met; a slice's spare places count too). A statement '..UptoSaid' is the law's where the arguments, and the package variables that the reading takes, are together of bulk at most 1048576: NARROWER than '..Said'. Prove '..Said' where nothing that the law and all that it calls make is longer than what came in: it says more and counts as full. Else prove '..UptoSaid'. A law counts once. -/
mutual
def uptoBulk {H : Type} : DataW H → Nat
  | .lit (.string bytes) => bytes.length + 1
  | .lit _ => 1
  | .nil => 1
  | .ptr d => uptoBulk d + 1
  | .slice elems spare => uptoBulkAll elems + uptoBulkAll spare + 1
  | .agg parts => uptoBulkAll parts + 1
  | .iface _ d => uptoBulk d + 1
  | .map entries => uptoBulkEntries entries + 1
  | .held _ => 1
def uptoBulkAll {H : Type} : List (DataW H) → Nat
  | [] => 0
  | d :: r => uptoBulk d + uptoBulkAll r
def uptoBulkEntries {H : Type} : List (Lit × DataW H) → Nat
  | [] => 0
  | x :: r => uptoBulkEntry x + uptoBulkEntries r
def uptoBulkEntry {H : Type} : Lit × DataW H → Nat
  | (.string bytes, d) => bytes.length + uptoBulk d + 1
  | (_, d) => uptoBulk d + 1
 end
def uptoSmall : (H : Type) → List (DataW H) → Bool := fun _ ds => decide (uptoBulkAll ds ≤ 1048576)
def OpenSpec.upto (s : _root_.Go.ChangeSpec) : _root_.Go.OpenSpec := { _root_.Go.OpenSpec.ofChange s with cond := some uptoSmall }

/-- 'laws.FnThemes', WHERE WHAT IT READS IS OF BULK AT MOST 1048576: true; the input reads as it did. -/
def fnThemesUptoRow : OpenClaim := { program := "ytagjleeckbnddaa", sum := "37b724260d40eabceafed1847fa1877b9d0eabc98c8510b332cbe4159cc42a5d", func := "loop.example/g01033/laws.FnThemes", spec := "fnThemes", unfollowed := true, recurses := true, apart := false, narrowed := true }
def FnThemesUptoSaid : Prop := fnThemesUptoRow.holds Try.pinned (OpenSpec.upto fnThemesSpec)

/-- 'laws.FnExactOpenAndClosed', WHERE WHAT IT READS IS OF BULK AT MOST 1048576: true; the input reads as it did. -/
def fnExactOpenAndClosedUptoRow : OpenClaim := { program := "ytagjleeckbnddaa", sum := "37b724260d40eabceafed1847fa1877b9d0eabc98c8510b332cbe4159cc42a5d", func := "loop.example/g01033/laws.FnExactOpenAndClosed", spec := "fnExactOpenAndClosed", unfollowed := true, recurses := true, apart := false, narrowed := true }
def FnExactOpenAndClosedUptoSaid : Prop := fnExactOpenAndClosedUptoRow.holds Try.pinned (OpenSpec.upto fnExactOpenAndClosedSpec)

/-- 'laws.FnBars', WHERE WHAT IT READS IS OF BULK AT MOST 1048576: true; the input reads as it did. -/
def fnBarsUptoRow : OpenClaim := { program := "ytagjleeckbnddaa", sum := "37b724260d40eabceafed1847fa1877b9d0eabc98c8510b332cbe4159cc42a5d", func := "loop.example/g01033/laws.FnBars", spec := "fnBars", unfollowed := true, recurses := true, apart := false, narrowed := true }
def FnBarsUptoSaid : Prop := fnBarsUptoRow.holds Try.pinned (OpenSpec.upto fnBarsSpec)

end Rows
end Go.Proofs.Ytagjleeckbnddaa
