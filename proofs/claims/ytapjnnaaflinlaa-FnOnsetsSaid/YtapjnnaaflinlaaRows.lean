/-
  No cell of these rows narrows 'for every input' (looked for: loops, veiled, ifaces, maps, wideKeys, modest, calm, conditions, laid).
  DERIVED. THE GIVEN ROWS OF THIS SEAT. 4 by the template 'for every input the law returns true; each argument reads behind the call as it read before'; 0 by the template 'total and deterministic' (their statements: YtapjnnaaflinlaaTotals.lean).
  GIVEN WITH THE SEED: the statements are not yours to turn. If you find one false, say at which input.
  Laid BY PROGRAM, IN A SANDBOX (cutbox-rows.mjs): the forced cells as the released guide's own fill.sh prints them over the translation f9fcb38e274bf274… (all of the seat's roots in one cut). By AI agents, Wed Nov 11 2026. No macro, syntax, notation, axiom, sorry.
-/
import Derived.Test.YtapjnnaaflinlaaChecked
import GoSem.Claim
import GoSem.ClaimJoined
import GoSem.ClaimMapViews
import Derived.JoinedTies
import Derived.KernelRfl
namespace Go.Proofs.Ytapjnnaaflinlaa
/- THE CELL 'sum', in the pinned program and in every row, IS THE sha256 OF THE DUMP (.gsa) THAT YtapjnnaaflinlaaProg.lean LOADS. Nothing in Lean hashes anything: it is a label: what it is worth is what the hold of that sum in a sandbox is worth. -/
noncomputable def Try.pinned : Pinned := { name := "ytapjnnaaflinlaa", sum := "f9fcb38e274bf27490d08b39f479a8b04e834b20da1c2e63df1bde2fe1b42051", checked := Try.checked }
namespace Rows
def none {H : Type} : Left H := { results := [], args := [] }

/-- 'laws.FnExactRampTo': WHATEVER THE INPUT: true; the input reads as it did. -/
def fnExactRampToSpec : ChangeSpec := { name := "fnExactRampTo", fn := fun _ => fun
  | [d1, d2, d3] => { results := [.lit (.bool true)], args := [d1, d2, d3] }
  | _ => none }
def fnExactRampToRow : OpenClaim := { program := "ytapjnnaaflinlaa", sum := "f9fcb38e274bf27490d08b39f479a8b04e834b20da1c2e63df1bde2fe1b42051", func := "loop.example/g01033/laws.FnExactRampTo", spec := "fnExactRampTo", unfollowed := true, recurses := true, apart := false }
def FnExactRampToSaid : Prop := fnExactRampToRow.holds Try.pinned (OpenSpec.ofChange fnExactRampToSpec)

/-- ITS FALSE NEIGHBOUR: 'it returns false'. Refute it at one input. -/
def fnExactRampToWrong : ChangeSpec := { name := "fnExactRampTo", fn := fun _ => fun
  | [d1, d2, d3] => { results := [.lit (.bool false)], args := [d1, d2, d3] }
  | _ => none }
def FnExactRampToWrongFalsely : Prop := fnExactRampToRow.holds Try.pinned (OpenSpec.ofChange fnExactRampToWrong)

/-- 'laws.FnExactCommonGap': WHATEVER THE INPUT: true; the input reads as it did. -/
def fnExactCommonGapSpec : ChangeSpec := { name := "fnExactCommonGap", fn := fun _ => fun
  | [d1, d2] => { results := [.lit (.bool true)], args := [d1, d2] }
  | _ => none }
def fnExactCommonGapRow : OpenClaim := { program := "ytapjnnaaflinlaa", sum := "f9fcb38e274bf27490d08b39f479a8b04e834b20da1c2e63df1bde2fe1b42051", func := "loop.example/g01033/laws.FnExactCommonGap", spec := "fnExactCommonGap", unfollowed := true, recurses := true, apart := false }
def FnExactCommonGapSaid : Prop := fnExactCommonGapRow.holds Try.pinned (OpenSpec.ofChange fnExactCommonGapSpec)

/-- ITS FALSE NEIGHBOUR: 'it returns false'. Refute it at one input. -/
def fnExactCommonGapWrong : ChangeSpec := { name := "fnExactCommonGap", fn := fun _ => fun
  | [d1, d2] => { results := [.lit (.bool false)], args := [d1, d2] }
  | _ => none }
def FnExactCommonGapWrongFalsely : Prop := fnExactCommonGapRow.holds Try.pinned (OpenSpec.ofChange fnExactCommonGapWrong)

/-- 'laws.FnExactMedianOffset': WHATEVER THE INPUT: true; the input reads as it did. -/
def fnExactMedianOffsetSpec : ChangeSpec := { name := "fnExactMedianOffset", fn := fun _ => fun
  | [d1, d2, d3] => { results := [.lit (.bool true)], args := [d1, d2, d3] }
  | _ => none }
def fnExactMedianOffsetRow : OpenClaim := { program := "ytapjnnaaflinlaa", sum := "f9fcb38e274bf27490d08b39f479a8b04e834b20da1c2e63df1bde2fe1b42051", func := "loop.example/g01033/laws.FnExactMedianOffset", spec := "fnExactMedianOffset", unfollowed := true, recurses := true, apart := false }
def FnExactMedianOffsetSaid : Prop := fnExactMedianOffsetRow.holds Try.pinned (OpenSpec.ofChange fnExactMedianOffsetSpec)

/-- ITS FALSE NEIGHBOUR: 'it returns false'. Refute it at one input. -/
def fnExactMedianOffsetWrong : ChangeSpec := { name := "fnExactMedianOffset", fn := fun _ => fun
  | [d1, d2, d3] => { results := [.lit (.bool false)], args := [d1, d2, d3] }
  | _ => none }
def FnExactMedianOffsetWrongFalsely : Prop := fnExactMedianOffsetRow.holds Try.pinned (OpenSpec.ofChange fnExactMedianOffsetWrong)

/-- 'laws.FnOnsets': WHATEVER THE INPUT: true; the input reads as it did. -/
def fnOnsetsSpec : ChangeSpec := { name := "fnOnsets", fn := fun _ => fun
  | [d1, d2] => { results := [.lit (.bool true)], args := [d1, d2] }
  | _ => none }
def fnOnsetsRow : OpenClaim := { program := "ytapjnnaaflinlaa", sum := "f9fcb38e274bf27490d08b39f479a8b04e834b20da1c2e63df1bde2fe1b42051", func := "loop.example/g01033/laws.FnOnsets", spec := "fnOnsets", unfollowed := true, recurses := true, apart := false }
def FnOnsetsSaid : Prop := fnOnsetsRow.holds Try.pinned (OpenSpec.ofChange fnOnsetsSpec)

/-- ITS FALSE NEIGHBOUR: 'it returns false'. Refute it at one input. -/
def fnOnsetsWrong : ChangeSpec := { name := "fnOnsets", fn := fun _ => fun
  | [d1, d2] => { results := [.lit (.bool false)], args := [d1, d2] }
  | _ => none }
def FnOnsetsWrongFalsely : Prop := fnOnsetsRow.holds Try.pinned (OpenSpec.ofChange fnOnsetsWrong)

/- THE SECOND FORM. 'bulk': how many values and letters a reading holds, each counted each time it is reached (what is shared counts as often as it is met; a slice's spare places count too). A statement '..UptoSaid' is the law's where the arguments, and the package variables that the reading takes, are together of bulk at most 1048576: NARROWER than '..Said'. Prove '..Said' where nothing that the law and all that it calls make is longer than what came in: it says more and counts as full. Else prove '..UptoSaid'. A law counts once. -/
mutual
def uptoBulk {H : Type} : DataW H → Nat
  | .lit (.string bytes) => bytes.length + 1
  | .lit _ => 1
  | .nil => 1
  | .ptr d => uptoBulk d + 1
  | .slice elems spare => uptoBulkAll elems + uptoBulkAll spare + 1
  | .agg parts => uptoBulkAll parts + 1
  | .iface _ d => uptoBulk d + 1
  | .map entries => uptoBulkEntries entries + 1
  | .held _ => 1
def uptoBulkAll {H : Type} : List (DataW H) → Nat
  | [] => 0
  | d :: r => uptoBulk d + uptoBulkAll r
def uptoBulkEntries {H : Type} : List (Lit × DataW H) → Nat
  | [] => 0
  | x :: r => uptoBulkEntry x + uptoBulkEntries r
def uptoBulkEntry {H : Type} : Lit × DataW H → Nat
  | (.string bytes, d) => bytes.length + uptoBulk d + 1
  | (_, d) => uptoBulk d + 1
 end
def uptoSmall : (H : Type) → List (DataW H) → Bool := fun _ ds => decide (uptoBulkAll ds ≤ 1048576)
def OpenSpec.upto (s : _root_.Go.ChangeSpec) : _root_.Go.OpenSpec := { _root_.Go.OpenSpec.ofChange s with cond := some uptoSmall }

/-- 'laws.FnExactRampTo', WHERE WHAT IT READS IS OF BULK AT MOST 1048576: true; the input reads as it did. -/
def fnExactRampToUptoRow : OpenClaim := { program := "ytapjnnaaflinlaa", sum := "f9fcb38e274bf27490d08b39f479a8b04e834b20da1c2e63df1bde2fe1b42051", func := "loop.example/g01033/laws.FnExactRampTo", spec := "fnExactRampTo", unfollowed := true, recurses := true, apart := false, narrowed := true }
def FnExactRampToUptoSaid : Prop := fnExactRampToUptoRow.holds Try.pinned (OpenSpec.upto fnExactRampToSpec)

/-- 'laws.FnExactCommonGap', WHERE WHAT IT READS IS OF BULK AT MOST 1048576: true; the input reads as it did. -/
def fnExactCommonGapUptoRow : OpenClaim := { program := "ytapjnnaaflinlaa", sum := "f9fcb38e274bf27490d08b39f479a8b04e834b20da1c2e63df1bde2fe1b42051", func := "loop.example/g01033/laws.FnExactCommonGap", spec := "fnExactCommonGap", unfollowed := true, recurses := true, apart := false, narrowed := true }
def FnExactCommonGapUptoSaid : Prop := fnExactCommonGapUptoRow.holds Try.pinned (OpenSpec.upto fnExactCommonGapSpec)

/-- 'laws.FnExactMedianOffset', WHERE WHAT IT READS IS OF BULK AT MOST 1048576: true; the input reads as it did. -/
def fnExactMedianOffsetUptoRow : OpenClaim := { program := "ytapjnnaaflinlaa", sum := "f9fcb38e274bf27490d08b39f479a8b04e834b20da1c2e63df1bde2fe1b42051", func := "loop.example/g01033/laws.FnExactMedianOffset", spec := "fnExactMedianOffset", unfollowed := true, recurses := true, apart := false, narrowed := true }
def FnExactMedianOffsetUptoSaid : Prop := fnExactMedianOffsetUptoRow.holds Try.pinned (OpenSpec.upto fnExactMedianOffsetSpec)

/-- 'laws.FnOnsets', WHERE WHAT IT READS IS OF BULK AT MOST 1048576: true; the input reads as it did. -/
def fnOnsetsUptoRow : OpenClaim := { program := "ytapjnnaaflinlaa", sum := "f9fcb38e274bf27490d08b39f479a8b04e834b20da1c2e63df1bde2fe1b42051", func := "loop.example/g01033/laws.FnOnsets", spec := "fnOnsets", unfollowed := true, recurses := true, apart := false, narrowed := true }
def FnOnsetsUptoSaid : Prop := fnOnsetsUptoRow.holds Try.pinned (OpenSpec.upto fnOnsetsSpec)

end Rows
end Go.Proofs.Ytapjnnaaflinlaa
