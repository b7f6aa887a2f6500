/-
  No cell of these rows narrows 'for every input' (looked for: loops, veiled, ifaces, maps, wideKeys, modest, calm, conditions, laid).
  DERIVED. THE GIVEN ROWS OF THIS SEAT. 12 by the template 'for every input the law returns true; each argument reads behind the call as it read before'; 0 by the template 'total and deterministic' (their statements: YtmkjjjpffakfiaaTotals.lean).
  GIVEN WITH THE SEED: the statements are not yours to turn. If you find one false, say at which input.
  Laid BY PROGRAM, IN A SANDBOX (cutbox-rows.mjs): the forced cells as the released guide's own fill.sh prints them over the translation f9da473c48b4772d… (all of the seat's roots in one cut). By AI agents, Wed Nov 11 2026. No macro, syntax, notation, axiom, sorry.
-/
import Derived.Test.YtmkjjjpffakfiaaChecked
import GoSem.Claim
import GoSem.ClaimJoined
import GoSem.ClaimMapViews
import Derived.JoinedTies
import Derived.KernelRfl
namespace Go.Proofs.Ytmkjjjpffakfiaa
/- THE CELL 'sum', in the pinned program and in every row, IS THE sha256 OF THE DUMP (.gsa) THAT YtmkjjjpffakfiaaProg.lean LOADS. Nothing in Lean hashes anything: it is a label: what it is worth is what the hold of that sum in a sandbox is worth. -/
noncomputable def Try.pinned : Pinned := { name := "ytmkjjjpffakfiaa", sum := "f9da473c48b4772dd16d4004db65a86d78174c57b61fe5f42d8a3bd11d53380b", checked := Try.checked }
namespace Rows
def none {H : Type} : Left H := { results := [], args := [] }

/-- 'laws.FnVariants': WHATEVER THE INPUT: true; the input reads as it did. -/
def fnVariantsSpec : ChangeSpec := { name := "fnVariants", fn := fun _ => fun
  | [d] => { results := [.lit (.bool true)], args := [d] }
  | _ => none }
def fnVariantsRow : OpenClaim := { program := "ytmkjjjpffakfiaa", sum := "f9da473c48b4772dd16d4004db65a86d78174c57b61fe5f42d8a3bd11d53380b", func := "loop.example/g01033/laws.FnVariants", spec := "fnVariants", unfollowed := true, recurses := true, apart := false }
def FnVariantsSaid : Prop := fnVariantsRow.holds Try.pinned (OpenSpec.ofChange fnVariantsSpec)

/-- ITS FALSE NEIGHBOUR: 'it returns false'. Refute it at one input. -/
def fnVariantsWrong : ChangeSpec := { name := "fnVariants", fn := fun _ => fun
  | [d] => { results := [.lit (.bool false)], args := [d] }
  | _ => none }
def FnVariantsWrongFalsely : Prop := fnVariantsRow.holds Try.pinned (OpenSpec.ofChange fnVariantsWrong)

/-- 'laws.FnExactNearestOnset': WHATEVER THE INPUT: true; the input reads as it did. -/
def fnExactNearestOnsetSpec : ChangeSpec := { name := "fnExactNearestOnset", fn := fun _ => fun
  | [d1, d2] => { results := [.lit (.bool true)], args := [d1, d2] }
  | _ => none }
def fnExactNearestOnsetRow : OpenClaim := { program := "ytmkjjjpffakfiaa", sum := "f9da473c48b4772dd16d4004db65a86d78174c57b61fe5f42d8a3bd11d53380b", func := "loop.example/g01033/laws.FnExactNearestOnset", spec := "fnExactNearestOnset", unfollowed := true, recurses := true, apart := false }
def FnExactNearestOnsetSaid : Prop := fnExactNearestOnsetRow.holds Try.pinned (OpenSpec.ofChange fnExactNearestOnsetSpec)

/-- ITS FALSE NEIGHBOUR: 'it returns false'. Refute it at one input. -/
def fnExactNearestOnsetWrong : ChangeSpec := { name := "fnExactNearestOnset", fn := fun _ => fun
  | [d1, d2] => { results := [.lit (.bool false)], args := [d1, d2] }
  | _ => none }
def FnExactNearestOnsetWrongFalsely : Prop := fnExactNearestOnsetRow.holds Try.pinned (OpenSpec.ofChange fnExactNearestOnsetWrong)

/-- 'laws.FnExactShiftOnsets': WHATEVER THE INPUT: true; the input reads as it did. -/
def fnExactShiftOnsetsSpec : ChangeSpec := { name := "fnExactShiftOnsets", fn := fun _ => fun
  | [d1, d2] => { results := [.lit (.bool true)], args := [d1, d2] }
  | _ => none }
def fnExactShiftOnsetsRow : OpenClaim := { program := "ytmkjjjpffakfiaa", sum := "f9da473c48b4772dd16d4004db65a86d78174c57b61fe5f42d8a3bd11d53380b", func := "loop.example/g01033/laws.FnExactShiftOnsets", spec := "fnExactShiftOnsets", unfollowed := true, recurses := true, apart := false }
def FnExactShiftOnsetsSaid : Prop := fnExactShiftOnsetsRow.holds Try.pinned (OpenSpec.ofChange fnExactShiftOnsetsSpec)

/-- ITS FALSE NEIGHBOUR: 'it returns false'. Refute it at one input. -/
def fnExactShiftOnsetsWrong : ChangeSpec := { name := "fnExactShiftOnsets", fn := fun _ => fun
  | [d1, d2] => { results := [.lit (.bool false)], args := [d1, d2] }
  | _ => none }
def FnExactShiftOnsetsWrongFalsely : Prop := fnExactShiftOnsetsRow.holds Try.pinned (OpenSpec.ofChange fnExactShiftOnsetsWrong)

/-- 'laws.FnThemes': WHATEVER THE INPUT: true; the input reads as it did. -/
def fnThemesSpec : ChangeSpec := { name := "fnThemes", fn := fun _ => fun
  | [d1, d2] => { results := [.lit (.bool true)], args := [d1, d2] }
  | _ => none }
def fnThemesRow : OpenClaim := { program := "ytmkjjjpffakfiaa", sum := "f9da473c48b4772dd16d4004db65a86d78174c57b61fe5f42d8a3bd11d53380b", func := "loop.example/g01033/laws.FnThemes", spec := "fnThemes", unfollowed := true, recurses := true, apart := false }
def FnThemesSaid : Prop := fnThemesRow.holds Try.pinned (OpenSpec.ofChange fnThemesSpec)

/-- ITS FALSE NEIGHBOUR: 'it returns false'. Refute it at one input. -/
def fnThemesWrong : ChangeSpec := { name := "fnThemes", fn := fun _ => fun
  | [d1, d2] => { results := [.lit (.bool false)], args := [d1, d2] }
  | _ => none }
def FnThemesWrongFalsely : Prop := fnThemesRow.holds Try.pinned (OpenSpec.ofChange fnThemesWrong)

/-- 'laws.FnExactTicksFor': WHATEVER THE INPUT: true; the input reads as it did. -/
def fnExactTicksForSpec : ChangeSpec := { name := "fnExactTicksFor", fn := fun _ => fun
  | [d] => { results := [.lit (.bool true)], args := [d] }
  | _ => none }
def fnExactTicksForRow : OpenClaim := { program := "ytmkjjjpffakfiaa", sum := "f9da473c48b4772dd16d4004db65a86d78174c57b61fe5f42d8a3bd11d53380b", func := "loop.example/g01033/laws.FnExactTicksFor", spec := "fnExactTicksFor", unfollowed := true, recurses := true, apart := false }
def FnExactTicksForSaid : Prop := fnExactTicksForRow.holds Try.pinned (OpenSpec.ofChange fnExactTicksForSpec)

/-- ITS FALSE NEIGHBOUR: 'it returns false'. Refute it at one input. -/
def fnExactTicksForWrong : ChangeSpec := { name := "fnExactTicksFor", fn := fun _ => fun
  | [d] => { results := [.lit (.bool false)], args := [d] }
  | _ => none }
def FnExactTicksForWrongFalsely : Prop := fnExactTicksForRow.holds Try.pinned (OpenSpec.ofChange fnExactTicksForWrong)

/-- 'laws.FnExactOffsetsOf': WHATEVER THE INPUT: true; the input reads as it did. -/
def fnExactOffsetsOfSpec : ChangeSpec := { name := "fnExactOffsetsOf", fn := fun _ => fun
  | [d1, d2, d3] => { results := [.lit (.bool true)], args := [d1, d2, d3] }
  | _ => none }
def fnExactOffsetsOfRow : OpenClaim := { program := "ytmkjjjpffakfiaa", sum := "f9da473c48b4772dd16d4004db65a86d78174c57b61fe5f42d8a3bd11d53380b", func := "loop.example/g01033/laws.FnExactOffsetsOf", spec := "fnExactOffsetsOf", unfollowed := true, recurses := true, apart := false }
def FnExactOffsetsOfSaid : Prop := fnExactOffsetsOfRow.holds Try.pinned (OpenSpec.ofChange fnExactOffsetsOfSpec)

/-- ITS FALSE NEIGHBOUR: 'it returns false'. Refute it at one input. -/
def fnExactOffsetsOfWrong : ChangeSpec := { name := "fnExactOffsetsOf", fn := fun _ => fun
  | [d1, d2, d3] => { results := [.lit (.bool false)], args := [d1, d2, d3] }
  | _ => none }
def FnExactOffsetsOfWrongFalsely : Prop := fnExactOffsetsOfRow.holds Try.pinned (OpenSpec.ofChange fnExactOffsetsOfWrong)

/-- 'laws.FnExactRampTo': WHATEVER THE INPUT: true; the input reads as it did. -/
def fnExactRampToSpec : ChangeSpec := { name := "fnExactRampTo", fn := fun _ => fun
  | [d1, d2, d3] => { results := [.lit (.bool true)], args := [d1, d2, d3] }
  | _ => none }
def fnExactRampToRow : OpenClaim := { program := "ytmkjjjpffakfiaa", sum := "f9da473c48b4772dd16d4004db65a86d78174c57b61fe5f42d8a3bd11d53380b", func := "loop.example/g01033/laws.FnExactRampTo", spec := "fnExactRampTo", unfollowed := true, recurses := true, apart := false }
def FnExactRampToSaid : Prop := fnExactRampToRow.holds Try.pinned (OpenSpec.ofChange fnExactRampToSpec)

/-- ITS FALSE NEIGHBOUR: 'it returns false'. Refute it at one input. -/
def fnExactRampToWrong : ChangeSpec := { name := "fnExactRampTo", fn := fun _ => fun
  | [d1, d2, d3] => { results := [.lit (.bool false)], args := [d1, d2, d3] }
  | _ => none }
def FnExactRampToWrongFalsely : Prop := fnExactRampToRow.holds Try.pinned (OpenSpec.ofChange fnExactRampToWrong)

/-- 'laws.FnExactNumberedGrouping': WHATEVER THE INPUT: true; the input reads as it did. -/
def fnExactNumberedGroupingSpec : ChangeSpec := { name := "fnExactNumberedGrouping", fn := fun _ => fun
  | [d1, d2, d3] => { results := [.lit (.bool true)], args := [d1, d2, d3] }
  | _ => none }
def fnExactNumberedGroupingRow : OpenClaim := { program := "ytmkjjjpffakfiaa", sum := "f9da473c48b4772dd16d4004db65a86d78174c57b61fe5f42d8a3bd11d53380b", func := "loop.example/g01033/laws.FnExactNumberedGrouping", spec := "fnExactNumberedGrouping", unfollowed := true, recurses := true, apart := false }
def FnExactNumberedGroupingSaid : Prop := fnExactNumberedGroupingRow.holds Try.pinned (OpenSpec.ofChange fnExactNumberedGroupingSpec)

/-- ITS FALSE NEIGHBOUR: 'it returns false'. Refute it at one input. -/
def fnExactNumberedGroupingWrong : ChangeSpec := { name := "fnExactNumberedGrouping", fn := fun _ => fun
  | [d1, d2, d3] => { results := [.lit (.bool false)], args := [d1, d2, d3] }
  | _ => none }
def FnExactNumberedGroupingWrongFalsely : Prop := fnExactNumberedGroupingRow.holds Try.pinned (OpenSpec.ofChange fnExactNumberedGroupingWrong)

/-- 'laws.FnExactTempoAt': WHATEVER THE INPUT: true; the input reads as it did. -/
def fnExactTempoAtSpec : ChangeSpec := { name := "fnExactTempoAt", fn := fun _ => fun
  | [d1, d2] => { results := [.lit (.bool true)], args := [d1, d2] }
  | _ => none }
def fnExactTempoAtRow : OpenClaim := { program := "ytmkjjjpffakfiaa", sum := "f9da473c48b4772dd16d4004db65a86d78174c57b61fe5f42d8a3bd11d53380b", func := "loop.example/g01033/laws.FnExactTempoAt", spec := "fnExactTempoAt", apart := false }
def FnExactTempoAtSaid : Prop := fnExactTempoAtRow.holds Try.pinned (OpenSpec.ofChange fnExactTempoAtSpec)

/-- ITS FALSE NEIGHBOUR: 'it returns false'. Refute it at one input. -/
def fnExactTempoAtWrong : ChangeSpec := { name := "fnExactTempoAt", fn := fun _ => fun
  | [d1, d2] => { results := [.lit (.bool false)], args := [d1, d2] }
  | _ => none }
def FnExactTempoAtWrongFalsely : Prop := fnExactTempoAtRow.holds Try.pinned (OpenSpec.ofChange fnExactTempoAtWrong)

/-- 'laws.FnExactSpeedUp': WHATEVER THE INPUT: true; the input reads as it did. -/
def fnExactSpeedUpSpec : ChangeSpec := { name := "fnExactSpeedUp", fn := fun _ => fun
  | [d1, d2, d3] => { results := [.lit (.bool true)], args := [d1, d2, d3] }
  | _ => none }
def fnExactSpeedUpRow : OpenClaim := { program := "ytmkjjjpffakfiaa", sum := "f9da473c48b4772dd16d4004db65a86d78174c57b61fe5f42d8a3bd11d53380b", func := "loop.example/g01033/laws.FnExactSpeedUp", spec := "fnExactSpeedUp", apart := false }
def FnExactSpeedUpSaid : Prop := fnExactSpeedUpRow.holds Try.pinned (OpenSpec.ofChange fnExactSpeedUpSpec)

/-- ITS FALSE NEIGHBOUR: 'it returns false'. Refute it at one input. -/
def fnExactSpeedUpWrong : ChangeSpec := { name := "fnExactSpeedUp", fn := fun _ => fun
  | [d1, d2, d3] => { results := [.lit (.bool false)], args := [d1, d2, d3] }
  | _ => none }
def FnExactSpeedUpWrongFalsely : Prop := fnExactSpeedUpRow.holds Try.pinned (OpenSpec.ofChange fnExactSpeedUpWrong)

/-- 'laws.FnAlignment': WHATEVER THE INPUT: true; the input reads as it did. -/
def fnAlignmentSpec : ChangeSpec := { name := "fnAlignment", fn := fun _ => fun
  | [d1, d2] => { results := [.lit (.bool true)], args := [d1, d2] }
  | _ => none }
def fnAlignmentRow : OpenClaim := { program := "ytmkjjjpffakfiaa", sum := "f9da473c48b4772dd16d4004db65a86d78174c57b61fe5f42d8a3bd11d53380b", func := "loop.example/g01033/laws.FnAlignment", spec := "fnAlignment", unfollowed := true, recurses := true, apart := false }
def FnAlignmentSaid : Prop := fnAlignmentRow.holds Try.pinned (OpenSpec.ofChange fnAlignmentSpec)

/-- ITS FALSE NEIGHBOUR: 'it returns false'. Refute it at one input. -/
def fnAlignmentWrong : ChangeSpec := { name := "fnAlignment", fn := fun _ => fun
  | [d1, d2] => { results := [.lit (.bool false)], args := [d1, d2] }
  | _ => none }
def FnAlignmentWrongFalsely : Prop := fnAlignmentRow.holds Try.pinned (OpenSpec.ofChange fnAlignmentWrong)

/-- 'laws.FnExactGroupingNumber': WHATEVER THE INPUT: true; the input reads as it did. -/
def fnExactGroupingNumberSpec : ChangeSpec := { name := "fnExactGroupingNumber", fn := fun _ => fun
  | [d1, d2] => { results := [.lit (.bool true)], args := [d1, d2] }
  | _ => none }
def fnExactGroupingNumberRow : OpenClaim := { program := "ytmkjjjpffakfiaa", sum := "f9da473c48b4772dd16d4004db65a86d78174c57b61fe5f42d8a3bd11d53380b", func := "loop.example/g01033/laws.FnExactGroupingNumber", spec := "fnExactGroupingNumber", unfollowed := true, recurses := true, apart := false }
def FnExactGroupingNumberSaid : Prop := fnExactGroupingNumberRow.holds Try.pinned (OpenSpec.ofChange fnExactGroupingNumberSpec)

/-- ITS FALSE NEIGHBOUR: 'it returns false'. Refute it at one input. -/
def fnExactGroupingNumberWrong : ChangeSpec := { name := "fnExactGroupingNumber", fn := fun _ => fun
  | [d1, d2] => { results := [.lit (.bool false)], args := [d1, d2] }
  | _ => none }
def FnExactGroupingNumberWrongFalsely : Prop := fnExactGroupingNumberRow.holds Try.pinned (OpenSpec.ofChange fnExactGroupingNumberWrong)

/- THE SECOND FORM. 'bulk': how many values and letters a reading holds, each counted each time it is reached (what is shared counts as often as it is met; a slice's spare places count too). A statement '..UptoSaid' is the law's where the arguments, and the package variables that the reading takes, are together of bulk at most 1048576: NARROWER than '..Said'. Prove '..Said' where nothing that the law and all that it calls make is longer than what came in: it says more and counts as full. Else prove '..UptoSaid'. A law counts once. -/
mutual
def uptoBulk {H : Type} : DataW H → Nat
  | .lit (.string bytes) => bytes.length + 1
  | .lit _ => 1
  | .nil => 1
  | .ptr d => uptoBulk d + 1
  | .slice elems spare => uptoBulkAll elems + uptoBulkAll spare + 1
  | .agg parts => uptoBulkAll parts + 1
  | .iface _ d => uptoBulk d + 1
  | .map entries => uptoBulkEntries entries + 1
  | .held _ => 1
def uptoBulkAll {H : Type} : List (DataW H) → Nat
  | [] => 0
  | d :: r => uptoBulk d + uptoBulkAll r
def uptoBulkEntries {H : Type} : List (Lit × DataW H) → Nat
  | [] => 0
  | x :: r => uptoBulkEntry x + uptoBulkEntries r
def uptoBulkEntry {H : Type} : Lit × DataW H → Nat
  | (.string bytes, d) => bytes.length + uptoBulk d + 1
  | (_, d) => uptoBulk d + 1
 end
def uptoSmall : (H : Type) → List (DataW H) → Bool := fun _ ds => decide (uptoBulkAll ds ≤ 1048576)
def OpenSpec.upto (s : _root_.Go.ChangeSpec) : _root_.Go.OpenSpec := { _root_.Go.OpenSpec.ofChange s with cond := some uptoSmall }

/-- 'laws.FnVariants', WHERE WHAT IT READS IS OF BULK AT MOST 1048576: true; the input reads as it did. -/
def fnVariantsUptoRow : OpenClaim := { program := "ytmkjjjpffakfiaa", sum := "f9da473c48b4772dd16d4004db65a86d78174c57b61fe5f42d8a3bd11d53380b", func := "loop.example/g01033/laws.FnVariants", spec := "fnVariants", unfollowed := true, recurses := true, apart := false, narrowed := true }
def FnVariantsUptoSaid : Prop := fnVariantsUptoRow.holds Try.pinned (OpenSpec.upto fnVariantsSpec)

/-- 'laws.FnExactNearestOnset', WHERE WHAT IT READS IS OF BULK AT MOST 1048576: true; the input reads as it did. -/
def fnExactNearestOnsetUptoRow : OpenClaim := { program := "ytmkjjjpffakfiaa", sum := "f9da473c48b4772dd16d4004db65a86d78174c57b61fe5f42d8a3bd11d53380b", func := "loop.example/g01033/laws.FnExactNearestOnset", spec := "fnExactNearestOnset", unfollowed := true, recurses := true, apart := false, narrowed := true }
def FnExactNearestOnsetUptoSaid : Prop := fnExactNearestOnsetUptoRow.holds Try.pinned (OpenSpec.upto fnExactNearestOnsetSpec)

/-- 'laws.FnExactShiftOnsets', WHERE WHAT IT READS IS OF BULK AT MOST 1048576: true; the input reads as it did. -/
def fnExactShiftOnsetsUptoRow : OpenClaim := { program := "ytmkjjjpffakfiaa", sum := "f9da473c48b4772dd16d4004db65a86d78174c57b61fe5f42d8a3bd11d53380b", func := "loop.example/g01033/laws.FnExactShiftOnsets", spec := "fnExactShiftOnsets", unfollowed := true, recurses := true, apart := false, narrowed := true }
def FnExactShiftOnsetsUptoSaid : Prop := fnExactShiftOnsetsUptoRow.holds Try.pinned (OpenSpec.upto fnExactShiftOnsetsSpec)

/-- 'laws.FnThemes', WHERE WHAT IT READS IS OF BULK AT MOST 1048576: true; the input reads as it did. -/
def fnThemesUptoRow : OpenClaim := { program := "ytmkjjjpffakfiaa", sum := "f9da473c48b4772dd16d4004db65a86d78174c57b61fe5f42d8a3bd11d53380b", func := "loop.example/g01033/laws.FnThemes", spec := "fnThemes", unfollowed := true, recurses := true, apart := false, narrowed := true }
def FnThemesUptoSaid : Prop := fnThemesUptoRow.holds Try.pinned (OpenSpec.upto fnThemesSpec)

/-- 'laws.FnExactTicksFor', WHERE WHAT IT READS IS OF BULK AT MOST 1048576: true; the input reads as it did. -/
def fnExactTicksForUptoRow : OpenClaim := { program := "ytmkjjjpffakfiaa", sum := "f9da473c48b4772dd16d4004db65a86d78174c57b61fe5f42d8a3bd11d53380b", func := "loop.example/g01033/laws.FnExactTicksFor", spec := "fnExactTicksFor", unfollowed := true, recurses := true, apart := false, narrowed := true }
def FnExactTicksForUptoSaid : Prop := fnExactTicksForUptoRow.holds Try.pinned (OpenSpec.upto fnExactTicksForSpec)

/-- 'laws.FnExactOffsetsOf', WHERE WHAT IT READS IS OF BULK AT MOST 1048576: true; the input reads as it did. -/
def fnExactOffsetsOfUptoRow : OpenClaim := { program := "ytmkjjjpffakfiaa", sum := "f9da473c48b4772dd16d4004db65a86d78174c57b61fe5f42d8a3bd11d53380b", func := "loop.example/g01033/laws.FnExactOffsetsOf", spec := "fnExactOffsetsOf", unfollowed := true, recurses := true, apart := false, narrowed := true }
def FnExactOffsetsOfUptoSaid : Prop := fnExactOffsetsOfUptoRow.holds Try.pinned (OpenSpec.upto fnExactOffsetsOfSpec)

/-- 'laws.FnExactRampTo', WHERE WHAT IT READS IS OF BULK AT MOST 1048576: true; the input reads as it did. -/
def fnExactRampToUptoRow : OpenClaim := { program := "ytmkjjjpffakfiaa", sum := "f9da473c48b4772dd16d4004db65a86d78174c57b61fe5f42d8a3bd11d53380b", func := "loop.example/g01033/laws.FnExactRampTo", spec := "fnExactRampTo", unfollowed := true, recurses := true, apart := false, narrowed := true }
def FnExactRampToUptoSaid : Prop := fnExactRampToUptoRow.holds Try.pinned (OpenSpec.upto fnExactRampToSpec)

/-- 'laws.FnExactNumberedGrouping', WHERE WHAT IT READS IS OF BULK AT MOST 1048576: true; the input reads as it did. -/
def fnExactNumberedGroupingUptoRow : OpenClaim := { program := "ytmkjjjpffakfiaa", sum := "f9da473c48b4772dd16d4004db65a86d78174c57b61fe5f42d8a3bd11d53380b", func := "loop.example/g01033/laws.FnExactNumberedGrouping", spec := "fnExactNumberedGrouping", unfollowed := true, recurses := true, apart := false, narrowed := true }
def FnExactNumberedGroupingUptoSaid : Prop := fnExactNumberedGroupingUptoRow.holds Try.pinned (OpenSpec.upto fnExactNumberedGroupingSpec)

/-- 'laws.FnExactTempoAt', WHERE WHAT IT READS IS OF BULK AT MOST 1048576: true; the input reads as it did. -/
def fnExactTempoAtUptoRow : OpenClaim := { program := "ytmkjjjpffakfiaa", sum := "f9da473c48b4772dd16d4004db65a86d78174c57b61fe5f42d8a3bd11d53380b", func := "loop.example/g01033/laws.FnExactTempoAt", spec := "fnExactTempoAt", apart := false, narrowed := true }
def FnExactTempoAtUptoSaid : Prop := fnExactTempoAtUptoRow.holds Try.pinned (OpenSpec.upto fnExactTempoAtSpec)

/-- 'laws.FnExactSpeedUp', WHERE WHAT IT READS IS OF BULK AT MOST 1048576: true; the input reads as it did. -/
def fnExactSpeedUpUptoRow : OpenClaim := { program := "ytmkjjjpffakfiaa", sum := "f9da473c48b4772dd16d4004db65a86d78174c57b61fe5f42d8a3bd11d53380b", func := "loop.example/g01033/laws.FnExactSpeedUp", spec := "fnExactSpeedUp", apart := false, narrowed := true }
def FnExactSpeedUpUptoSaid : Prop := fnExactSpeedUpUptoRow.holds Try.pinned (OpenSpec.upto fnExactSpeedUpSpec)

/-- 'laws.FnAlignment', WHERE WHAT IT READS IS OF BULK AT MOST 1048576: true; the input reads as it did. -/
def fnAlignmentUptoRow : OpenClaim := { program := "ytmkjjjpffakfiaa", sum := "f9da473c48b4772dd16d4004db65a86d78174c57b61fe5f42d8a3bd11d53380b", func := "loop.example/g01033/laws.FnAlignment", spec := "fnAlignment", unfollowed := true, recurses := true, apart := false, narrowed := true }
def FnAlignmentUptoSaid : Prop := fnAlignmentUptoRow.holds Try.pinned (OpenSpec.upto fnAlignmentSpec)

/-- 'laws.FnExactGroupingNumber', WHERE WHAT IT READS IS OF BULK AT MOST 1048576: true; the input reads as it did. -/
def fnExactGroupingNumberUptoRow : OpenClaim := { program := "ytmkjjjpffakfiaa", sum := "f9da473c48b4772dd16d4004db65a86d78174c57b61fe5f42d8a3bd11d53380b", func := "loop.example/g01033/laws.FnExactGroupingNumber", spec := "fnExactGroupingNumber", unfollowed := true, recurses := true, apart := false, narrowed := true }
def FnExactGroupingNumberUptoSaid : Prop := fnExactGroupingNumberUptoRow.holds Try.pinned (OpenSpec.upto fnExactGroupingNumberSpec)

end Rows
end Go.Proofs.Ytmkjjjpffakfiaa
