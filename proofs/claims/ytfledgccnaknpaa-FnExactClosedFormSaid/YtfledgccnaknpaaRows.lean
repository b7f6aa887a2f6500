/-
  No cell of these rows narrows 'for every input' (looked for: loops, veiled, ifaces, maps, wideKeys, modest, calm, conditions, laid).
  DERIVED. THE GIVEN ROWS OF THIS SEAT. 12 by the template 'for every input the law returns true; each argument reads behind the call as it read before'; 0 by the template 'total and deterministic' (their statements: YtfledgccnaknpaaTotals.lean).
  GIVEN WITH THE SEED: the statements are not yours to turn. If you find one false, say at which input.
  Laid BY PROGRAM, IN A SANDBOX (cutbox-rows.mjs): the forced cells as the released guide's own fill.sh prints them over the translation 753f5b78de5b0bd1… (all of the seat's roots in one cut). By AI agents, Wed Nov 11 2026. No macro, syntax, notation, axiom, sorry.
-/
import Derived.Test.YtfledgccnaknpaaChecked
import GoSem.Claim
import GoSem.ClaimJoined
import GoSem.ClaimMapViews
import Derived.JoinedTies
import Derived.KernelRfl
namespace Go.Proofs.Ytfledgccnaknpaa
/- THE CELL 'sum', in the pinned program and in every row, IS THE sha256 OF THE DUMP (.gsa) THAT YtfledgccnaknpaaProg.lean LOADS. Nothing in Lean hashes anything: it is a label: what it is worth is what the hold of that sum in a sandbox is worth. -/
noncomputable def Try.pinned : Pinned := { name := "ytfledgccnaknpaa", sum := "753f5b78de5b0bd127716b6ac7e8e401154d9d091e32f0fd9b2b1b4da58b0846", checked := Try.checked }
namespace Rows
def none {H : Type} : Left H := { results := [], args := [] }

/-- 'laws.FnExactReverseTheme': WHATEVER THE INPUT: true; the input reads as it did. -/
def fnExactReverseThemeSpec : ChangeSpec := { name := "fnExactReverseTheme", fn := fun _ => fun
  | [d1, d2] => { results := [.lit (.bool true)], args := [d1, d2] }
  | _ => none }
def fnExactReverseThemeRow : OpenClaim := { program := "ytfledgccnaknpaa", sum := "753f5b78de5b0bd127716b6ac7e8e401154d9d091e32f0fd9b2b1b4da58b0846", func := "loop.example/g01033/laws.FnExactReverseTheme", spec := "fnExactReverseTheme", unfollowed := true, recurses := true, plainKeys := false, apart := false }
def FnExactReverseThemeSaid : Prop := fnExactReverseThemeRow.holds Try.pinned (OpenSpec.ofChange fnExactReverseThemeSpec)

/-- ITS FALSE NEIGHBOUR: 'it returns false'. Refute it at one input. -/
def fnExactReverseThemeWrong : ChangeSpec := { name := "fnExactReverseTheme", fn := fun _ => fun
  | [d1, d2] => { results := [.lit (.bool false)], args := [d1, d2] }
  | _ => none }
def FnExactReverseThemeWrongFalsely : Prop := fnExactReverseThemeRow.holds Try.pinned (OpenSpec.ofChange fnExactReverseThemeWrong)

/-- 'laws.FnExactCyclesOf': WHATEVER THE INPUT: true; the input reads as it did. -/
def fnExactCyclesOfSpec : ChangeSpec := { name := "fnExactCyclesOf", fn := fun _ => fun
  | [d1, d2, d3] => { results := [.lit (.bool true)], args := [d1, d2, d3] }
  | _ => none }
def fnExactCyclesOfRow : OpenClaim := { program := "ytfledgccnaknpaa", sum := "753f5b78de5b0bd127716b6ac7e8e401154d9d091e32f0fd9b2b1b4da58b0846", func := "loop.example/g01033/laws.FnExactCyclesOf", spec := "fnExactCyclesOf", unfollowed := true, recurses := true, plainKeys := false, apart := false }
def FnExactCyclesOfSaid : Prop := fnExactCyclesOfRow.holds Try.pinned (OpenSpec.ofChange fnExactCyclesOfSpec)

/-- ITS FALSE NEIGHBOUR: 'it returns false'. Refute it at one input. -/
def fnExactCyclesOfWrong : ChangeSpec := { name := "fnExactCyclesOf", fn := fun _ => fun
  | [d1, d2, d3] => { results := [.lit (.bool false)], args := [d1, d2, d3] }
  | _ => none }
def FnExactCyclesOfWrongFalsely : Prop := fnExactCyclesOfRow.holds Try.pinned (OpenSpec.ofChange fnExactCyclesOfWrong)

/-- 'laws.FnComposed': WHATEVER THE INPUT: true; the input reads as it did. -/
def fnComposedSpec : ChangeSpec := { name := "fnComposed", fn := fun _ => fun
  | [d] => { results := [.lit (.bool true)], args := [d] }
  | _ => none }
def fnComposedRow : OpenClaim := { program := "ytfledgccnaknpaa", sum := "753f5b78de5b0bd127716b6ac7e8e401154d9d091e32f0fd9b2b1b4da58b0846", func := "loop.example/g01033/laws.FnComposed", spec := "fnComposed", recurses := true, plainKeys := false, apart := false }
def FnComposedSaid : Prop := fnComposedRow.holds Try.pinned (OpenSpec.ofChange fnComposedSpec)

/-- ITS FALSE NEIGHBOUR: 'it returns false'. Refute it at one input. -/
def fnComposedWrong : ChangeSpec := { name := "fnComposed", fn := fun _ => fun
  | [d] => { results := [.lit (.bool false)], args := [d] }
  | _ => none }
def FnComposedWrongFalsely : Prop := fnComposedRow.holds Try.pinned (OpenSpec.ofChange fnComposedWrong)

/-- 'laws.FnExactNotesAtSam': WHATEVER THE INPUT: true; the input reads as it did. -/
def fnExactNotesAtSamSpec : ChangeSpec := { name := "fnExactNotesAtSam", fn := fun _ => fun
  | [d1, d2, d3] => { results := [.lit (.bool true)], args := [d1, d2, d3] }
  | _ => none }
def fnExactNotesAtSamRow : OpenClaim := { program := "ytfledgccnaknpaa", sum := "753f5b78de5b0bd127716b6ac7e8e401154d9d091e32f0fd9b2b1b4da58b0846", func := "loop.example/g01033/laws.FnExactNotesAtSam", spec := "fnExactNotesAtSam", unfollowed := true, recurses := true, plainKeys := false, apart := false }
def FnExactNotesAtSamSaid : Prop := fnExactNotesAtSamRow.holds Try.pinned (OpenSpec.ofChange fnExactNotesAtSamSpec)

/-- ITS FALSE NEIGHBOUR: 'it returns false'. Refute it at one input. -/
def fnExactNotesAtSamWrong : ChangeSpec := { name := "fnExactNotesAtSam", fn := fun _ => fun
  | [d1, d2, d3] => { results := [.lit (.bool false)], args := [d1, d2, d3] }
  | _ => none }
def FnExactNotesAtSamWrongFalsely : Prop := fnExactNotesAtSamRow.holds Try.pinned (OpenSpec.ofChange fnExactNotesAtSamWrong)

/-- 'laws.FnTimes': WHATEVER THE INPUT: true; the input reads as it did. -/
def fnTimesSpec : ChangeSpec := { name := "fnTimes", fn := fun _ => fun
  | [d1, d2] => { results := [.lit (.bool true)], args := [d1, d2] }
  | _ => none }
def fnTimesRow : OpenClaim := { program := "ytfledgccnaknpaa", sum := "753f5b78de5b0bd127716b6ac7e8e401154d9d091e32f0fd9b2b1b4da58b0846", func := "loop.example/g01033/laws.FnTimes", spec := "fnTimes", unfollowed := true, recurses := true, plainKeys := false, apart := false }
def FnTimesSaid : Prop := fnTimesRow.holds Try.pinned (OpenSpec.ofChange fnTimesSpec)

/-- ITS FALSE NEIGHBOUR: 'it returns false'. Refute it at one input. -/
def fnTimesWrong : ChangeSpec := { name := "fnTimes", fn := fun _ => fun
  | [d1, d2] => { results := [.lit (.bool false)], args := [d1, d2] }
  | _ => none }
def FnTimesWrongFalsely : Prop := fnTimesRow.holds Try.pinned (OpenSpec.ofChange fnTimesWrong)

/-- 'laws.FnExactBlocksOf': WHATEVER THE INPUT: true; the input reads as it did. -/
def fnExactBlocksOfSpec : ChangeSpec := { name := "fnExactBlocksOf", fn := fun _ => fun
  | [d1, d2, d3] => { results := [.lit (.bool true)], args := [d1, d2, d3] }
  | _ => none }
def fnExactBlocksOfRow : OpenClaim := { program := "ytfledgccnaknpaa", sum := "753f5b78de5b0bd127716b6ac7e8e401154d9d091e32f0fd9b2b1b4da58b0846", func := "loop.example/g01033/laws.FnExactBlocksOf", spec := "fnExactBlocksOf", unfollowed := true, recurses := true, plainKeys := false, apart := false }
def FnExactBlocksOfSaid : Prop := fnExactBlocksOfRow.holds Try.pinned (OpenSpec.ofChange fnExactBlocksOfSpec)

/-- ITS FALSE NEIGHBOUR: 'it returns false'. Refute it at one input. -/
def fnExactBlocksOfWrong : ChangeSpec := { name := "fnExactBlocksOf", fn := fun _ => fun
  | [d1, d2, d3] => { results := [.lit (.bool false)], args := [d1, d2, d3] }
  | _ => none }
def FnExactBlocksOfWrongFalsely : Prop := fnExactBlocksOfRow.holds Try.pinned (OpenSpec.ofChange fnExactBlocksOfWrong)

/-- 'laws.FnExactRepeatFirst': WHATEVER THE INPUT: true; the input reads as it did. -/
def fnExactRepeatFirstSpec : ChangeSpec := { name := "fnExactRepeatFirst", fn := fun _ => fun
  | [d1, d2, d3] => { results := [.lit (.bool true)], args := [d1, d2, d3] }
  | _ => none }
def fnExactRepeatFirstRow : OpenClaim := { program := "ytfledgccnaknpaa", sum := "753f5b78de5b0bd127716b6ac7e8e401154d9d091e32f0fd9b2b1b4da58b0846", func := "loop.example/g01033/laws.FnExactRepeatFirst", spec := "fnExactRepeatFirst", unfollowed := true, recurses := true, plainKeys := false, apart := false }
def FnExactRepeatFirstSaid : Prop := fnExactRepeatFirstRow.holds Try.pinned (OpenSpec.ofChange fnExactRepeatFirstSpec)

/-- ITS FALSE NEIGHBOUR: 'it returns false'. Refute it at one input. -/
def fnExactRepeatFirstWrong : ChangeSpec := { name := "fnExactRepeatFirst", fn := fun _ => fun
  | [d1, d2, d3] => { results := [.lit (.bool false)], args := [d1, d2, d3] }
  | _ => none }
def FnExactRepeatFirstWrongFalsely : Prop := fnExactRepeatFirstRow.holds Try.pinned (OpenSpec.ofChange fnExactRepeatFirstWrong)

/-- 'laws.FnCadences': WHATEVER THE INPUT: true; the input reads as it did. -/
def fnCadencesSpec : ChangeSpec := { name := "fnCadences", fn := fun _ => fun
  | [d1, d2] => { results := [.lit (.bool true)], args := [d1, d2] }
  | _ => none }
def fnCadencesRow : OpenClaim := { program := "ytfledgccnaknpaa", sum := "753f5b78de5b0bd127716b6ac7e8e401154d9d091e32f0fd9b2b1b4da58b0846", func := "loop.example/g01033/laws.FnCadences", spec := "fnCadences", unfollowed := true, recurses := true, plainKeys := false, apart := false }
def FnCadencesSaid : Prop := fnCadencesRow.holds Try.pinned (OpenSpec.ofChange fnCadencesSpec)

/-- ITS FALSE NEIGHBOUR: 'it returns false'. Refute it at one input. -/
def fnCadencesWrong : ChangeSpec := { name := "fnCadences", fn := fun _ => fun
  | [d1, d2] => { results := [.lit (.bool false)], args := [d1, d2] }
  | _ => none }
def FnCadencesWrongFalsely : Prop := fnCadencesRow.holds Try.pinned (OpenSpec.ofChange fnCadencesWrong)

/-- 'laws.FnExactSwapBlocks': WHATEVER THE INPUT: true; the input reads as it did. -/
def fnExactSwapBlocksSpec : ChangeSpec := { name := "fnExactSwapBlocks", fn := fun _ => fun
  | [d1, d2, d3, d4] => { results := [.lit (.bool true)], args := [d1, d2, d3, d4] }
  | _ => none }
def fnExactSwapBlocksRow : OpenClaim := { program := "ytfledgccnaknpaa", sum := "753f5b78de5b0bd127716b6ac7e8e401154d9d091e32f0fd9b2b1b4da58b0846", func := "loop.example/g01033/laws.FnExactSwapBlocks", spec := "fnExactSwapBlocks", unfollowed := true, recurses := true, plainKeys := false, apart := false }
def FnExactSwapBlocksSaid : Prop := fnExactSwapBlocksRow.holds Try.pinned (OpenSpec.ofChange fnExactSwapBlocksSpec)

/-- ITS FALSE NEIGHBOUR: 'it returns false'. Refute it at one input. -/
def fnExactSwapBlocksWrong : ChangeSpec := { name := "fnExactSwapBlocks", fn := fun _ => fun
  | [d1, d2, d3, d4] => { results := [.lit (.bool false)], args := [d1, d2, d3, d4] }
  | _ => none }
def FnExactSwapBlocksWrongFalsely : Prop := fnExactSwapBlocksRow.holds Try.pinned (OpenSpec.ofChange fnExactSwapBlocksWrong)

/-- 'laws.FnExactClosedForm': WHATEVER THE INPUT: true; the input reads as it did. -/
def fnExactClosedFormSpec : ChangeSpec := { name := "fnExactClosedForm", fn := fun _ => fun
  | [d1, d2, d3] => { results := [.lit (.bool true)], args := [d1, d2, d3] }
  | _ => none }
def fnExactClosedFormRow : OpenClaim := { program := "ytfledgccnaknpaa", sum := "753f5b78de5b0bd127716b6ac7e8e401154d9d091e32f0fd9b2b1b4da58b0846", func := "loop.example/g01033/laws.FnExactClosedForm", spec := "fnExactClosedForm", unfollowed := true, recurses := true, plainKeys := false, apart := false }
def FnExactClosedFormSaid : Prop := fnExactClosedFormRow.holds Try.pinned (OpenSpec.ofChange fnExactClosedFormSpec)

/-- ITS FALSE NEIGHBOUR: 'it returns false'. Refute it at one input. -/
def fnExactClosedFormWrong : ChangeSpec := { name := "fnExactClosedForm", fn := fun _ => fun
  | [d1, d2, d3] => { results := [.lit (.bool false)], args := [d1, d2, d3] }
  | _ => none }
def FnExactClosedFormWrongFalsely : Prop := fnExactClosedFormRow.holds Try.pinned (OpenSpec.ofChange fnExactClosedFormWrong)

/-- 'laws.FnExactPadMelody': WHATEVER THE INPUT: true; the input reads as it did. -/
def fnExactPadMelodySpec : ChangeSpec := { name := "fnExactPadMelody", fn := fun _ => fun
  | [d1, d2, d3, d4] => { results := [.lit (.bool true)], args := [d1, d2, d3, d4] }
  | _ => none }
def fnExactPadMelodyRow : OpenClaim := { program := "ytfledgccnaknpaa", sum := "753f5b78de5b0bd127716b6ac7e8e401154d9d091e32f0fd9b2b1b4da58b0846", func := "loop.example/g01033/laws.FnExactPadMelody", spec := "fnExactPadMelody", unfollowed := true, recurses := true, plainKeys := false, apart := false }
def FnExactPadMelodySaid : Prop := fnExactPadMelodyRow.holds Try.pinned (OpenSpec.ofChange fnExactPadMelodySpec)

/-- ITS FALSE NEIGHBOUR: 'it returns false'. Refute it at one input. -/
def fnExactPadMelodyWrong : ChangeSpec := { name := "fnExactPadMelody", fn := fun _ => fun
  | [d1, d2, d3, d4] => { results := [.lit (.bool false)], args := [d1, d2, d3, d4] }
  | _ => none }
def FnExactPadMelodyWrongFalsely : Prop := fnExactPadMelodyRow.holds Try.pinned (OpenSpec.ofChange fnExactPadMelodyWrong)

/-- 'laws.FnExactSplitNotes': WHATEVER THE INPUT: true; the input reads as it did. -/
def fnExactSplitNotesSpec : ChangeSpec := { name := "fnExactSplitNotes", fn := fun _ => fun
  | [d1, d2, d3] => { results := [.lit (.bool true)], args := [d1, d2, d3] }
  | _ => none }
def fnExactSplitNotesRow : OpenClaim := { program := "ytfledgccnaknpaa", sum := "753f5b78de5b0bd127716b6ac7e8e401154d9d091e32f0fd9b2b1b4da58b0846", func := "loop.example/g01033/laws.FnExactSplitNotes", spec := "fnExactSplitNotes", unfollowed := true, recurses := true, plainKeys := false, apart := false }
def FnExactSplitNotesSaid : Prop := fnExactSplitNotesRow.holds Try.pinned (OpenSpec.ofChange fnExactSplitNotesSpec)

/-- ITS FALSE NEIGHBOUR: 'it returns false'. Refute it at one input. -/
def fnExactSplitNotesWrong : ChangeSpec := { name := "fnExactSplitNotes", fn := fun _ => fun
  | [d1, d2, d3] => { results := [.lit (.bool false)], args := [d1, d2, d3] }
  | _ => none }
def FnExactSplitNotesWrongFalsely : Prop := fnExactSplitNotesRow.holds Try.pinned (OpenSpec.ofChange fnExactSplitNotesWrong)

/- THE SECOND FORM. 'bulk': how many values and letters a reading holds, each counted each time it is reached (what is shared counts as often as it is met; a slice's spare places count too). A statement '..UptoSaid' is the law's where the arguments, and the package variables that the reading takes, are together of bulk at most 1048576: NARROWER than '..Said'. Prove '..Said' where nothing that the law and all that it calls make is longer than what came in: it says more and counts as full. Else prove '..UptoSaid'. A law counts once. -/
mutual
def uptoBulk {H : Type} : DataW H → Nat
  | .lit (.string bytes) => bytes.length + 1
  | .lit _ => 1
  | .nil => 1
  | .ptr d => uptoBulk d + 1
  | .slice elems spare => uptoBulkAll elems + uptoBulkAll spare + 1
  | .agg parts => uptoBulkAll parts + 1
  | .iface _ d => uptoBulk d + 1
  | .map entries => uptoBulkEntries entries + 1
  | .held _ => 1
def uptoBulkAll {H : Type} : List (DataW H) → Nat
  | [] => 0
  | d :: r => uptoBulk d + uptoBulkAll r
def uptoBulkEntries {H : Type} : List (Lit × DataW H) → Nat
  | [] => 0
  | x :: r => uptoBulkEntry x + uptoBulkEntries r
def uptoBulkEntry {H : Type} : Lit × DataW H → Nat
  | (.string bytes, d) => bytes.length + uptoBulk d + 1
  | (_, d) => uptoBulk d + 1
 end
def uptoSmall : (H : Type) → List (DataW H) → Bool := fun _ ds => decide (uptoBulkAll ds ≤ 1048576)
def OpenSpec.upto (s : _root_.Go.ChangeSpec) : _root_.Go.OpenSpec := { _root_.Go.OpenSpec.ofChange s with cond := some uptoSmall }

/-- 'laws.FnExactReverseTheme', WHERE WHAT IT READS IS OF BULK AT MOST 1048576: true; the input reads as it did. -/
def fnExactReverseThemeUptoRow : OpenClaim := { program := "ytfledgccnaknpaa", sum := "753f5b78de5b0bd127716b6ac7e8e401154d9d091e32f0fd9b2b1b4da58b0846", func := "loop.example/g01033/laws.FnExactReverseTheme", spec := "fnExactReverseTheme", unfollowed := true, recurses := true, plainKeys := false, apart := false, narrowed := true }
def FnExactReverseThemeUptoSaid : Prop := fnExactReverseThemeUptoRow.holds Try.pinned (OpenSpec.upto fnExactReverseThemeSpec)

/-- 'laws.FnExactCyclesOf', WHERE WHAT IT READS IS OF BULK AT MOST 1048576: true; the input reads as it did. -/
def fnExactCyclesOfUptoRow : OpenClaim := { program := "ytfledgccnaknpaa", sum := "753f5b78de5b0bd127716b6ac7e8e401154d9d091e32f0fd9b2b1b4da58b0846", func := "loop.example/g01033/laws.FnExactCyclesOf", spec := "fnExactCyclesOf", unfollowed := true, recurses := true, plainKeys := false, apart := false, narrowed := true }
def FnExactCyclesOfUptoSaid : Prop := fnExactCyclesOfUptoRow.holds Try.pinned (OpenSpec.upto fnExactCyclesOfSpec)

/-- 'laws.FnComposed', WHERE WHAT IT READS IS OF BULK AT MOST 1048576: true; the input reads as it did. -/
def fnComposedUptoRow : OpenClaim := { program := "ytfledgccnaknpaa", sum := "753f5b78de5b0bd127716b6ac7e8e401154d9d091e32f0fd9b2b1b4da58b0846", func := "loop.example/g01033/laws.FnComposed", spec := "fnComposed", recurses := true, plainKeys := false, apart := false, narrowed := true }
def FnComposedUptoSaid : Prop := fnComposedUptoRow.holds Try.pinned (OpenSpec.upto fnComposedSpec)

/-- 'laws.FnExactNotesAtSam', WHERE WHAT IT READS IS OF BULK AT MOST 1048576: true; the input reads as it did. -/
def fnExactNotesAtSamUptoRow : OpenClaim := { program := "ytfledgccnaknpaa", sum := "753f5b78de5b0bd127716b6ac7e8e401154d9d091e32f0fd9b2b1b4da58b0846", func := "loop.example/g01033/laws.FnExactNotesAtSam", spec := "fnExactNotesAtSam", unfollowed := true, recurses := true, plainKeys := false, apart := false, narrowed := true }
def FnExactNotesAtSamUptoSaid : Prop := fnExactNotesAtSamUptoRow.holds Try.pinned (OpenSpec.upto fnExactNotesAtSamSpec)

/-- 'laws.FnTimes', WHERE WHAT IT READS IS OF BULK AT MOST 1048576: true; the input reads as it did. -/
def fnTimesUptoRow : OpenClaim := { program := "ytfledgccnaknpaa", sum := "753f5b78de5b0bd127716b6ac7e8e401154d9d091e32f0fd9b2b1b4da58b0846", func := "loop.example/g01033/laws.FnTimes", spec := "fnTimes", unfollowed := true, recurses := true, plainKeys := false, apart := false, narrowed := true }
def FnTimesUptoSaid : Prop := fnTimesUptoRow.holds Try.pinned (OpenSpec.upto fnTimesSpec)

/-- 'laws.FnExactBlocksOf', WHERE WHAT IT READS IS OF BULK AT MOST 1048576: true; the input reads as it did. -/
def fnExactBlocksOfUptoRow : OpenClaim := { program := "ytfledgccnaknpaa", sum := "753f5b78de5b0bd127716b6ac7e8e401154d9d091e32f0fd9b2b1b4da58b0846", func := "loop.example/g01033/laws.FnExactBlocksOf", spec := "fnExactBlocksOf", unfollowed := true, recurses := true, plainKeys := false, apart := false, narrowed := true }
def FnExactBlocksOfUptoSaid : Prop := fnExactBlocksOfUptoRow.holds Try.pinned (OpenSpec.upto fnExactBlocksOfSpec)

/-- 'laws.FnExactRepeatFirst', WHERE WHAT IT READS IS OF BULK AT MOST 1048576: true; the input reads as it did. -/
def fnExactRepeatFirstUptoRow : OpenClaim := { program := "ytfledgccnaknpaa", sum := "753f5b78de5b0bd127716b6ac7e8e401154d9d091e32f0fd9b2b1b4da58b0846", func := "loop.example/g01033/laws.FnExactRepeatFirst", spec := "fnExactRepeatFirst", unfollowed := true, recurses := true, plainKeys := false, apart := false, narrowed := true }
def FnExactRepeatFirstUptoSaid : Prop := fnExactRepeatFirstUptoRow.holds Try.pinned (OpenSpec.upto fnExactRepeatFirstSpec)

/-- 'laws.FnCadences', WHERE WHAT IT READS IS OF BULK AT MOST 1048576: true; the input reads as it did. -/
def fnCadencesUptoRow : OpenClaim := { program := "ytfledgccnaknpaa", sum := "753f5b78de5b0bd127716b6ac7e8e401154d9d091e32f0fd9b2b1b4da58b0846", func := "loop.example/g01033/laws.FnCadences", spec := "fnCadences", unfollowed := true, recurses := true, plainKeys := false, apart := false, narrowed := true }
def FnCadencesUptoSaid : Prop := fnCadencesUptoRow.holds Try.pinned (OpenSpec.upto fnCadencesSpec)

/-- 'laws.FnExactSwapBlocks', WHERE WHAT IT READS IS OF BULK AT MOST 1048576: true; the input reads as it did. -/
def fnExactSwapBlocksUptoRow : OpenClaim := { program := "ytfledgccnaknpaa", sum := "753f5b78de5b0bd127716b6ac7e8e401154d9d091e32f0fd9b2b1b4da58b0846", func := "loop.example/g01033/laws.FnExactSwapBlocks", spec := "fnExactSwapBlocks", unfollowed := true, recurses := true, plainKeys := false, apart := false, narrowed := true }
def FnExactSwapBlocksUptoSaid : Prop := fnExactSwapBlocksUptoRow.holds Try.pinned (OpenSpec.upto fnExactSwapBlocksSpec)

/-- 'laws.FnExactClosedForm', WHERE WHAT IT READS IS OF BULK AT MOST 1048576: true; the input reads as it did. -/
def fnExactClosedFormUptoRow : OpenClaim := { program := "ytfledgccnaknpaa", sum := "753f5b78de5b0bd127716b6ac7e8e401154d9d091e32f0fd9b2b1b4da58b0846", func := "loop.example/g01033/laws.FnExactClosedForm", spec := "fnExactClosedForm", unfollowed := true, recurses := true, plainKeys := false, apart := false, narrowed := true }
def FnExactClosedFormUptoSaid : Prop := fnExactClosedFormUptoRow.holds Try.pinned (OpenSpec.upto fnExactClosedFormSpec)

/-- 'laws.FnExactPadMelody', WHERE WHAT IT READS IS OF BULK AT MOST 1048576: true; the input reads as it did. -/
def fnExactPadMelodyUptoRow : OpenClaim := { program := "ytfledgccnaknpaa", sum := "753f5b78de5b0bd127716b6ac7e8e401154d9d091e32f0fd9b2b1b4da58b0846", func := "loop.example/g01033/laws.FnExactPadMelody", spec := "fnExactPadMelody", unfollowed := true, recurses := true, plainKeys := false, apart := false, narrowed := true }
def FnExactPadMelodyUptoSaid : Prop := fnExactPadMelodyUptoRow.holds Try.pinned (OpenSpec.upto fnExactPadMelodySpec)

/-- 'laws.FnExactSplitNotes', WHERE WHAT IT READS IS OF BULK AT MOST 1048576: true; the input reads as it did. -/
def fnExactSplitNotesUptoRow : OpenClaim := { program := "ytfledgccnaknpaa", sum := "753f5b78de5b0bd127716b6ac7e8e401154d9d091e32f0fd9b2b1b4da58b0846", func := "loop.example/g01033/laws.FnExactSplitNotes", spec := "fnExactSplitNotes", unfollowed := true, recurses := true, plainKeys := false, apart := false, narrowed := true }
def FnExactSplitNotesUptoSaid : Prop := fnExactSplitNotesUptoRow.holds Try.pinned (OpenSpec.upto fnExactSplitNotesSpec)

end Rows
end Go.Proofs.Ytfledgccnaknpaa
