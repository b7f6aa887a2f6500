/-
  No cell of these rows narrows 'for every input' (looked for: loops, veiled, ifaces, maps, wideKeys, modest, calm, conditions, laid).
  DERIVED. THE GIVEN ROWS OF THIS SEAT. 12 by the template 'for every input the law returns true; each argument reads behind the call as it read before'; 0 by the template 'total and deterministic' (their statements: YtjdmfkmagcnakaaTotals.lean).
  GIVEN WITH THE SEED: the statements are not yours to turn. If you find one false, say at which input.
  Laid BY PROGRAM, IN A SANDBOX (cutbox-rows.mjs): the forced cells as the released guide's own fill.sh prints them over the translation 144a2213dce4714b… (all of the seat's roots in one cut). By AI agents, Wed Nov 11 2026. No macro, syntax, notation, axiom, sorry.
-/
import Derived.Test.YtjdmfkmagcnakaaChecked
import GoSem.Claim
import GoSem.ClaimJoined
import GoSem.ClaimMapViews
import Derived.JoinedTies
import Derived.KernelRfl
namespace Go.Proofs.Ytjdmfkmagcnakaa
/- THE CELL 'sum', in the pinned program and in every row, IS THE sha256 OF THE DUMP (.gsa) THAT YtjdmfkmagcnakaaProg.lean LOADS. Nothing in Lean hashes anything: it is a label: what it is worth is what the hold of that sum in a sandbox is worth. -/
noncomputable def Try.pinned : Pinned := { name := "ytjdmfkmagcnakaa", sum := "144a2213dce4714b0641cca861318c064debeadd363945442da4e3e313f5b263", checked := Try.checked }
namespace Rows
def none {H : Type} : Left H := { results := [], args := [] }

/-- 'laws.FnExactTimeOfBeat': WHATEVER THE INPUT: true; the input reads as it did. -/
def fnExactTimeOfBeatSpec : ChangeSpec := { name := "fnExactTimeOfBeat", fn := fun _ => fun
  | [d1, d2] => { results := [.lit (.bool true)], args := [d1, d2] }
  | _ => none }
def fnExactTimeOfBeatRow : OpenClaim := { program := "ytjdmfkmagcnakaa", sum := "144a2213dce4714b0641cca861318c064debeadd363945442da4e3e313f5b263", func := "loop.example/g01033/laws.FnExactTimeOfBeat", spec := "fnExactTimeOfBeat", plainKeys := false, apart := false }
def FnExactTimeOfBeatSaid : Prop := fnExactTimeOfBeatRow.holds Try.pinned (OpenSpec.ofChange fnExactTimeOfBeatSpec)

/-- ITS FALSE NEIGHBOUR: 'it returns false'. Refute it at one input. -/
def fnExactTimeOfBeatWrong : ChangeSpec := { name := "fnExactTimeOfBeat", fn := fun _ => fun
  | [d1, d2] => { results := [.lit (.bool false)], args := [d1, d2] }
  | _ => none }
def FnExactTimeOfBeatWrongFalsely : Prop := fnExactTimeOfBeatRow.holds Try.pinned (OpenSpec.ofChange fnExactTimeOfBeatWrong)

/-- 'laws.FnExactBeatAtTime': WHATEVER THE INPUT: true; the input reads as it did. -/
def fnExactBeatAtTimeSpec : ChangeSpec := { name := "fnExactBeatAtTime", fn := fun _ => fun
  | [d1, d2] => { results := [.lit (.bool true)], args := [d1, d2] }
  | _ => none }
def fnExactBeatAtTimeRow : OpenClaim := { program := "ytjdmfkmagcnakaa", sum := "144a2213dce4714b0641cca861318c064debeadd363945442da4e3e313f5b263", func := "loop.example/g01033/laws.FnExactBeatAtTime", spec := "fnExactBeatAtTime", plainKeys := false, apart := false }
def FnExactBeatAtTimeSaid : Prop := fnExactBeatAtTimeRow.holds Try.pinned (OpenSpec.ofChange fnExactBeatAtTimeSpec)

/-- ITS FALSE NEIGHBOUR: 'it returns false'. Refute it at one input. -/
def fnExactBeatAtTimeWrong : ChangeSpec := { name := "fnExactBeatAtTime", fn := fun _ => fun
  | [d1, d2] => { results := [.lit (.bool false)], args := [d1, d2] }
  | _ => none }
def FnExactBeatAtTimeWrongFalsely : Prop := fnExactBeatAtTimeRow.holds Try.pinned (OpenSpec.ofChange fnExactBeatAtTimeWrong)

/-- 'laws.FnExactShapeOf': WHATEVER THE INPUT: true; the input reads as it did. -/
def fnExactShapeOfSpec : ChangeSpec := { name := "fnExactShapeOf", fn := fun _ => fun
  | [d] => { results := [.lit (.bool true)], args := [d] }
  | _ => none }
def fnExactShapeOfRow : OpenClaim := { program := "ytjdmfkmagcnakaa", sum := "144a2213dce4714b0641cca861318c064debeadd363945442da4e3e313f5b263", func := "loop.example/g01033/laws.FnExactShapeOf", spec := "fnExactShapeOf", unfollowed := true, recurses := true, plainKeys := false, apart := false }
def FnExactShapeOfSaid : Prop := fnExactShapeOfRow.holds Try.pinned (OpenSpec.ofChange fnExactShapeOfSpec)

/-- ITS FALSE NEIGHBOUR: 'it returns false'. Refute it at one input. -/
def fnExactShapeOfWrong : ChangeSpec := { name := "fnExactShapeOf", fn := fun _ => fun
  | [d] => { results := [.lit (.bool false)], args := [d] }
  | _ => none }
def FnExactShapeOfWrongFalsely : Prop := fnExactShapeOfRow.holds Try.pinned (OpenSpec.ofChange fnExactShapeOfWrong)

/-- 'laws.FnExactAlignOnsets': WHATEVER THE INPUT: true; the input reads as it did. -/
def fnExactAlignOnsetsSpec : ChangeSpec := { name := "fnExactAlignOnsets", fn := fun _ => fun
  | [d1, d2, d3] => { results := [.lit (.bool true)], args := [d1, d2, d3] }
  | _ => none }
def fnExactAlignOnsetsRow : OpenClaim := { program := "ytjdmfkmagcnakaa", sum := "144a2213dce4714b0641cca861318c064debeadd363945442da4e3e313f5b263", func := "loop.example/g01033/laws.FnExactAlignOnsets", spec := "fnExactAlignOnsets", unfollowed := true, recurses := true, plainKeys := false, apart := false }
def FnExactAlignOnsetsSaid : Prop := fnExactAlignOnsetsRow.holds Try.pinned (OpenSpec.ofChange fnExactAlignOnsetsSpec)

/-- ITS FALSE NEIGHBOUR: 'it returns false'. Refute it at one input. -/
def fnExactAlignOnsetsWrong : ChangeSpec := { name := "fnExactAlignOnsets", fn := fun _ => fun
  | [d1, d2, d3] => { results := [.lit (.bool false)], args := [d1, d2, d3] }
  | _ => none }
def FnExactAlignOnsetsWrongFalsely : Prop := fnExactAlignOnsetsRow.holds Try.pinned (OpenSpec.ofChange fnExactAlignOnsetsWrong)

/-- 'laws.FnExactValidTheme': WHATEVER THE INPUT: true; the input reads as it did. -/
def fnExactValidThemeSpec : ChangeSpec := { name := "fnExactValidTheme", fn := fun _ => fun
  | [d1, d2] => { results := [.lit (.bool true)], args := [d1, d2] }
  | _ => none }
def fnExactValidThemeRow : OpenClaim := { program := "ytjdmfkmagcnakaa", sum := "144a2213dce4714b0641cca861318c064debeadd363945442da4e3e313f5b263", func := "loop.example/g01033/laws.FnExactValidTheme", spec := "fnExactValidTheme", unfollowed := true, recurses := true, plainKeys := false, apart := false }
def FnExactValidThemeSaid : Prop := fnExactValidThemeRow.holds Try.pinned (OpenSpec.ofChange fnExactValidThemeSpec)

/-- ITS FALSE NEIGHBOUR: 'it returns false'. Refute it at one input. -/
def fnExactValidThemeWrong : ChangeSpec := { name := "fnExactValidTheme", fn := fun _ => fun
  | [d1, d2] => { results := [.lit (.bool false)], args := [d1, d2] }
  | _ => none }
def FnExactValidThemeWrongFalsely : Prop := fnExactValidThemeRow.holds Try.pinned (OpenSpec.ofChange fnExactValidThemeWrong)

/-- 'laws.FnExactMeanTempo': WHATEVER THE INPUT: true; the input reads as it did. -/
def fnExactMeanTempoSpec : ChangeSpec := { name := "fnExactMeanTempo", fn := fun _ => fun
  | [d1, d2, d3] => { results := [.lit (.bool true)], args := [d1, d2, d3] }
  | _ => none }
def fnExactMeanTempoRow : OpenClaim := { program := "ytjdmfkmagcnakaa", sum := "144a2213dce4714b0641cca861318c064debeadd363945442da4e3e313f5b263", func := "loop.example/g01033/laws.FnExactMeanTempo", spec := "fnExactMeanTempo", plainKeys := false, apart := false }
def FnExactMeanTempoSaid : Prop := fnExactMeanTempoRow.holds Try.pinned (OpenSpec.ofChange fnExactMeanTempoSpec)

/-- ITS FALSE NEIGHBOUR: 'it returns false'. Refute it at one input. -/
def fnExactMeanTempoWrong : ChangeSpec := { name := "fnExactMeanTempo", fn := fun _ => fun
  | [d1, d2, d3] => { results := [.lit (.bool false)], args := [d1, d2, d3] }
  | _ => none }
def FnExactMeanTempoWrongFalsely : Prop := fnExactMeanTempoRow.holds Try.pinned (OpenSpec.ofChange fnExactMeanTempoWrong)

/-- 'laws.FnExactBestShift': WHATEVER THE INPUT: true; the input reads as it did. -/
def fnExactBestShiftSpec : ChangeSpec := { name := "fnExactBestShift", fn := fun _ => fun
  | [d1, d2, d3, d4, d5] => { results := [.lit (.bool true)], args := [d1, d2, d3, d4, d5] }
  | _ => none }
def fnExactBestShiftRow : OpenClaim := { program := "ytjdmfkmagcnakaa", sum := "144a2213dce4714b0641cca861318c064debeadd363945442da4e3e313f5b263", func := "loop.example/g01033/laws.FnExactBestShift", spec := "fnExactBestShift", unfollowed := true, recurses := true, plainKeys := false, apart := false }
def FnExactBestShiftSaid : Prop := fnExactBestShiftRow.holds Try.pinned (OpenSpec.ofChange fnExactBestShiftSpec)

/-- ITS FALSE NEIGHBOUR: 'it returns false'. Refute it at one input. -/
def fnExactBestShiftWrong : ChangeSpec := { name := "fnExactBestShift", fn := fun _ => fun
  | [d1, d2, d3, d4, d5] => { results := [.lit (.bool false)], args := [d1, d2, d3, d4, d5] }
  | _ => none }
def FnExactBestShiftWrongFalsely : Prop := fnExactBestShiftRow.holds Try.pinned (OpenSpec.ofChange fnExactBestShiftWrong)

/-- 'laws.FnExactCountComposed': WHATEVER THE INPUT: true; the input reads as it did. -/
def fnExactCountComposedSpec : ChangeSpec := { name := "fnExactCountComposed", fn := fun _ => fun
  | [d1, d2, d3, d4] => { results := [.lit (.bool true)], args := [d1, d2, d3, d4] }
  | _ => none }
def fnExactCountComposedRow : OpenClaim := { program := "ytjdmfkmagcnakaa", sum := "144a2213dce4714b0641cca861318c064debeadd363945442da4e3e313f5b263", func := "loop.example/g01033/laws.FnExactCountComposed", spec := "fnExactCountComposed", recurses := true, plainKeys := false, apart := false }
def FnExactCountComposedSaid : Prop := fnExactCountComposedRow.holds Try.pinned (OpenSpec.ofChange fnExactCountComposedSpec)

/-- ITS FALSE NEIGHBOUR: 'it returns false'. Refute it at one input. -/
def fnExactCountComposedWrong : ChangeSpec := { name := "fnExactCountComposed", fn := fun _ => fun
  | [d1, d2, d3, d4] => { results := [.lit (.bool false)], args := [d1, d2, d3, d4] }
  | _ => none }
def FnExactCountComposedWrongFalsely : Prop := fnExactCountComposedRow.holds Try.pinned (OpenSpec.ofChange fnExactCountComposedWrong)

/-- 'laws.FnExactPeriodOf': WHATEVER THE INPUT: true; the input reads as it did. -/
def fnExactPeriodOfSpec : ChangeSpec := { name := "fnExactPeriodOf", fn := fun _ => fun
  | [d1, d2] => { results := [.lit (.bool true)], args := [d1, d2] }
  | _ => none }
def fnExactPeriodOfRow : OpenClaim := { program := "ytjdmfkmagcnakaa", sum := "144a2213dce4714b0641cca861318c064debeadd363945442da4e3e313f5b263", func := "loop.example/g01033/laws.FnExactPeriodOf", spec := "fnExactPeriodOf", unfollowed := true, recurses := true, plainKeys := false, apart := false }
def FnExactPeriodOfSaid : Prop := fnExactPeriodOfRow.holds Try.pinned (OpenSpec.ofChange fnExactPeriodOfSpec)

/-- ITS FALSE NEIGHBOUR: 'it returns false'. Refute it at one input. -/
def fnExactPeriodOfWrong : ChangeSpec := { name := "fnExactPeriodOf", fn := fun _ => fun
  | [d1, d2] => { results := [.lit (.bool false)], args := [d1, d2] }
  | _ => none }
def FnExactPeriodOfWrongFalsely : Prop := fnExactPeriodOfRow.holds Try.pinned (OpenSpec.ofChange fnExactPeriodOfWrong)

/-- 'laws.FnExactBeatTimes': WHATEVER THE INPUT: true; the input reads as it did. -/
def fnExactBeatTimesSpec : ChangeSpec := { name := "fnExactBeatTimes", fn := fun _ => fun
  | [d1, d2, d3] => { results := [.lit (.bool true)], args := [d1, d2, d3] }
  | _ => none }
def fnExactBeatTimesRow : OpenClaim := { program := "ytjdmfkmagcnakaa", sum := "144a2213dce4714b0641cca861318c064debeadd363945442da4e3e313f5b263", func := "loop.example/g01033/laws.FnExactBeatTimes", spec := "fnExactBeatTimes", plainKeys := false, apart := false }
def FnExactBeatTimesSaid : Prop := fnExactBeatTimesRow.holds Try.pinned (OpenSpec.ofChange fnExactBeatTimesSpec)

/-- ITS FALSE NEIGHBOUR: 'it returns false'. Refute it at one input. -/
def fnExactBeatTimesWrong : ChangeSpec := { name := "fnExactBeatTimes", fn := fun _ => fun
  | [d1, d2, d3] => { results := [.lit (.bool false)], args := [d1, d2, d3] }
  | _ => none }
def FnExactBeatTimesWrongFalsely : Prop := fnExactBeatTimesRow.holds Try.pinned (OpenSpec.ofChange fnExactBeatTimesWrong)

/-- 'laws.FnExactIsVariation': WHATEVER THE INPUT: true; the input reads as it did. -/
def fnExactIsVariationSpec : ChangeSpec := { name := "fnExactIsVariation", fn := fun _ => fun
  | [d1, d2, d3] => { results := [.lit (.bool true)], args := [d1, d2, d3] }
  | _ => none }
def fnExactIsVariationRow : OpenClaim := { program := "ytjdmfkmagcnakaa", sum := "144a2213dce4714b0641cca861318c064debeadd363945442da4e3e313f5b263", func := "loop.example/g01033/laws.FnExactIsVariation", spec := "fnExactIsVariation", unfollowed := true, recurses := true, plainKeys := false, apart := false }
def FnExactIsVariationSaid : Prop := fnExactIsVariationRow.holds Try.pinned (OpenSpec.ofChange fnExactIsVariationSpec)

/-- ITS FALSE NEIGHBOUR: 'it returns false'. Refute it at one input. -/
def fnExactIsVariationWrong : ChangeSpec := { name := "fnExactIsVariation", fn := fun _ => fun
  | [d1, d2, d3] => { results := [.lit (.bool false)], args := [d1, d2, d3] }
  | _ => none }
def FnExactIsVariationWrongFalsely : Prop := fnExactIsVariationRow.holds Try.pinned (OpenSpec.ofChange fnExactIsVariationWrong)

/-- 'laws.FnGroups': WHATEVER THE INPUT: true; the input reads as it did. -/
def fnGroupsSpec : ChangeSpec := { name := "fnGroups", fn := fun _ => fun
  | [d1, d2] => { results := [.lit (.bool true)], args := [d1, d2] }
  | _ => none }
def fnGroupsRow : OpenClaim := { program := "ytjdmfkmagcnakaa", sum := "144a2213dce4714b0641cca861318c064debeadd363945442da4e3e313f5b263", func := "loop.example/g01033/laws.FnGroups", spec := "fnGroups", unfollowed := true, recurses := true, plainKeys := false, apart := false }
def FnGroupsSaid : Prop := fnGroupsRow.holds Try.pinned (OpenSpec.ofChange fnGroupsSpec)

/-- ITS FALSE NEIGHBOUR: 'it returns false'. Refute it at one input. -/
def fnGroupsWrong : ChangeSpec := { name := "fnGroups", fn := fun _ => fun
  | [d1, d2] => { results := [.lit (.bool false)], args := [d1, d2] }
  | _ => none }
def FnGroupsWrongFalsely : Prop := fnGroupsRow.holds Try.pinned (OpenSpec.ofChange fnGroupsWrong)

/- THE SECOND FORM. 'bulk': how many values and letters a reading holds, each counted each time it is reached (what is shared counts as often as it is met; a slice's spare places count too). A statement '..UptoSaid' is the law's where the arguments, and the package variables that the reading takes, are together of bulk at most 1048576: NARROWER than '..Said'. Prove '..Said' where nothing that the law and all that it calls make is longer than what came in: it says more and counts as full. Else prove '..UptoSaid'. A law counts once. -/
mutual
def uptoBulk {H : Type} : DataW H → Nat
  | .lit (.string bytes) => bytes.length + 1
  | .lit _ => 1
  | .nil => 1
  | .ptr d => uptoBulk d + 1
  | .slice elems spare => uptoBulkAll elems + uptoBulkAll spare + 1
  | .agg parts => uptoBulkAll parts + 1
  | .iface _ d => uptoBulk d + 1
  | .map entries => uptoBulkEntries entries + 1
  | .held _ => 1
def uptoBulkAll {H : Type} : List (DataW H) → Nat
  | [] => 0
  | d :: r => uptoBulk d + uptoBulkAll r
def uptoBulkEntries {H : Type} : List (Lit × DataW H) → Nat
  | [] => 0
  | x :: r => uptoBulkEntry x + uptoBulkEntries r
def uptoBulkEntry {H : Type} : Lit × DataW H → Nat
  | (.string bytes, d) => bytes.length + uptoBulk d + 1
  | (_, d) => uptoBulk d + 1
 end
def uptoSmall : (H : Type) → List (DataW H) → Bool := fun _ ds => decide (uptoBulkAll ds ≤ 1048576)
def OpenSpec.upto (s : _root_.Go.ChangeSpec) : _root_.Go.OpenSpec := { _root_.Go.OpenSpec.ofChange s with cond := some uptoSmall }

/-- 'laws.FnExactTimeOfBeat', WHERE WHAT IT READS IS OF BULK AT MOST 1048576: true; the input reads as it did. -/
def fnExactTimeOfBeatUptoRow : OpenClaim := { program := "ytjdmfkmagcnakaa", sum := "144a2213dce4714b0641cca861318c064debeadd363945442da4e3e313f5b263", func := "loop.example/g01033/laws.FnExactTimeOfBeat", spec := "fnExactTimeOfBeat", plainKeys := false, apart := false, narrowed := true }
def FnExactTimeOfBeatUptoSaid : Prop := fnExactTimeOfBeatUptoRow.holds Try.pinned (OpenSpec.upto fnExactTimeOfBeatSpec)

/-- 'laws.FnExactBeatAtTime', WHERE WHAT IT READS IS OF BULK AT MOST 1048576: true; the input reads as it did. -/
def fnExactBeatAtTimeUptoRow : OpenClaim := { program := "ytjdmfkmagcnakaa", sum := "144a2213dce4714b0641cca861318c064debeadd363945442da4e3e313f5b263", func := "loop.example/g01033/laws.FnExactBeatAtTime", spec := "fnExactBeatAtTime", plainKeys := false, apart := false, narrowed := true }
def FnExactBeatAtTimeUptoSaid : Prop := fnExactBeatAtTimeUptoRow.holds Try.pinned (OpenSpec.upto fnExactBeatAtTimeSpec)

/-- 'laws.FnExactShapeOf', WHERE WHAT IT READS IS OF BULK AT MOST 1048576: true; the input reads as it did. -/
def fnExactShapeOfUptoRow : OpenClaim := { program := "ytjdmfkmagcnakaa", sum := "144a2213dce4714b0641cca861318c064debeadd363945442da4e3e313f5b263", func := "loop.example/g01033/laws.FnExactShapeOf", spec := "fnExactShapeOf", unfollowed := true, recurses := true, plainKeys := false, apart := false, narrowed := true }
def FnExactShapeOfUptoSaid : Prop := fnExactShapeOfUptoRow.holds Try.pinned (OpenSpec.upto fnExactShapeOfSpec)

/-- 'laws.FnExactAlignOnsets', WHERE WHAT IT READS IS OF BULK AT MOST 1048576: true; the input reads as it did. -/
def fnExactAlignOnsetsUptoRow : OpenClaim := { program := "ytjdmfkmagcnakaa", sum := "144a2213dce4714b0641cca861318c064debeadd363945442da4e3e313f5b263", func := "loop.example/g01033/laws.FnExactAlignOnsets", spec := "fnExactAlignOnsets", unfollowed := true, recurses := true, plainKeys := false, apart := false, narrowed := true }
def FnExactAlignOnsetsUptoSaid : Prop := fnExactAlignOnsetsUptoRow.holds Try.pinned (OpenSpec.upto fnExactAlignOnsetsSpec)

/-- 'laws.FnExactValidTheme', WHERE WHAT IT READS IS OF BULK AT MOST 1048576: true; the input reads as it did. -/
def fnExactValidThemeUptoRow : OpenClaim := { program := "ytjdmfkmagcnakaa", sum := "144a2213dce4714b0641cca861318c064debeadd363945442da4e3e313f5b263", func := "loop.example/g01033/laws.FnExactValidTheme", spec := "fnExactValidTheme", unfollowed := true, recurses := true, plainKeys := false, apart := false, narrowed := true }
def FnExactValidThemeUptoSaid : Prop := fnExactValidThemeUptoRow.holds Try.pinned (OpenSpec.upto fnExactValidThemeSpec)

/-- 'laws.FnExactMeanTempo', WHERE WHAT IT READS IS OF BULK AT MOST 1048576: true; the input reads as it did. -/
def fnExactMeanTempoUptoRow : OpenClaim := { program := "ytjdmfkmagcnakaa", sum := "144a2213dce4714b0641cca861318c064debeadd363945442da4e3e313f5b263", func := "loop.example/g01033/laws.FnExactMeanTempo", spec := "fnExactMeanTempo", plainKeys := false, apart := false, narrowed := true }
def FnExactMeanTempoUptoSaid : Prop := fnExactMeanTempoUptoRow.holds Try.pinned (OpenSpec.upto fnExactMeanTempoSpec)

/-- 'laws.FnExactBestShift', WHERE WHAT IT READS IS OF BULK AT MOST 1048576: true; the input reads as it did. -/
def fnExactBestShiftUptoRow : OpenClaim := { program := "ytjdmfkmagcnakaa", sum := "144a2213dce4714b0641cca861318c064debeadd363945442da4e3e313f5b263", func := "loop.example/g01033/laws.FnExactBestShift", spec := "fnExactBestShift", unfollowed := true, recurses := true, plainKeys := false, apart := false, narrowed := true }
def FnExactBestShiftUptoSaid : Prop := fnExactBestShiftUptoRow.holds Try.pinned (OpenSpec.upto fnExactBestShiftSpec)

/-- 'laws.FnExactCountComposed', WHERE WHAT IT READS IS OF BULK AT MOST 1048576: true; the input reads as it did. -/
def fnExactCountComposedUptoRow : OpenClaim := { program := "ytjdmfkmagcnakaa", sum := "144a2213dce4714b0641cca861318c064debeadd363945442da4e3e313f5b263", func := "loop.example/g01033/laws.FnExactCountComposed", spec := "fnExactCountComposed", recurses := true, plainKeys := false, apart := false, narrowed := true }
def FnExactCountComposedUptoSaid : Prop := fnExactCountComposedUptoRow.holds Try.pinned (OpenSpec.upto fnExactCountComposedSpec)

/-- 'laws.FnExactPeriodOf', WHERE WHAT IT READS IS OF BULK AT MOST 1048576: true; the input reads as it did. -/
def fnExactPeriodOfUptoRow : OpenClaim := { program := "ytjdmfkmagcnakaa", sum := "144a2213dce4714b0641cca861318c064debeadd363945442da4e3e313f5b263", func := "loop.example/g01033/laws.FnExactPeriodOf", spec := "fnExactPeriodOf", unfollowed := true, recurses := true, plainKeys := false, apart := false, narrowed := true }
def FnExactPeriodOfUptoSaid : Prop := fnExactPeriodOfUptoRow.holds Try.pinned (OpenSpec.upto fnExactPeriodOfSpec)

/-- 'laws.FnExactBeatTimes', WHERE WHAT IT READS IS OF BULK AT MOST 1048576: true; the input reads as it did. -/
def fnExactBeatTimesUptoRow : OpenClaim := { program := "ytjdmfkmagcnakaa", sum := "144a2213dce4714b0641cca861318c064debeadd363945442da4e3e313f5b263", func := "loop.example/g01033/laws.FnExactBeatTimes", spec := "fnExactBeatTimes", plainKeys := false, apart := false, narrowed := true }
def FnExactBeatTimesUptoSaid : Prop := fnExactBeatTimesUptoRow.holds Try.pinned (OpenSpec.upto fnExactBeatTimesSpec)

/-- 'laws.FnExactIsVariation', WHERE WHAT IT READS IS OF BULK AT MOST 1048576: true; the input reads as it did. -/
def fnExactIsVariationUptoRow : OpenClaim := { program := "ytjdmfkmagcnakaa", sum := "144a2213dce4714b0641cca861318c064debeadd363945442da4e3e313f5b263", func := "loop.example/g01033/laws.FnExactIsVariation", spec := "fnExactIsVariation", unfollowed := true, recurses := true, plainKeys := false, apart := false, narrowed := true }
def FnExactIsVariationUptoSaid : Prop := fnExactIsVariationUptoRow.holds Try.pinned (OpenSpec.upto fnExactIsVariationSpec)

/-- 'laws.FnGroups', WHERE WHAT IT READS IS OF BULK AT MOST 1048576: true; the input reads as it did. -/
def fnGroupsUptoRow : OpenClaim := { program := "ytjdmfkmagcnakaa", sum := "144a2213dce4714b0641cca861318c064debeadd363945442da4e3e313f5b263", func := "loop.example/g01033/laws.FnGroups", spec := "fnGroups", unfollowed := true, recurses := true, plainKeys := false, apart := false, narrowed := true }
def FnGroupsUptoSaid : Prop := fnGroupsUptoRow.holds Try.pinned (OpenSpec.upto fnGroupsSpec)

end Rows
end Go.Proofs.Ytjdmfkmagcnakaa
