/-
  No cell of these rows narrows 'for every input' (looked for: loops, veiled, ifaces, maps, wideKeys, modest, calm, conditions, laid).
  DERIVED. THE GIVEN ROWS OF THIS SEAT. 12 by the template 'for every input the law returns true; each argument reads behind the call as it read before'; 0 by the template 'total and deterministic' (their statements: YtmipmpgpolbefaaTotals.lean).
  GIVEN WITH THE SEED: the statements are not yours to turn. If you find one false, say at which input.
  Laid BY PROGRAM, IN A SANDBOX (cutbox-rows.mjs): the forced cells as the released guide's own fill.sh prints them over the translation 722eeea4e1ff865b… (all of the seat's roots in one cut). By AI agents, Wed Nov 11 2026. No macro, syntax, notation, axiom, sorry.
-/
import Derived.Test.YtmipmpgpolbefaaChecked
import GoSem.Claim
import GoSem.ClaimJoined
import GoSem.ClaimMapViews
import Derived.JoinedTies
import Derived.KernelRfl
namespace Go.Proofs.Ytmipmpgpolbefaa
/- THE CELL 'sum', in the pinned program and in every row, IS THE sha256 OF THE DUMP (.gsa) THAT YtmipmpgpolbefaaProg.lean LOADS. Nothing in Lean hashes anything: it is a label: what it is worth is what the hold of that sum in a sandbox is worth. -/
noncomputable def Try.pinned : Pinned := { name := "ytmipmpgpolbefaa", sum := "722eeea4e1ff865bf977666d2f693aff98150ee729d114ae3c116487d7dda821", checked := Try.checked }
namespace Rows
def none {H : Type} : Left H := { results := [], args := [] }

/-- 'laws.FnExactValidLayer': WHATEVER THE INPUT: true; the input reads as it did. -/
def fnExactValidLayerSpec : ChangeSpec := { name := "fnExactValidLayer", fn := fun _ => fun
  | [d] => { results := [.lit (.bool true)], args := [d] }
  | _ => none }
def fnExactValidLayerRow : OpenClaim := { program := "ytmipmpgpolbefaa", sum := "722eeea4e1ff865bf977666d2f693aff98150ee729d114ae3c116487d7dda821", func := "loop.example/g01033/laws.FnExactValidLayer", spec := "fnExactValidLayer", apart := false }
def FnExactValidLayerSaid : Prop := fnExactValidLayerRow.holds Try.pinned (OpenSpec.ofChange fnExactValidLayerSpec)

/-- ITS FALSE NEIGHBOUR: 'it returns false'. Refute it at one input. -/
def fnExactValidLayerWrong : ChangeSpec := { name := "fnExactValidLayer", fn := fun _ => fun
  | [d] => { results := [.lit (.bool false)], args := [d] }
  | _ => none }
def FnExactValidLayerWrongFalsely : Prop := fnExactValidLayerRow.holds Try.pinned (OpenSpec.ofChange fnExactValidLayerWrong)

/-- 'laws.FnExactBeatTime': WHATEVER THE INPUT: true; the input reads as it did. -/
def fnExactBeatTimeSpec : ChangeSpec := { name := "fnExactBeatTime", fn := fun _ => fun
  | [d] => { results := [.lit (.bool true)], args := [d] }
  | _ => none }
def fnExactBeatTimeRow : OpenClaim := { program := "ytmipmpgpolbefaa", sum := "722eeea4e1ff865bf977666d2f693aff98150ee729d114ae3c116487d7dda821", func := "loop.example/g01033/laws.FnExactBeatTime", spec := "fnExactBeatTime", apart := false }
def FnExactBeatTimeSaid : Prop := fnExactBeatTimeRow.holds Try.pinned (OpenSpec.ofChange fnExactBeatTimeSpec)

/-- ITS FALSE NEIGHBOUR: 'it returns false'. Refute it at one input. -/
def fnExactBeatTimeWrong : ChangeSpec := { name := "fnExactBeatTime", fn := fun _ => fun
  | [d] => { results := [.lit (.bool false)], args := [d] }
  | _ => none }
def FnExactBeatTimeWrongFalsely : Prop := fnExactBeatTimeRow.holds Try.pinned (OpenSpec.ofChange fnExactBeatTimeWrong)

/-- 'laws.FnExactValidOnsets': WHATEVER THE INPUT: true; the input reads as it did. -/
def fnExactValidOnsetsSpec : ChangeSpec := { name := "fnExactValidOnsets", fn := fun _ => fun
  | [d] => { results := [.lit (.bool true)], args := [d] }
  | _ => none }
def fnExactValidOnsetsRow : OpenClaim := { program := "ytmipmpgpolbefaa", sum := "722eeea4e1ff865bf977666d2f693aff98150ee729d114ae3c116487d7dda821", func := "loop.example/g01033/laws.FnExactValidOnsets", spec := "fnExactValidOnsets", unfollowed := true, recurses := true, apart := false }
def FnExactValidOnsetsSaid : Prop := fnExactValidOnsetsRow.holds Try.pinned (OpenSpec.ofChange fnExactValidOnsetsSpec)

/-- ITS FALSE NEIGHBOUR: 'it returns false'. Refute it at one input. -/
def fnExactValidOnsetsWrong : ChangeSpec := { name := "fnExactValidOnsets", fn := fun _ => fun
  | [d] => { results := [.lit (.bool false)], args := [d] }
  | _ => none }
def FnExactValidOnsetsWrongFalsely : Prop := fnExactValidOnsetsRow.holds Try.pinned (OpenSpec.ofChange fnExactValidOnsetsWrong)

/-- 'laws.FnExactSteadyTempo': WHATEVER THE INPUT: true; the input reads as it did. -/
def fnExactSteadyTempoSpec : ChangeSpec := { name := "fnExactSteadyTempo", fn := fun _ => fun
  | [d1, d2] => { results := [.lit (.bool true)], args := [d1, d2] }
  | _ => none }
def fnExactSteadyTempoRow : OpenClaim := { program := "ytmipmpgpolbefaa", sum := "722eeea4e1ff865bf977666d2f693aff98150ee729d114ae3c116487d7dda821", func := "loop.example/g01033/laws.FnExactSteadyTempo", spec := "fnExactSteadyTempo", apart := false }
def FnExactSteadyTempoSaid : Prop := fnExactSteadyTempoRow.holds Try.pinned (OpenSpec.ofChange fnExactSteadyTempoSpec)

/-- ITS FALSE NEIGHBOUR: 'it returns false'. Refute it at one input. -/
def fnExactSteadyTempoWrong : ChangeSpec := { name := "fnExactSteadyTempo", fn := fun _ => fun
  | [d1, d2] => { results := [.lit (.bool false)], args := [d1, d2] }
  | _ => none }
def FnExactSteadyTempoWrongFalsely : Prop := fnExactSteadyTempoRow.holds Try.pinned (OpenSpec.ofChange fnExactSteadyTempoWrong)

/-- 'laws.FnExactValidTempo': WHATEVER THE INPUT: true; the input reads as it did. -/
def fnExactValidTempoSpec : ChangeSpec := { name := "fnExactValidTempo", fn := fun _ => fun
  | [d] => { results := [.lit (.bool true)], args := [d] }
  | _ => none }
def fnExactValidTempoRow : OpenClaim := { program := "ytmipmpgpolbefaa", sum := "722eeea4e1ff865bf977666d2f693aff98150ee729d114ae3c116487d7dda821", func := "loop.example/g01033/laws.FnExactValidTempo", spec := "fnExactValidTempo", apart := false }
def FnExactValidTempoSaid : Prop := fnExactValidTempoRow.holds Try.pinned (OpenSpec.ofChange fnExactValidTempoSpec)

/-- ITS FALSE NEIGHBOUR: 'it returns false'. Refute it at one input. -/
def fnExactValidTempoWrong : ChangeSpec := { name := "fnExactValidTempo", fn := fun _ => fun
  | [d] => { results := [.lit (.bool false)], args := [d] }
  | _ => none }
def FnExactValidTempoWrongFalsely : Prop := fnExactValidTempoRow.holds Try.pinned (OpenSpec.ofChange fnExactValidTempoWrong)

/-- 'laws.FnExactMeetCount': WHATEVER THE INPUT: true; the input reads as it did. -/
def fnExactMeetCountSpec : ChangeSpec := { name := "fnExactMeetCount", fn := fun _ => fun
  | [d1, d2] => { results := [.lit (.bool true)], args := [d1, d2] }
  | _ => none }
def fnExactMeetCountRow : OpenClaim := { program := "ytmipmpgpolbefaa", sum := "722eeea4e1ff865bf977666d2f693aff98150ee729d114ae3c116487d7dda821", func := "loop.example/g01033/laws.FnExactMeetCount", spec := "fnExactMeetCount", apart := false }
def FnExactMeetCountSaid : Prop := fnExactMeetCountRow.holds Try.pinned (OpenSpec.ofChange fnExactMeetCountSpec)

/-- ITS FALSE NEIGHBOUR: 'it returns false'. Refute it at one input. -/
def fnExactMeetCountWrong : ChangeSpec := { name := "fnExactMeetCount", fn := fun _ => fun
  | [d1, d2] => { results := [.lit (.bool false)], args := [d1, d2] }
  | _ => none }
def FnExactMeetCountWrongFalsely : Prop := fnExactMeetCountRow.holds Try.pinned (OpenSpec.ofChange fnExactMeetCountWrong)

/-- 'laws.FnExactAccentsOf': WHATEVER THE INPUT: true; the input reads as it did. -/
def fnExactAccentsOfSpec : ChangeSpec := { name := "fnExactAccentsOf", fn := fun _ => fun
  | [d] => { results := [.lit (.bool true)], args := [d] }
  | _ => none }
def fnExactAccentsOfRow : OpenClaim := { program := "ytmipmpgpolbefaa", sum := "722eeea4e1ff865bf977666d2f693aff98150ee729d114ae3c116487d7dda821", func := "loop.example/g01033/laws.FnExactAccentsOf", spec := "fnExactAccentsOf", unfollowed := true, recurses := true, apart := false }
def FnExactAccentsOfSaid : Prop := fnExactAccentsOfRow.holds Try.pinned (OpenSpec.ofChange fnExactAccentsOfSpec)

/-- ITS FALSE NEIGHBOUR: 'it returns false'. Refute it at one input. -/
def fnExactAccentsOfWrong : ChangeSpec := { name := "fnExactAccentsOf", fn := fun _ => fun
  | [d] => { results := [.lit (.bool false)], args := [d] }
  | _ => none }
def FnExactAccentsOfWrongFalsely : Prop := fnExactAccentsOfRow.holds Try.pinned (OpenSpec.ofChange fnExactAccentsOfWrong)

/-- 'laws.FnExactHitTicks': WHATEVER THE INPUT: true; the input reads as it did. -/
def fnExactHitTicksSpec : ChangeSpec := { name := "fnExactHitTicks", fn := fun _ => fun
  | [d1, d2] => { results := [.lit (.bool true)], args := [d1, d2] }
  | _ => none }
def fnExactHitTicksRow : OpenClaim := { program := "ytmipmpgpolbefaa", sum := "722eeea4e1ff865bf977666d2f693aff98150ee729d114ae3c116487d7dda821", func := "loop.example/g01033/laws.FnExactHitTicks", spec := "fnExactHitTicks", apart := false }
def FnExactHitTicksSaid : Prop := fnExactHitTicksRow.holds Try.pinned (OpenSpec.ofChange fnExactHitTicksSpec)

/-- ITS FALSE NEIGHBOUR: 'it returns false'. Refute it at one input. -/
def fnExactHitTicksWrong : ChangeSpec := { name := "fnExactHitTicks", fn := fun _ => fun
  | [d1, d2] => { results := [.lit (.bool false)], args := [d1, d2] }
  | _ => none }
def FnExactHitTicksWrongFalsely : Prop := fnExactHitTicksRow.holds Try.pinned (OpenSpec.ofChange fnExactHitTicksWrong)

/-- 'laws.FnExactConvertLengths': WHATEVER THE INPUT: true; the input reads as it did. -/
def fnExactConvertLengthsSpec : ChangeSpec := { name := "fnExactConvertLengths", fn := fun _ => fun
  | [d1, d2, d3] => { results := [.lit (.bool true)], args := [d1, d2, d3] }
  | _ => none }
def fnExactConvertLengthsRow : OpenClaim := { program := "ytmipmpgpolbefaa", sum := "722eeea4e1ff865bf977666d2f693aff98150ee729d114ae3c116487d7dda821", func := "loop.example/g01033/laws.FnExactConvertLengths", spec := "fnExactConvertLengths", unfollowed := true, recurses := true, apart := false }
def FnExactConvertLengthsSaid : Prop := fnExactConvertLengthsRow.holds Try.pinned (OpenSpec.ofChange fnExactConvertLengthsSpec)

/-- ITS FALSE NEIGHBOUR: 'it returns false'. Refute it at one input. -/
def fnExactConvertLengthsWrong : ChangeSpec := { name := "fnExactConvertLengths", fn := fun _ => fun
  | [d1, d2, d3] => { results := [.lit (.bool false)], args := [d1, d2, d3] }
  | _ => none }
def FnExactConvertLengthsWrongFalsely : Prop := fnExactConvertLengthsRow.holds Try.pinned (OpenSpec.ofChange fnExactConvertLengthsWrong)

/-- 'laws.FnExactGapsOf': WHATEVER THE INPUT: true; the input reads as it did. -/
def fnExactGapsOfSpec : ChangeSpec := { name := "fnExactGapsOf", fn := fun _ => fun
  | [d] => { results := [.lit (.bool true)], args := [d] }
  | _ => none }
def fnExactGapsOfRow : OpenClaim := { program := "ytmipmpgpolbefaa", sum := "722eeea4e1ff865bf977666d2f693aff98150ee729d114ae3c116487d7dda821", func := "loop.example/g01033/laws.FnExactGapsOf", spec := "fnExactGapsOf", unfollowed := true, recurses := true, apart := false }
def FnExactGapsOfSaid : Prop := fnExactGapsOfRow.holds Try.pinned (OpenSpec.ofChange fnExactGapsOfSpec)

/-- ITS FALSE NEIGHBOUR: 'it returns false'. Refute it at one input. -/
def fnExactGapsOfWrong : ChangeSpec := { name := "fnExactGapsOf", fn := fun _ => fun
  | [d] => { results := [.lit (.bool false)], args := [d] }
  | _ => none }
def FnExactGapsOfWrongFalsely : Prop := fnExactGapsOfRow.holds Try.pinned (OpenSpec.ofChange fnExactGapsOfWrong)

/-- 'laws.FnExactCountGroupings': WHATEVER THE INPUT: true; the input reads as it did. -/
def fnExactCountGroupingsSpec : ChangeSpec := { name := "fnExactCountGroupings", fn := fun _ => fun
  | [d1, d2] => { results := [.lit (.bool true)], args := [d1, d2] }
  | _ => none }
def fnExactCountGroupingsRow : OpenClaim := { program := "ytmipmpgpolbefaa", sum := "722eeea4e1ff865bf977666d2f693aff98150ee729d114ae3c116487d7dda821", func := "loop.example/g01033/laws.FnExactCountGroupings", spec := "fnExactCountGroupings", unfollowed := true, recurses := true, apart := false }
def FnExactCountGroupingsSaid : Prop := fnExactCountGroupingsRow.holds Try.pinned (OpenSpec.ofChange fnExactCountGroupingsSpec)

/-- ITS FALSE NEIGHBOUR: 'it returns false'. Refute it at one input. -/
def fnExactCountGroupingsWrong : ChangeSpec := { name := "fnExactCountGroupings", fn := fun _ => fun
  | [d1, d2] => { results := [.lit (.bool false)], args := [d1, d2] }
  | _ => none }
def FnExactCountGroupingsWrongFalsely : Prop := fnExactCountGroupingsRow.holds Try.pinned (OpenSpec.ofChange fnExactCountGroupingsWrong)

/-- 'laws.FnExactFitGrid': WHATEVER THE INPUT: true; the input reads as it did. -/
def fnExactFitGridSpec : ChangeSpec := { name := "fnExactFitGrid", fn := fun _ => fun
  | [d1, d2, d3] => { results := [.lit (.bool true)], args := [d1, d2, d3] }
  | _ => none }
def fnExactFitGridRow : OpenClaim := { program := "ytmipmpgpolbefaa", sum := "722eeea4e1ff865bf977666d2f693aff98150ee729d114ae3c116487d7dda821", func := "loop.example/g01033/laws.FnExactFitGrid", spec := "fnExactFitGrid", unfollowed := true, recurses := true, apart := false }
def FnExactFitGridSaid : Prop := fnExactFitGridRow.holds Try.pinned (OpenSpec.ofChange fnExactFitGridSpec)

/-- ITS FALSE NEIGHBOUR: 'it returns false'. Refute it at one input. -/
def fnExactFitGridWrong : ChangeSpec := { name := "fnExactFitGrid", fn := fun _ => fun
  | [d1, d2, d3] => { results := [.lit (.bool false)], args := [d1, d2, d3] }
  | _ => none }
def FnExactFitGridWrongFalsely : Prop := fnExactFitGridRow.holds Try.pinned (OpenSpec.ofChange fnExactFitGridWrong)

/- THE SECOND FORM. 'bulk': how many values and letters a reading holds, each counted each time it is reached (what is shared counts as often as it is met; a slice's spare places count too). A statement '..UptoSaid' is the law's where the arguments, and the package variables that the reading takes, are together of bulk at most 1048576: NARROWER than '..Said'. Prove '..Said' where nothing that the law and all that it calls make is longer than what came in: it says more and counts as full. Else prove '..UptoSaid'. A law counts once. -/
mutual
def uptoBulk {H : Type} : DataW H → Nat
  | .lit (.string bytes) => bytes.length + 1
  | .lit _ => 1
  | .nil => 1
  | .ptr d => uptoBulk d + 1
  | .slice elems spare => uptoBulkAll elems + uptoBulkAll spare + 1
  | .agg parts => uptoBulkAll parts + 1
  | .iface _ d => uptoBulk d + 1
  | .map entries => uptoBulkEntries entries + 1
  | .held _ => 1
def uptoBulkAll {H : Type} : List (DataW H) → Nat
  | [] => 0
  | d :: r => uptoBulk d + uptoBulkAll r
def uptoBulkEntries {H : Type} : List (Lit × DataW H) → Nat
  | [] => 0
  | x :: r => uptoBulkEntry x + uptoBulkEntries r
def uptoBulkEntry {H : Type} : Lit × DataW H → Nat
  | (.string bytes, d) => bytes.length + uptoBulk d + 1
  | (_, d) => uptoBulk d + 1
 end
def uptoSmall : (H : Type) → List (DataW H) → Bool := fun _ ds => decide (uptoBulkAll ds ≤ 1048576)
def OpenSpec.upto (s : _root_.Go.ChangeSpec) : _root_.Go.OpenSpec := { _root_.Go.OpenSpec.ofChange s with cond := some uptoSmall }

/-- 'laws.FnExactValidLayer', WHERE WHAT IT READS IS OF BULK AT MOST 1048576: true; the input reads as it did. -/
def fnExactValidLayerUptoRow : OpenClaim := { program := "ytmipmpgpolbefaa", sum := "722eeea4e1ff865bf977666d2f693aff98150ee729d114ae3c116487d7dda821", func := "loop.example/g01033/laws.FnExactValidLayer", spec := "fnExactValidLayer", apart := false, narrowed := true }
def FnExactValidLayerUptoSaid : Prop := fnExactValidLayerUptoRow.holds Try.pinned (OpenSpec.upto fnExactValidLayerSpec)

/-- 'laws.FnExactBeatTime', WHERE WHAT IT READS IS OF BULK AT MOST 1048576: true; the input reads as it did. -/
def fnExactBeatTimeUptoRow : OpenClaim := { program := "ytmipmpgpolbefaa", sum := "722eeea4e1ff865bf977666d2f693aff98150ee729d114ae3c116487d7dda821", func := "loop.example/g01033/laws.FnExactBeatTime", spec := "fnExactBeatTime", apart := false, narrowed := true }
def FnExactBeatTimeUptoSaid : Prop := fnExactBeatTimeUptoRow.holds Try.pinned (OpenSpec.upto fnExactBeatTimeSpec)

/-- 'laws.FnExactValidOnsets', WHERE WHAT IT READS IS OF BULK AT MOST 1048576: true; the input reads as it did. -/
def fnExactValidOnsetsUptoRow : OpenClaim := { program := "ytmipmpgpolbefaa", sum := "722eeea4e1ff865bf977666d2f693aff98150ee729d114ae3c116487d7dda821", func := "loop.example/g01033/laws.FnExactValidOnsets", spec := "fnExactValidOnsets", unfollowed := true, recurses := true, apart := false, narrowed := true }
def FnExactValidOnsetsUptoSaid : Prop := fnExactValidOnsetsUptoRow.holds Try.pinned (OpenSpec.upto fnExactValidOnsetsSpec)

/-- 'laws.FnExactSteadyTempo', WHERE WHAT IT READS IS OF BULK AT MOST 1048576: true; the input reads as it did. -/
def fnExactSteadyTempoUptoRow : OpenClaim := { program := "ytmipmpgpolbefaa", sum := "722eeea4e1ff865bf977666d2f693aff98150ee729d114ae3c116487d7dda821", func := "loop.example/g01033/laws.FnExactSteadyTempo", spec := "fnExactSteadyTempo", apart := false, narrowed := true }
def FnExactSteadyTempoUptoSaid : Prop := fnExactSteadyTempoUptoRow.holds Try.pinned (OpenSpec.upto fnExactSteadyTempoSpec)

/-- 'laws.FnExactValidTempo', WHERE WHAT IT READS IS OF BULK AT MOST 1048576: true; the input reads as it did. -/
def fnExactValidTempoUptoRow : OpenClaim := { program := "ytmipmpgpolbefaa", sum := "722eeea4e1ff865bf977666d2f693aff98150ee729d114ae3c116487d7dda821", func := "loop.example/g01033/laws.FnExactValidTempo", spec := "fnExactValidTempo", apart := false, narrowed := true }
def FnExactValidTempoUptoSaid : Prop := fnExactValidTempoUptoRow.holds Try.pinned (OpenSpec.upto fnExactValidTempoSpec)

/-- 'laws.FnExactMeetCount', WHERE WHAT IT READS IS OF BULK AT MOST 1048576: true; the input reads as it did. -/
def fnExactMeetCountUptoRow : OpenClaim := { program := "ytmipmpgpolbefaa", sum := "722eeea4e1ff865bf977666d2f693aff98150ee729d114ae3c116487d7dda821", func := "loop.example/g01033/laws.FnExactMeetCount", spec := "fnExactMeetCount", apart := false, narrowed := true }
def FnExactMeetCountUptoSaid : Prop := fnExactMeetCountUptoRow.holds Try.pinned (OpenSpec.upto fnExactMeetCountSpec)

/-- 'laws.FnExactAccentsOf', WHERE WHAT IT READS IS OF BULK AT MOST 1048576: true; the input reads as it did. -/
def fnExactAccentsOfUptoRow : OpenClaim := { program := "ytmipmpgpolbefaa", sum := "722eeea4e1ff865bf977666d2f693aff98150ee729d114ae3c116487d7dda821", func := "loop.example/g01033/laws.FnExactAccentsOf", spec := "fnExactAccentsOf", unfollowed := true, recurses := true, apart := false, narrowed := true }
def FnExactAccentsOfUptoSaid : Prop := fnExactAccentsOfUptoRow.holds Try.pinned (OpenSpec.upto fnExactAccentsOfSpec)

/-- 'laws.FnExactHitTicks', WHERE WHAT IT READS IS OF BULK AT MOST 1048576: true; the input reads as it did. -/
def fnExactHitTicksUptoRow : OpenClaim := { program := "ytmipmpgpolbefaa", sum := "722eeea4e1ff865bf977666d2f693aff98150ee729d114ae3c116487d7dda821", func := "loop.example/g01033/laws.FnExactHitTicks", spec := "fnExactHitTicks", apart := false, narrowed := true }
def FnExactHitTicksUptoSaid : Prop := fnExactHitTicksUptoRow.holds Try.pinned (OpenSpec.upto fnExactHitTicksSpec)

/-- 'laws.FnExactConvertLengths', WHERE WHAT IT READS IS OF BULK AT MOST 1048576: true; the input reads as it did. -/
def fnExactConvertLengthsUptoRow : OpenClaim := { program := "ytmipmpgpolbefaa", sum := "722eeea4e1ff865bf977666d2f693aff98150ee729d114ae3c116487d7dda821", func := "loop.example/g01033/laws.FnExactConvertLengths", spec := "fnExactConvertLengths", unfollowed := true, recurses := true, apart := false, narrowed := true }
def FnExactConvertLengthsUptoSaid : Prop := fnExactConvertLengthsUptoRow.holds Try.pinned (OpenSpec.upto fnExactConvertLengthsSpec)

/-- 'laws.FnExactGapsOf', WHERE WHAT IT READS IS OF BULK AT MOST 1048576: true; the input reads as it did. -/
def fnExactGapsOfUptoRow : OpenClaim := { program := "ytmipmpgpolbefaa", sum := "722eeea4e1ff865bf977666d2f693aff98150ee729d114ae3c116487d7dda821", func := "loop.example/g01033/laws.FnExactGapsOf", spec := "fnExactGapsOf", unfollowed := true, recurses := true, apart := false, narrowed := true }
def FnExactGapsOfUptoSaid : Prop := fnExactGapsOfUptoRow.holds Try.pinned (OpenSpec.upto fnExactGapsOfSpec)

/-- 'laws.FnExactCountGroupings', WHERE WHAT IT READS IS OF BULK AT MOST 1048576: true; the input reads as it did. -/
def fnExactCountGroupingsUptoRow : OpenClaim := { program := "ytmipmpgpolbefaa", sum := "722eeea4e1ff865bf977666d2f693aff98150ee729d114ae3c116487d7dda821", func := "loop.example/g01033/laws.FnExactCountGroupings", spec := "fnExactCountGroupings", unfollowed := true, recurses := true, apart := false, narrowed := true }
def FnExactCountGroupingsUptoSaid : Prop := fnExactCountGroupingsUptoRow.holds Try.pinned (OpenSpec.upto fnExactCountGroupingsSpec)

/-- 'laws.FnExactFitGrid', WHERE WHAT IT READS IS OF BULK AT MOST 1048576: true; the input reads as it did. -/
def fnExactFitGridUptoRow : OpenClaim := { program := "ytmipmpgpolbefaa", sum := "722eeea4e1ff865bf977666d2f693aff98150ee729d114ae3c116487d7dda821", func := "loop.example/g01033/laws.FnExactFitGrid", spec := "fnExactFitGrid", unfollowed := true, recurses := true, apart := false, narrowed := true }
def FnExactFitGridUptoSaid : Prop := fnExactFitGridUptoRow.holds Try.pinned (OpenSpec.upto fnExactFitGridSpec)

end Rows
end Go.Proofs.Ytmipmpgpolbefaa
