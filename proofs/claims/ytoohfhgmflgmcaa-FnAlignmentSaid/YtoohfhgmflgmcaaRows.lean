/-
  No cell of these rows narrows 'for every input' (looked for: loops, veiled, ifaces, maps, wideKeys, modest, calm, conditions, laid).
  DERIVED. THE GIVEN ROWS OF THIS SEAT. 3 by the template 'for every input the law returns true; each argument reads behind the call as it read before'; 0 by the template 'total and deterministic' (their statements: YtoohfhgmflgmcaaTotals.lean).
  GIVEN WITH THE SEED: the statements are not yours to turn. If you find one false, say at which input.
  Laid BY PROGRAM, IN A SANDBOX (cutbox-rows.mjs): the forced cells as the released guide's own fill.sh prints them over the translation bfc7177d41d25f48… (all of the seat's roots in one cut). By AI agents, Wed Nov 11 2026. No macro, syntax, notation, axiom, sorry.
-/
import Derived.Test.YtoohfhgmflgmcaaChecked
import GoSem.Claim
import GoSem.ClaimJoined
import GoSem.ClaimMapViews
import Derived.JoinedTies
import Derived.KernelRfl
namespace Go.Proofs.Ytoohfhgmflgmcaa
/- THE CELL 'sum', in the pinned program and in every row, IS THE sha256 OF THE DUMP (.gsa) THAT YtoohfhgmflgmcaaProg.lean LOADS. Nothing in Lean hashes anything: it is a label: what it is worth is what the hold of that sum in a sandbox is worth. -/
noncomputable def Try.pinned : Pinned := { name := "ytoohfhgmflgmcaa", sum := "bfc7177d41d25f489e93614d07557722e10a82c2efc8a0975610b99c1b59b7ba", checked := Try.checked }
namespace Rows
def none {H : Type} : Left H := { results := [], args := [] }

/-- 'laws.FnAlignment': WHATEVER THE INPUT: true; the input reads as it did. -/
def fnAlignmentSpec : ChangeSpec := { name := "fnAlignment", fn := fun _ => fun
  | [d1, d2] => { results := [.lit (.bool true)], args := [d1, d2] }
  | _ => none }
def fnAlignmentRow : OpenClaim := { program := "ytoohfhgmflgmcaa", sum := "bfc7177d41d25f489e93614d07557722e10a82c2efc8a0975610b99c1b59b7ba", func := "loop.example/g01033/laws.FnAlignment", spec := "fnAlignment", unfollowed := true, recurses := true, apart := false }
def FnAlignmentSaid : Prop := fnAlignmentRow.holds Try.pinned (OpenSpec.ofChange fnAlignmentSpec)

/-- ITS FALSE NEIGHBOUR: 'it returns false'. Refute it at one input. -/
def fnAlignmentWrong : ChangeSpec := { name := "fnAlignment", fn := fun _ => fun
  | [d1, d2] => { results := [.lit (.bool false)], args := [d1, d2] }
  | _ => none }
def FnAlignmentWrongFalsely : Prop := fnAlignmentRow.holds Try.pinned (OpenSpec.ofChange fnAlignmentWrong)

/-- 'laws.FnExactAlignOnsets': WHATEVER THE INPUT: true; the input reads as it did. -/
def fnExactAlignOnsetsSpec : ChangeSpec := { name := "fnExactAlignOnsets", fn := fun _ => fun
  | [d1, d2, d3] => { results := [.lit (.bool true)], args := [d1, d2, d3] }
  | _ => none }
def fnExactAlignOnsetsRow : OpenClaim := { program := "ytoohfhgmflgmcaa", sum := "bfc7177d41d25f489e93614d07557722e10a82c2efc8a0975610b99c1b59b7ba", func := "loop.example/g01033/laws.FnExactAlignOnsets", spec := "fnExactAlignOnsets", unfollowed := true, recurses := true, apart := false }
def FnExactAlignOnsetsSaid : Prop := fnExactAlignOnsetsRow.holds Try.pinned (OpenSpec.ofChange fnExactAlignOnsetsSpec)

/-- ITS FALSE NEIGHBOUR: 'it returns false'. Refute it at one input. -/
def fnExactAlignOnsetsWrong : ChangeSpec := { name := "fnExactAlignOnsets", fn := fun _ => fun
  | [d1, d2, d3] => { results := [.lit (.bool false)], args := [d1, d2, d3] }
  | _ => none }
def FnExactAlignOnsetsWrongFalsely : Prop := fnExactAlignOnsetsRow.holds Try.pinned (OpenSpec.ofChange fnExactAlignOnsetsWrong)

/-- 'laws.FnExactBestShift': WHATEVER THE INPUT: true; the input reads as it did. -/
def fnExactBestShiftSpec : ChangeSpec := { name := "fnExactBestShift", fn := fun _ => fun
  | [d1, d2, d3, d4, d5] => { results := [.lit (.bool true)], args := [d1, d2, d3, d4, d5] }
  | _ => none }
def fnExactBestShiftRow : OpenClaim := { program := "ytoohfhgmflgmcaa", sum := "bfc7177d41d25f489e93614d07557722e10a82c2efc8a0975610b99c1b59b7ba", func := "loop.example/g01033/laws.FnExactBestShift", spec := "fnExactBestShift", unfollowed := true, recurses := true, apart := false }
def FnExactBestShiftSaid : Prop := fnExactBestShiftRow.holds Try.pinned (OpenSpec.ofChange fnExactBestShiftSpec)

/-- ITS FALSE NEIGHBOUR: 'it returns false'. Refute it at one input. -/
def fnExactBestShiftWrong : ChangeSpec := { name := "fnExactBestShift", fn := fun _ => fun
  | [d1, d2, d3, d4, d5] => { results := [.lit (.bool false)], args := [d1, d2, d3, d4, d5] }
  | _ => none }
def FnExactBestShiftWrongFalsely : Prop := fnExactBestShiftRow.holds Try.pinned (OpenSpec.ofChange fnExactBestShiftWrong)

/- THE SECOND FORM. 'bulk': how many values and letters a reading holds, each counted each time it is reached (what is shared counts as often as it is met; a slice's spare places count too). A statement '..UptoSaid' is the law's where the arguments, and the package variables that the reading takes, are together of bulk at most 1048576: NARROWER than '..Said'. Prove '..Said' where nothing that the law and all that it calls make is longer than what came in: it says more and counts as full. Else prove '..UptoSaid'. A law counts once. -/
mutual
def uptoBulk {H : Type} : DataW H → Nat
  | .lit (.string bytes) => bytes.length + 1
  | .lit _ => 1
  | .nil => 1
  | .ptr d => uptoBulk d + 1
  | .slice elems spare => uptoBulkAll elems + uptoBulkAll spare + 1
  | .agg parts => uptoBulkAll parts + 1
  | .iface _ d => uptoBulk d + 1
  | .map entries => uptoBulkEntries entries + 1
  | .held _ => 1
def uptoBulkAll {H : Type} : List (DataW H) → Nat
  | [] => 0
  | d :: r => uptoBulk d + uptoBulkAll r
def uptoBulkEntries {H : Type} : List (Lit × DataW H) → Nat
  | [] => 0
  | x :: r => uptoBulkEntry x + uptoBulkEntries r
def uptoBulkEntry {H : Type} : Lit × DataW H → Nat
  | (.string bytes, d) => bytes.length + uptoBulk d + 1
  | (_, d) => uptoBulk d + 1
 end
def uptoSmall : (H : Type) → List (DataW H) → Bool := fun _ ds => decide (uptoBulkAll ds ≤ 1048576)
def OpenSpec.upto (s : _root_.Go.ChangeSpec) : _root_.Go.OpenSpec := { _root_.Go.OpenSpec.ofChange s with cond := some uptoSmall }

/-- 'laws.FnAlignment', WHERE WHAT IT READS IS OF BULK AT MOST 1048576: true; the input reads as it did. -/
def fnAlignmentUptoRow : OpenClaim := { program := "ytoohfhgmflgmcaa", sum := "bfc7177d41d25f489e93614d07557722e10a82c2efc8a0975610b99c1b59b7ba", func := "loop.example/g01033/laws.FnAlignment", spec := "fnAlignment", unfollowed := true, recurses := true, apart := false, narrowed := true }
def FnAlignmentUptoSaid : Prop := fnAlignmentUptoRow.holds Try.pinned (OpenSpec.upto fnAlignmentSpec)

/-- 'laws.FnExactAlignOnsets', WHERE WHAT IT READS IS OF BULK AT MOST 1048576: true; the input reads as it did. -/
def fnExactAlignOnsetsUptoRow : OpenClaim := { program := "ytoohfhgmflgmcaa", sum := "bfc7177d41d25f489e93614d07557722e10a82c2efc8a0975610b99c1b59b7ba", func := "loop.example/g01033/laws.FnExactAlignOnsets", spec := "fnExactAlignOnsets", unfollowed := true, recurses := true, apart := false, narrowed := true }
def FnExactAlignOnsetsUptoSaid : Prop := fnExactAlignOnsetsUptoRow.holds Try.pinned (OpenSpec.upto fnExactAlignOnsetsSpec)

/-- 'laws.FnExactBestShift', WHERE WHAT IT READS IS OF BULK AT MOST 1048576: true; the input reads as it did. -/
def fnExactBestShiftUptoRow : OpenClaim := { program := "ytoohfhgmflgmcaa", sum := "bfc7177d41d25f489e93614d07557722e10a82c2efc8a0975610b99c1b59b7ba", func := "loop.example/g01033/laws.FnExactBestShift", spec := "fnExactBestShift", unfollowed := true, recurses := true, apart := false, narrowed := true }
def FnExactBestShiftUptoSaid : Prop := fnExactBestShiftUptoRow.holds Try.pinned (OpenSpec.upto fnExactBestShiftSpec)

end Rows
end Go.Proofs.Ytoohfhgmflgmcaa
