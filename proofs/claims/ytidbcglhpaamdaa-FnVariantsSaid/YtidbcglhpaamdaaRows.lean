/-
  No cell of these rows narrows 'for every input' (looked for: loops, veiled, ifaces, maps, wideKeys, modest, calm, conditions, laid).
  DERIVED. THE GIVEN ROWS OF THIS SEAT. 3 by the template 'for every input the law returns true; each argument reads behind the call as it read before'; 0 by the template 'total and deterministic' (their statements: YtidbcglhpaamdaaTotals.lean).
  GIVEN WITH THE SEED: the statements are not yours to turn. If you find one false, say at which input.
  Laid BY PROGRAM, IN A SANDBOX (cutbox-rows.mjs): the forced cells as the released guide's own fill.sh prints them over the translation 960f619f7cdbf1e2… (all of the seat's roots in one cut). By AI agents, Wed Nov 11 2026. No macro, syntax, notation, axiom, sorry.
-/
import Derived.Test.YtidbcglhpaamdaaChecked
import GoSem.Claim
import GoSem.ClaimJoined
import GoSem.ClaimMapViews
import Derived.JoinedTies
import Derived.KernelRfl
namespace Go.Proofs.Ytidbcglhpaamdaa
/- THE CELL 'sum', in the pinned program and in every row, IS THE sha256 OF THE DUMP (.gsa) THAT YtidbcglhpaamdaaProg.lean LOADS. Nothing in Lean hashes anything: it is a label: what it is worth is what the hold of that sum in a sandbox is worth. -/
noncomputable def Try.pinned : Pinned := { name := "ytidbcglhpaamdaa", sum := "960f619f7cdbf1e235638043f661252106952b18f0124f9e36db9c1293df98ac", checked := Try.checked }
namespace Rows
def none {H : Type} : Left H := { results := [], args := [] }

/-- 'laws.FnVariants': WHATEVER THE INPUT: true; the input reads as it did. -/
def fnVariantsSpec : ChangeSpec := { name := "fnVariants", fn := fun _ => fun
  | [d] => { results := [.lit (.bool true)], args := [d] }
  | _ => none }
def fnVariantsRow : OpenClaim := { program := "ytidbcglhpaamdaa", sum := "960f619f7cdbf1e235638043f661252106952b18f0124f9e36db9c1293df98ac", func := "loop.example/g01033/laws.FnVariants", spec := "fnVariants", unfollowed := true, recurses := true, apart := false }
def FnVariantsSaid : Prop := fnVariantsRow.holds Try.pinned (OpenSpec.ofChange fnVariantsSpec)

/-- ITS FALSE NEIGHBOUR: 'it returns false'. Refute it at one input. -/
def fnVariantsWrong : ChangeSpec := { name := "fnVariants", fn := fun _ => fun
  | [d] => { results := [.lit (.bool false)], args := [d] }
  | _ => none }
def FnVariantsWrongFalsely : Prop := fnVariantsRow.holds Try.pinned (OpenSpec.ofChange fnVariantsWrong)

/-- 'laws.FnExactCountVariations': WHATEVER THE INPUT: true; the input reads as it did. -/
def fnExactCountVariationsSpec : ChangeSpec := { name := "fnExactCountVariations", fn := fun _ => fun
  | [d1, d2, d3, d4] => { results := [.lit (.bool true)], args := [d1, d2, d3, d4] }
  | _ => none }
def fnExactCountVariationsRow : OpenClaim := { program := "ytidbcglhpaamdaa", sum := "960f619f7cdbf1e235638043f661252106952b18f0124f9e36db9c1293df98ac", func := "loop.example/g01033/laws.FnExactCountVariations", spec := "fnExactCountVariations", unfollowed := true, recurses := true, apart := false }
def FnExactCountVariationsSaid : Prop := fnExactCountVariationsRow.holds Try.pinned (OpenSpec.ofChange fnExactCountVariationsSpec)

/-- ITS FALSE NEIGHBOUR: 'it returns false'. Refute it at one input. -/
def fnExactCountVariationsWrong : ChangeSpec := { name := "fnExactCountVariations", fn := fun _ => fun
  | [d1, d2, d3, d4] => { results := [.lit (.bool false)], args := [d1, d2, d3, d4] }
  | _ => none }
def FnExactCountVariationsWrongFalsely : Prop := fnExactCountVariationsRow.holds Try.pinned (OpenSpec.ofChange fnExactCountVariationsWrong)

/-- 'laws.FnExactNumberedVariation': WHATEVER THE INPUT: true; the input reads as it did. -/
def fnExactNumberedVariationSpec : ChangeSpec := { name := "fnExactNumberedVariation", fn := fun _ => fun
  | [d1, d2, d3, d4, d5] => { results := [.lit (.bool true)], args := [d1, d2, d3, d4, d5] }
  | _ => none }
def fnExactNumberedVariationRow : OpenClaim := { program := "ytidbcglhpaamdaa", sum := "960f619f7cdbf1e235638043f661252106952b18f0124f9e36db9c1293df98ac", func := "loop.example/g01033/laws.FnExactNumberedVariation", spec := "fnExactNumberedVariation", unfollowed := true, recurses := true, apart := false }
def FnExactNumberedVariationSaid : Prop := fnExactNumberedVariationRow.holds Try.pinned (OpenSpec.ofChange fnExactNumberedVariationSpec)

/-- ITS FALSE NEIGHBOUR: 'it returns false'. Refute it at one input. -/
def fnExactNumberedVariationWrong : ChangeSpec := { name := "fnExactNumberedVariation", fn := fun _ => fun
  | [d1, d2, d3, d4, d5] => { results := [.lit (.bool false)], args := [d1, d2, d3, d4, d5] }
  | _ => none }
def FnExactNumberedVariationWrongFalsely : Prop := fnExactNumberedVariationRow.holds Try.pinned (OpenSpec.ofChange fnExactNumberedVariationWrong)

/- THE SECOND FORM. 'bulk': how many values and letters a reading holds, each counted each time it is reached (what is shared counts as often as it is met; a slice's spare places count too). A statement '..UptoSaid' is the law's where the arguments, and the package variables that the reading takes, are together of bulk at most 1048576: NARROWER than '..Said'. Prove '..Said' where nothing that the law and all that it calls make is longer than what came in: it says more and counts as full. Else prove '..UptoSaid'. A law counts once. -/
mutual
def uptoBulk {H : Type} : DataW H → Nat
  | .lit (.string bytes) => bytes.length + 1
  | .lit _ => 1
  | .nil => 1
  | .ptr d => uptoBulk d + 1
  | .slice elems spare => uptoBulkAll elems + uptoBulkAll spare + 1
  | .agg parts => uptoBulkAll parts + 1
  | .iface _ d => uptoBulk d + 1
  | .map entries => uptoBulkEntries entries + 1
  | .held _ => 1
def uptoBulkAll {H : Type} : List (DataW H) → Nat
  | [] => 0
  | d :: r => uptoBulk d + uptoBulkAll r
def uptoBulkEntries {H : Type} : List (Lit × DataW H) → Nat
  | [] => 0
  | x :: r => uptoBulkEntry x + uptoBulkEntries r
def uptoBulkEntry {H : Type} : Lit × DataW H → Nat
  | (.string bytes, d) => bytes.length + uptoBulk d + 1
  | (_, d) => uptoBulk d + 1
 end
def uptoSmall : (H : Type) → List (DataW H) → Bool := fun _ ds => decide (uptoBulkAll ds ≤ 1048576)
def OpenSpec.upto (s : _root_.Go.ChangeSpec) : _root_.Go.OpenSpec := { _root_.Go.OpenSpec.ofChange s with cond := some uptoSmall }

/-- 'laws.FnVariants', WHERE WHAT IT READS IS OF BULK AT MOST 1048576: true; the input reads as it did. -/
def fnVariantsUptoRow : OpenClaim := { program := "ytidbcglhpaamdaa", sum := "960f619f7cdbf1e235638043f661252106952b18f0124f9e36db9c1293df98ac", func := "loop.example/g01033/laws.FnVariants", spec := "fnVariants", unfollowed := true, recurses := true, apart := false, narrowed := true }
def FnVariantsUptoSaid : Prop := fnVariantsUptoRow.holds Try.pinned (OpenSpec.upto fnVariantsSpec)

/-- 'laws.FnExactCountVariations', WHERE WHAT IT READS IS OF BULK AT MOST 1048576: true; the input reads as it did. -/
def fnExactCountVariationsUptoRow : OpenClaim := { program := "ytidbcglhpaamdaa", sum := "960f619f7cdbf1e235638043f661252106952b18f0124f9e36db9c1293df98ac", func := "loop.example/g01033/laws.FnExactCountVariations", spec := "fnExactCountVariations", unfollowed := true, recurses := true, apart := false, narrowed := true }
def FnExactCountVariationsUptoSaid : Prop := fnExactCountVariationsUptoRow.holds Try.pinned (OpenSpec.upto fnExactCountVariationsSpec)

/-- 'laws.FnExactNumberedVariation', WHERE WHAT IT READS IS OF BULK AT MOST 1048576: true; the input reads as it did. -/
def fnExactNumberedVariationUptoRow : OpenClaim := { program := "ytidbcglhpaamdaa", sum := "960f619f7cdbf1e235638043f661252106952b18f0124f9e36db9c1293df98ac", func := "loop.example/g01033/laws.FnExactNumberedVariation", spec := "fnExactNumberedVariation", unfollowed := true, recurses := true, apart := false, narrowed := true }
def FnExactNumberedVariationUptoSaid : Prop := fnExactNumberedVariationUptoRow.holds Try.pinned (OpenSpec.upto fnExactNumberedVariationSpec)

end Rows
end Go.Proofs.Ytidbcglhpaamdaa
