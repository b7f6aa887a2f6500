-- written by xprint.py, a program of this repo over the kit's print; not trusted: Lean checks it
import Derived.Test.YtfledgccnaknpaaPFnExactSplitNotesx8
namespace Go.Proofs.Ytfledgccnaknpaa.PFnExactSplitNotes
open Go.RowKit Go.Proofs.YtfledgccnaknpaaW.PrintWords Go.Proofs.YtfledgccnaknpaaW.PrintLast Go.Proofs.YtfledgccnaknpaaW.PrintMore Go.Proofs.YtfledgccnaknpaaXW
set_option linter.unusedVariables false
def G116 : S116 → Prop := fun x => (Lit.int .i64 x.f0).wf = true ∧ (Lit.int .i64 x.f1).wf = true
theorem opens116 : Opens Try.prog 116 k116 G116 := Opens.iso (Opens.struct2 Try.underlying116 (Opens.int Try.underlying2 (by kernel_rfl)) (Opens.int Try.underlying2 (by kernel_rfl)) (by kernel_rfl) rfl rfl) (fun p => (⟨p.1, p.2⟩ : S116)) (fun _ => rfl)
def G37 : S37 → Prop := fun x => x.f0.size ≤ maxLen ∧ (x.f1.length ≤ maxLen ∧ ∀ z ∈ x.f1, (Lit.int .i64 z).wf = true) ∧ (x.f2.length ≤ maxLen ∧ ∀ z ∈ x.f2, (Lit.int .i64 z).wf = true)
theorem opens37 : Opens Try.prog 37 k37 G37 := Opens.iso (Opens.struct3 Try.underlying37 (Opens.string Try.underlying9 (by kernel_rfl)) (Opens.slice (Opens.int Try.underlying2 (by kernel_rfl)) Try.underlying23 (by kernel_rfl)) (Opens.slice (Opens.int Try.underlying2 (by kernel_rfl)) Try.underlying23 (by kernel_rfl)) (by kernel_rfl) rfl rfl rfl) (fun p => (⟨p.1, p.2.1, p.2.2⟩ : S37)) (fun _ => rfl)
/-- The pure statement of laws_FnExactSplitNotes. -/
def laws_FnExactSplitNotes.Pure : Prop := ∀ (l0 : List (S116)) (x1 : S37) (a2 : Int), (l0.length ≤ maxLen ∧ ∀ z ∈ l0, G116 z) → G37 x1 → (Lit.int .i64 a2).wf = true → ∃ k, laws_FnExactSplitNotes.f k l0 x1.f0 x1.f1 x1.f2 a2 = some true
end Go.Proofs.Ytfledgccnaknpaa.PFnExactSplitNotes
