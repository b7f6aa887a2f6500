/- The pure statement of the law FnExactValidLayer: what the Go functions compute, told by plain Lean functions, is what the law asks, for all arguments. No condition beyond the printed ones. -/
import Derived.Test.YtmipmpgpolbefaaPFnExactValidLayerxo
import Derived.Test.YtmipmpgpolbefaaXW
namespace Go.Proofs.Ytmipmpgpolbefaa.Pure
open Go.RowKit Go.Proofs.Ytmipmpgpolbefaa.PFnExactValidLayer Go.Proofs.YtmipmpgpolbefaaW.PrintWords Go.Proofs.YtmipmpgpolbefaaW.PrintLast Go.Proofs.YtmipmpgpolbefaaW.PrintMore Go.Proofs.YtmipmpgpolbefaaXW
set_option linter.unusedVariables false
set_option linter.unusedSimpArgs false
theorem in_eq (a b c : Int) : spec_l00In.f a b c = some (decide (b ≤ a ∧ a ≤ c)) := by
  unfold spec_l00In.f; split <;> simp_all; omega
theorem within_eq (a b c : Int) : impl_within.f a b c = some (decide (b ≤ a ∧ a ≤ c)) := by
  unfold impl_within.f; split <;> simp_all; omega
def layB (h b : Int) : Bool := decide (1 ≤ h ∧ h ≤ 32) && decide (1 ≤ b ∧ b ≤ 32)
theorem one_eq (h b : Int) : spec_l21One.f h b = some (layB h b, h, b) := by
  unfold spec_l21One.f layB
  simp only [in_eq, Option.bind_some]
  by_cases c : 1 ≤ h ∧ h ≤ 32
  · rw [decide_eq_true c]; rfl
  · rw [decide_eq_false c]; rfl
theorem layB_iff {h b : Int} : layB h b = true ↔ (1 ≤ h ∧ h ≤ 32) ∧ 1 ≤ b ∧ b ≤ 32 := by
  unfold layB; simp
theorem iLay (h b : Int) : impl_ValidLayer.f h b = some (layB h b) := by
  unfold impl_ValidLayer.f layB
  simp only [within_eq, Option.bind_some]
  by_cases c : 1 ≤ h ∧ h ≤ 32
  · rw [decide_eq_true c]; rfl
  · rw [decide_eq_false c]; rfl
theorem FnExactValidLayer : laws_FnExactValidLayer.Pure := by
  intro x _
  unfold laws_FnExactValidLayer.f laws_toLayer.f spec_ValidLayer.f
  simp only [Option.bind_some, one_eq, iLay]
  simp

end Go.Proofs.Ytmipmpgpolbefaa.Pure
