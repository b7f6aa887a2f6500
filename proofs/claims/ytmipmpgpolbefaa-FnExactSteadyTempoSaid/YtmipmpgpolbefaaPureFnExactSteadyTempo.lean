/- The pure statement of the law FnExactSteadyTempo: what the Go functions compute, told by plain Lean functions, is what the law asks, for all arguments. No condition beyond the printed ones. -/
import Derived.Test.YtmipmpgpolbefaaPFnExactSteadyTempox2
import Derived.Test.YtmipmpgpolbefaaXW
namespace Go.Proofs.Ytmipmpgpolbefaa.Pure
open Go.RowKit Go.Proofs.Ytmipmpgpolbefaa.PFnExactSteadyTempo Go.Proofs.YtmipmpgpolbefaaW.PrintWords Go.Proofs.YtmipmpgpolbefaaW.PrintLast Go.Proofs.YtmipmpgpolbefaaW.PrintMore Go.Proofs.YtmipmpgpolbefaaXW
set_option linter.unusedVariables false
set_option linter.unusedSimpArgs false
theorem in_eq (a b c : Int) : spec_l00In.f a b c = some (decide (b ≤ a ∧ a ≤ c)) := by
  unfold spec_l00In.f; split <;> simp_all; omega
theorem within_eq (a b c : Int) : impl_within.f a b c = some (decide (b ≤ a ∧ a ≤ c)) := by
  unfold impl_within.f; split <;> simp_all; omega
theorem mx_abs (a : Int) (h : -9223372036854775807 ≤ a ∧ a ≤ 9223372036854775807) : mx a (wrap64 (-a)) = (a.natAbs : Int) := by
  rw [wid (by omega)]; unfold mx; split <;> omega

theorem abs_i (a : Int) (h : -9223372036854775807 ≤ a ∧ a ≤ 9223372036854775807) : impl_abs.f a = some (a.natAbs : Int) := by
  unfold impl_abs.f; rw [mx_abs a h]
theorem abs_s (a : Int) (h : -9223372036854775807 ≤ a ∧ a ≤ 9223372036854775807) : spec_l04Abs.f a = some (a.natAbs : Int) := by
  unfold spec_l04Abs.f spec_l00Max.f
  rw [wid (by omega)]
  split <;> simp <;> omega
/-- the nearest quotient, for b > 0 -/
def dr (a b : Int) : Int := if a < 0 then -((b - 2 * a) / (2 * b)) else (2 * a + b) / (2 * b)

/-- quotients by cases of the remainder -/
theorem dr_pos (a b q r : Int) (ha : 0 ≤ a) (hb : 0 < b) (hq : a = b * q + r) (h0 : 0 ≤ r) (h1 : r < b) : dr a b = if r ≥ b - r then q + 1 else q := by
  unfold dr
  rw [if_neg (by omega)]
  split
  · rename_i h
    have e : 2 * a + b = (2 * r - b) + (2 * b) * (q + 1) := by rw [hq]; rw [Int.mul_add, Int.mul_add, Int.mul_assoc]; omega
    rw [e, Int.add_mul_ediv_left _ _ (by omega), Int.ediv_eq_zero_of_lt (by omega) (by omega)]; omega
  · rename_i h
    have e : 2 * a + b = (2 * r + b) + (2 * b) * q := by rw [hq]; rw [Int.mul_add, Int.mul_assoc]; omega
    rw [e, Int.add_mul_ediv_left _ _ (by omega), Int.ediv_eq_zero_of_lt (by omega) (by omega)]; omega
theorem dr_neg (a b : Int) (ha : a < 0) : dr a b = - dr (-a) b := by
  unfold dr
  rw [if_pos ha, if_neg (by omega), show b - 2 * a = 2 * -a + b by omega]

theorem dr_range (t : Int) (h : 10 ≤ t ∧ t ≤ 600) : 0 ≤ dr 60000 t ∧ dr 60000 t ≤ 6001 := by
  unfold dr
  rw [if_neg (by omega)]
  have h0 : 0 ≤ (2 * 60000 + t) / (2 * t) := Int.ediv_nonneg (by omega) (by omega)
  have h1 : (2 * 60000 + t) / (2 * t) < 6002 := Int.ediv_lt_of_lt_mul (by omega) (by omega)
  omega
theorem specDiv (a b : Int) (ha : -2000000000000000000 ≤ a ∧ a ≤ 2000000000000000000) (hb : 0 < b ∧ b ≤ 2000000000000000000) :
    spec_l01Div.f a b = some (dr a b) := by
  unfold spec_l01Div.f dr
  have e2b : wrap64 (2 * b) = 2 * b := wid (by omega)
  have e2a : wrap64 (2 * a) = 2 * a := wid (by omega)
  have e1 : wrap64 (b - 2 * a) = b - 2 * a := wid (by omega)
  have e3 : wrap64 (2 * a + b) = 2 * a + b := wid (by omega)
  rw [if_neg (by omega : ¬ b < 0), e2b, e2a, e1, e3]
  by_cases h : a < 0
  · rw [if_pos h, if_pos h, if_neg (by omega : ¬ 2 * b = 0)]
    rw [Int.tdiv_eq_ediv_of_nonneg (by omega)]
    have h1 : 0 ≤ (b - 2 * a) / (2 * b) := Int.ediv_nonneg (by omega) (by omega)
    have h2 : (b - 2 * a) / (2 * b) ≤ b - 2 * a := Int.ediv_le_self _ (by omega)
    rw [wid (x := (b - 2 * a) / (2 * b)) (by omega), wid (by omega)]
  · rw [if_neg h, if_neg h, if_neg (by omega : ¬ 2 * b = 0)]
    rw [Int.tdiv_eq_ediv_of_nonneg (by omega)]
    have h1 : 0 ≤ (2 * a + b) / (2 * b) := Int.ediv_nonneg (by omega) (by omega)
    have h2 : (2 * a + b) / (2 * b) ≤ 2 * a + b := Int.ediv_le_self _ (by omega)
    rw [wid (x := (2 * a + b) / (2 * b)) (by omega)]
theorem implDiv (a b : Int) (ha : -2000000000000000000 ≤ a ∧ a ≤ 2000000000000000000) (hb : 0 < b ∧ b ≤ 2000000000000000000) :
    impl_divRound.f a b = some (dr a b) := by
  unfold impl_divRound.f impl_abs.f
  have hb1 : (b.natAbs : Int) = b := by omega
  rw [if_neg (by omega : ¬ b = 0)]
  simp only [Option.bind_some]
  rw [mx_abs b (by omega), hb1]
  have hm0 : 0 ≤ (-a) % b := Int.emod_nonneg _ (by omega)
  have hm1 : (-a) % b < b := Int.emod_lt_of_pos _ (by omega)
  have hn0 : 0 ≤ a % b := Int.emod_nonneg _ (by omega)
  have hn1 : a % b < b := Int.emod_lt_of_pos _ (by omega)
  by_cases h : a < 0
  · have hd : Int.tdiv a b = - ((-a) / b) := by
      rw [show a = - (-a) by omega, Int.neg_tdiv, Int.tdiv_eq_ediv_of_nonneg (by omega)]; simp
    have hm : Int.tmod a b = - ((-a) % b) := by
      rw [show a = - (-a) by omega, Int.neg_tmod, Int.tmod_eq_emod_of_nonneg (by omega)]; simp
    have hq0 : 0 ≤ (-a) / b := Int.ediv_nonneg (by omega) (by omega)
    have hq1 : (-a) / b ≤ -a := Int.ediv_le_self _ (by omega)
    rw [hm, hd, mx_abs _ (by omega), dr_neg a b h, dr_pos (-a) b ((-a) / b) ((-a) % b) (by omega) hb.1 (by have := Int.mul_ediv_add_emod (-a) b; omega) hm0 hm1]
    rw [show ((-((-a) % b)).natAbs : Int) = (-a) % b by omega, wid (x := b - (-a) % b) (by omega), wid (x := -((-a) / b)) (by omega)]
    have e1 : decide (a < 0) = true := by simpa using h
    have e2 : decide (b < 0) = false := by simp; omega
    rw [e1, e2]
    split
    · rw [if_neg (by decide), wid (by omega)]; congr 1; omega
    · rfl
  · have hd : Int.tdiv a b = a / b := Int.tdiv_eq_ediv_of_nonneg (by omega)
    have hm : Int.tmod a b = a % b := Int.tmod_eq_emod_of_nonneg (by omega)
    have hq0 : 0 ≤ a / b := Int.ediv_nonneg (by omega) (by omega)
    have hq1 : a / b ≤ a := Int.ediv_le_self _ (by omega)
    rw [hm, hd, mx_abs _ (by omega), dr_pos a b (a / b) (a % b) (by omega) hb.1 (by have := Int.mul_ediv_add_emod a b; omega) hn0 hn1]
    rw [show ((a % b).natAbs : Int) = a % b by omega, wid (x := b - a % b) (by omega), wid (x := a / b) (by omega)]
    have e1 : decide (a < 0) = false := by simpa using h
    have e2 : decide (b < 0) = false := by simp; omega
    rw [e1, e2]
    split
    · rw [if_pos (by decide), wid (by omega)]
    · rfl
theorem takes_eq (t : Int) (h : 10 ≤ t ∧ t ≤ 600) : spec_l22Takes.f t = some (dr 60000 t) := by
  unfold spec_l22Takes.f; rw [specDiv _ _ (by omega) (by omega)]; rfl
theorem beatTime_eq (t : Int) (h : 10 ≤ t ∧ t ≤ 600) : impl_beatTime.f t = some (dr 60000 t) := by
  unfold impl_beatTime.f; rw [implDiv _ _ (by omega) (by omega)]; rfl
theorem steady_loop (a b : Int) (ha : 1 ≤ a ∧ a ≤ 2000) (hb : 1 ≤ b ∧ b ≤ 1000000000000) (d : Nat) : ∀ best t : Int, 10 ≤ best → best ≤ 600 → 10 ≤ t → t + d = 601 →
    ∃ r, Ev (fun k => spec_SteadyTempo.l0 k a b best t) r ∧ Ev (fun k => impl_SteadyTempo.l0 k a b best t) r := by
  induction d with
  | zero =>
    intro best t h1 h2 h3 h4
    refine ⟨(best, 0), Ev.shift ?_, Ev.shift ?_⟩
    · simp only [spec_SteadyTempo.l0]; exact Ev.neg (by omega) (Ev.now _)
    · simp only [impl_SteadyTempo.l0]; exact Ev.neg (by omega) (Ev.now _)
  | succ d ih =>
    intro best t h1 h2 h3 h4
    have w1 : wrap64 (t + 1) = t + 1 := wid (by omega)
    have val : ∀ t : Int, 10 ≤ t ∧ t ≤ 600 → wrap64 (wrap64 (a * dr 60000 t) - b) = a * dr 60000 t - b ∧ -1000000000001 ≤ a * dr 60000 t - b ∧ a * dr 60000 t - b ≤ 100000000 := by
      intro t ht
      have h := dr_range t ht
      have h5 : 0 ≤ a * dr 60000 t := Int.mul_nonneg (by omega) (by omega)
      have h6 : a * dr 60000 t ≤ 2000 * 6001 := Int.mul_le_mul (by omega) (by omega) (by omega) (by omega)
      rw [wid (x := a * dr 60000 t) (by omega), wid (by omega)]
      omega
    have v1 := val t (by omega)
    have v2 := val best (by omega)
    have step : ∀ c : Prop, [Decidable c] → ∃ r, Ev (fun k => if c then spec_SteadyTempo.l0 k a b t (t + 1) else spec_SteadyTempo.l0 k a b best (t + 1)) r ∧ Ev (fun k => if c then impl_SteadyTempo.l0 k a b t (t + 1) else impl_SteadyTempo.l0 k a b best (t + 1)) r := by
      intro c _
      by_cases h : c
      · obtain ⟨r, x, y⟩ := ih t (t + 1) (by omega) (by omega) (by omega) (by omega)
        exact ⟨r, Ev.pos h x, Ev.pos h y⟩
      · obtain ⟨r, x, y⟩ := ih best (t + 1) (by omega) (by omega) (by omega) (by omega)
        exact ⟨r, Ev.neg h x, Ev.neg h y⟩
    obtain ⟨r, x, y⟩ := step (((a * dr 60000 t - b).natAbs : Int) < ((a * dr 60000 best - b).natAbs : Int))
    refine ⟨r, Ev.shift ?_, Ev.shift ?_⟩
    · simp only [spec_SteadyTempo.l0]
      refine Ev.pos (by omega) ?_
      simp only [takes_eq t (by omega), takes_eq best (by omega), Option.bind_some, v1.1, v2.1, abs_s (a * dr 60000 t - b) (by omega), abs_s (a * dr 60000 best - b) (by omega), w1]
      exact x
    · simp only [impl_SteadyTempo.l0]
      refine Ev.pos (by omega) ?_
      simp only [beatTime_eq t (by omega), beatTime_eq best (by omega), Option.bind_some, v1.1, v2.1, abs_i (a * dr 60000 t - b) (by omega), abs_i (a * dr 60000 best - b) (by omega), w1]
      exact y

theorem FnExactSteadyTempo : laws_FnExactSteadyTempo.Pure := by
  intro a b _ _
  have key : ∃ r, Ev (fun k => spec_SteadyTempo.f k a b) r ∧ Ev (fun k => impl_SteadyTempo.f k a b) r := by
    unfold spec_SteadyTempo.f impl_SteadyTempo.f
    simp only [in_eq, within_eq, Option.bind_some]
    by_cases ha : 1 ≤ a ∧ a ≤ 2000
    · simp only [ha, and_self, decide_true, if_true]
      by_cases hb : 1 ≤ b ∧ b ≤ 1000000000000
      · obtain ⟨r, x, y⟩ := steady_loop a b ha hb 591 10 10 (by omega) (by omega) (by omega) (by omega)
        refine ⟨r, Ev.shift ?_, Ev.shift ?_⟩
        · simp only [spec_SteadyTempo.j0, hb, and_self, decide_true, Bool.not_true]; exact x
        · simp only [impl_SteadyTempo.j0, hb, and_self, decide_true, Bool.not_true]; exact y
      · refine ⟨(0, 2), Ev.shift ?_, Ev.shift ?_⟩
        · simp only [spec_SteadyTempo.j0, hb, decide_false, Bool.not_false, if_true]; exact Ev.now _
        · simp only [impl_SteadyTempo.j0, hb, decide_false, Bool.not_false, if_true]; exact Ev.now _
    · simp only [ha, decide_false]
      refine ⟨(0, 2), Ev.shift ?_, Ev.shift ?_⟩
      · simp only [spec_SteadyTempo.j0]; exact Ev.now _
      · simp only [impl_SteadyTempo.j0]; exact Ev.now _
  obtain ⟨r, x, y⟩ := key
  refine Ev.rounds (g := fun k => laws_FnExactSteadyTempo.f k a b) ?_
  unfold laws_FnExactSteadyTempo.f
  refine Ev.bind x (Ev.bind y ?_)
  simp only [if_true]
  exact Ev.now _

end Go.Proofs.Ytmipmpgpolbefaa.Pure
