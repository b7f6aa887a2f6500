/- The pure statement of the law FnTimes: what the Go functions compute, told by plain Lean functions, is what the law asks, for all arguments. No condition beyond the printed ones. -/
import Derived.Test.YtfledgccnaknpaaPFnTimesx9
import Derived.Test.YtfledgccnaknpaaXW
namespace Go.Proofs.Ytfledgccnaknpaa.Pure
open Go.RowKit Go.Proofs.Ytfledgccnaknpaa.PFnTimes Go.Proofs.YtfledgccnaknpaaW.PrintWords Go.Proofs.YtfledgccnaknpaaW.PrintLast Go.Proofs.YtfledgccnaknpaaW.PrintMore Go.Proofs.YtfledgccnaknpaaXW
set_option linter.unusedVariables false
set_option linter.unusedSimpArgs false
theorem in_eq (a b c : Int) : spec_l00In.f a b c = some (decide (b ≤ a ∧ a ≤ c)) := by
  unfold spec_l00In.f; split <;> simp_all; omega
theorem within_eq (a b c : Int) : impl_within.f a b c = some (decide (b ≤ a ∧ a ≤ c)) := by
  unfold impl_within.f; split <;> simp_all; omega
theorem mx_abs (a : Int) (h : -9223372036854775807 ≤ a ∧ a ≤ 9223372036854775807) : mx a (wrap64 (-a)) = (a.natAbs : Int) := by
  rw [wid (by omega)]; unfold mx; split <;> omega

theorem abs_i (a : Int) (h : -9223372036854775807 ≤ a ∧ a ≤ 9223372036854775807) : impl_abs.f a = some (a.natAbs : Int) := by
  unfold impl_abs.f; rw [mx_abs a h]
/-- the nearest quotient, for b > 0 -/
def dr (a b : Int) : Int := if a < 0 then -((b - 2 * a) / (2 * b)) else (2 * a + b) / (2 * b)

/-- quotients by cases of the remainder -/
theorem dr_pos (a b q r : Int) (ha : 0 ≤ a) (hb : 0 < b) (hq : a = b * q + r) (h0 : 0 ≤ r) (h1 : r < b) : dr a b = if r ≥ b - r then q + 1 else q := by
  unfold dr
  rw [if_neg (by omega)]
  split
  · rename_i h
    have e : 2 * a + b = (2 * r - b) + (2 * b) * (q + 1) := by rw [hq]; rw [Int.mul_add, Int.mul_add, Int.mul_assoc]; omega
    rw [e, Int.add_mul_ediv_left _ _ (by omega), Int.ediv_eq_zero_of_lt (by omega) (by omega)]; omega
  · rename_i h
    have e : 2 * a + b = (2 * r + b) + (2 * b) * q := by rw [hq]; rw [Int.mul_add, Int.mul_assoc]; omega
    rw [e, Int.add_mul_ediv_left _ _ (by omega), Int.ediv_eq_zero_of_lt (by omega) (by omega)]; omega
theorem dr_neg (a b : Int) (ha : a < 0) : dr a b = - dr (-a) b := by
  unfold dr
  rw [if_pos ha, if_neg (by omega), show b - 2 * a = 2 * -a + b by omega]

theorem dr_range (t : Int) (h : 10 ≤ t ∧ t ≤ 600) : 0 ≤ dr 60000 t ∧ dr 60000 t ≤ 6001 := by
  unfold dr
  rw [if_neg (by omega)]
  have h0 : 0 ≤ (2 * 60000 + t) / (2 * t) := Int.ediv_nonneg (by omega) (by omega)
  have h1 : (2 * 60000 + t) / (2 * t) < 6002 := Int.ediv_lt_of_lt_mul (by omega) (by omega)
  omega
theorem specDiv (a b : Int) (ha : -2000000000000000000 ≤ a ∧ a ≤ 2000000000000000000) (hb : 0 < b ∧ b ≤ 2000000000000000000) :
    spec_l01Div.f a b = some (dr a b) := by
  unfold spec_l01Div.f dr
  have e2b : wrap64 (2 * b) = 2 * b := wid (by omega)
  have e2a : wrap64 (2 * a) = 2 * a := wid (by omega)
  have e1 : wrap64 (b - 2 * a) = b - 2 * a := wid (by omega)
  have e3 : wrap64 (2 * a + b) = 2 * a + b := wid (by omega)
  rw [if_neg (by omega : ¬ b < 0), e2b, e2a, e1, e3]
  by_cases h : a < 0
  · rw [if_pos h, if_pos h, if_neg (by omega : ¬ 2 * b = 0)]
    rw [Int.tdiv_eq_ediv_of_nonneg (by omega)]
    have h1 : 0 ≤ (b - 2 * a) / (2 * b) := Int.ediv_nonneg (by omega) (by omega)
    have h2 : (b - 2 * a) / (2 * b) ≤ b - 2 * a := Int.ediv_le_self _ (by omega)
    rw [wid (x := (b - 2 * a) / (2 * b)) (by omega), wid (by omega)]
  · rw [if_neg h, if_neg h, if_neg (by omega : ¬ 2 * b = 0)]
    rw [Int.tdiv_eq_ediv_of_nonneg (by omega)]
    have h1 : 0 ≤ (2 * a + b) / (2 * b) := Int.ediv_nonneg (by omega) (by omega)
    have h2 : (2 * a + b) / (2 * b) ≤ 2 * a + b := Int.ediv_le_self _ (by omega)
    rw [wid (x := (2 * a + b) / (2 * b)) (by omega)]
theorem implDiv (a b : Int) (ha : -2000000000000000000 ≤ a ∧ a ≤ 2000000000000000000) (hb : 0 < b ∧ b ≤ 2000000000000000000) :
    impl_divRound.f a b = some (dr a b) := by
  unfold impl_divRound.f impl_abs.f
  have hb1 : (b.natAbs : Int) = b := by omega
  rw [if_neg (by omega : ¬ b = 0)]
  simp only [Option.bind_some]
  rw [mx_abs b (by omega), hb1]
  have hm0 : 0 ≤ (-a) % b := Int.emod_nonneg _ (by omega)
  have hm1 : (-a) % b < b := Int.emod_lt_of_pos _ (by omega)
  have hn0 : 0 ≤ a % b := Int.emod_nonneg _ (by omega)
  have hn1 : a % b < b := Int.emod_lt_of_pos _ (by omega)
  by_cases h : a < 0
  · have hd : Int.tdiv a b = - ((-a) / b) := by
      rw [show a = - (-a) by omega, Int.neg_tdiv, Int.tdiv_eq_ediv_of_nonneg (by omega)]; simp
    have hm : Int.tmod a b = - ((-a) % b) := by
      rw [show a = - (-a) by omega, Int.neg_tmod, Int.tmod_eq_emod_of_nonneg (by omega)]; simp
    have hq0 : 0 ≤ (-a) / b := Int.ediv_nonneg (by omega) (by omega)
    have hq1 : (-a) / b ≤ -a := Int.ediv_le_self _ (by omega)
    rw [hm, hd, mx_abs _ (by omega), dr_neg a b h, dr_pos (-a) b ((-a) / b) ((-a) % b) (by omega) hb.1 (by have := Int.mul_ediv_add_emod (-a) b; omega) hm0 hm1]
    rw [show ((-((-a) % b)).natAbs : Int) = (-a) % b by omega, wid (x := b - (-a) % b) (by omega), wid (x := -((-a) / b)) (by omega)]
    have e1 : decide (a < 0) = true := by simpa using h
    have e2 : decide (b < 0) = false := by simp; omega
    rw [e1, e2]
    split
    · rw [if_neg (by decide), wid (by omega)]; congr 1; omega
    · rfl
  · have hd : Int.tdiv a b = a / b := Int.tdiv_eq_ediv_of_nonneg (by omega)
    have hm : Int.tmod a b = a % b := Int.tmod_eq_emod_of_nonneg (by omega)
    have hq0 : 0 ≤ a / b := Int.ediv_nonneg (by omega) (by omega)
    have hq1 : a / b ≤ a := Int.ediv_le_self _ (by omega)
    rw [hm, hd, mx_abs _ (by omega), dr_pos a b (a / b) (a % b) (by omega) hb.1 (by have := Int.mul_ediv_add_emod a b; omega) hn0 hn1]
    rw [show ((a % b).natAbs : Int) = a % b by omega, wid (x := b - a % b) (by omega), wid (x := a / b) (by omega)]
    have e1 : decide (a < 0) = false := by simpa using h
    have e2 : decide (b < 0) = false := by simp; omega
    rw [e1, e2]
    split
    · rw [if_pos (by decide), wid (by omega)]
    · rfl
theorem takes_eq (t : Int) (h : 10 ≤ t ∧ t ≤ 600) : spec_l22Takes.f t = some (dr 60000 t) := by
  unfold spec_l22Takes.f; rw [specDiv _ _ (by omega) (by omega)]; rfl
theorem beatTime_eq (t : Int) (h : 10 ≤ t ∧ t ≤ 600) : impl_beatTime.f t = some (dr 60000 t) := by
  unfold impl_beatTime.f; rw [implDiv _ _ (by omega) (by omega)]; rfl
theorem dr_low (t : Int) (h : 10 ≤ t ∧ t ≤ 600) : 100 ≤ dr 60000 t := by
  unfold dr
  rw [if_neg (by omega)]
  exact Int.le_ediv_of_mul_le (by omega) (by omega)
def tmQ (l : List S141) (j : Nat) : Bool := decide (0 ≤ (l.getD j z141).f0 ∧ (l.getD j z141).f0 ≤ 2000) && (decide (10 ≤ (l.getD j z141).f1 ∧ (l.getD j z141).f1 ≤ 600) && (decide (j = 0) || decide ((l.getD (j - 1) z141).f0 < (l.getD j z141).f0)))
def tempoB (l : List S141) : Bool := allF (tmQ l) l.length 0 && (decide (1 ≤ l.length ∧ l.length ≤ 16) && decide ((l.getD 0 z141).f0 = 0))
theorem rdTM (l : List S141) (i : Nat) : rd_T141 l (i : Int) = l.getD i z141 := by
  unfold rd_T141; rw [Int.toNat_natCast]
theorem sTempo_l0 (l : List S141) (hl : l.length ≤ 17592186044416) (d : Nat) : ∀ (i : Nat), i + d = l.length → Ev (fun k => spec_l22Ok.l0 k l i) (allF (tmQ l) l.length i && (decide (1 ≤ l.length ∧ l.length ≤ 16) && decide ((l.getD 0 z141).f0 = 0))) := by
  induction d with
  | zero =>
    intro i h1
    refine Ev.shift ?_
    simp only [spec_l22Ok.l0]
    refine Ev.neg (by omega) ?_
    rw [allF_end _ (by omega), Bool.true_and]
    by_cases h2 : 1 ≤ l.length
    · refine Ev.pos (by omega) ?_
      by_cases h3 : l.length ≤ 16
      · refine Ev.pos (by omega) (Ev.pos (by omega) (Ev.some ?_))
        have e := rdTM l 0
        simp only [Int.natCast_zero] at e
        rw [e]
        simp only [h2, h3, and_self, decide_true, Bool.true_and]
        rfl
      · refine Ev.neg (by omega) (Ev.some ?_)
        simp [h3]
    · refine Ev.neg (by omega) (Ev.some ?_)
      simp [h2]
  | succ d ih =>
    intro i h1
    refine Ev.shift ?_
    simp only [spec_l22Ok.l0, spec_l22Beat.f, spec_l22Tempo.f, in_eq, Option.bind_some]
    refine Ev.pos (by omega) (Ev.pos (by omega) ?_)
    rw [rdTM]
    by_cases hb : 0 ≤ (l.getD i z141).f0 ∧ (l.getD i z141).f0 ≤ 2000
    · refine Ev.pos (decide_eq_true hb) ?_
      by_cases ht : 10 ≤ (l.getD i z141).f1 ∧ (l.getD i z141).f1 ≤ 600
      · refine Ev.pos (decide_eq_true ht) ?_
        cases i with
        | zero =>
          refine Ev.neg (by omega) ?_
          rw [wid (by omega), allF_yes _ (by simp only [tmQ, decide_eq_true hb, decide_eq_true ht]; rfl)]
          exact ih 1 (by omega)
        | succ i =>
          refine Ev.pos (by omega) ?_
          have e1 : wrap64 (((i + 1 : Nat) : Int) - 1) = (i : Int) := by rw [wid (by omega)]; omega
          rw [e1, rdTM]
          refine Ev.pos (by omega) (Ev.pos (by omega) ?_)
          by_cases hc : (l.getD i z141).f0 < (l.getD (i + 1) z141).f0
          · refine Ev.neg (by omega) ?_
            rw [wid (by omega), allF_yes _ (by simp only [tmQ, decide_eq_true hb, decide_eq_true ht, Nat.add_sub_cancel, decide_eq_true hc]; simp)]
            exact ih (i + 2) (by omega)
          · refine Ev.pos (by omega) (Ev.some ?_)
            rw [allF_no _ (by omega) (by simp only [tmQ, Nat.add_sub_cancel, decide_eq_false hc]; simp), Bool.false_and]
      · refine Ev.neg (by simpa using ht) (Ev.some ?_)
        rw [allF_no _ (by omega) (by simp only [tmQ, decide_eq_false ht]; simp), Bool.false_and]
    · refine Ev.neg (by simpa using hb) (Ev.some ?_)
      rw [allF_no _ (by omega) (by simp only [tmQ, decide_eq_false hb]; simp), Bool.false_and]
theorem sTempo (l : List S141) (hl : l.length ≤ 17592186044416) : Ev (fun k => spec_l22Ok.f k l) (tempoB l) := by
  unfold spec_l22Ok.f tempoB
  exact sTempo_l0 l hl l.length 0 (by omega)
theorem tempoB_len {l : List S141} (h : tempoB l = true) : 1 ≤ l.length ∧ l.length ≤ 16 := by
  unfold tempoB at h; simp only [Bool.and_eq_true] at h; exact of_decide_eq_true h.2.1
theorem tempoB_zero {l : List S141} (h : tempoB l = true) : (l.getD 0 z141).f0 = 0 := by
  unfold tempoB at h; simp only [Bool.and_eq_true] at h; exact of_decide_eq_true h.2.2
theorem tempoB_get {l : List S141} (h : tempoB l = true) (j : Nat) (hj : j < l.length) : (0 ≤ (l.getD j z141).f0 ∧ (l.getD j z141).f0 ≤ 2000) ∧ 10 ≤ (l.getD j z141).f1 ∧ (l.getD j z141).f1 ≤ 600 := by
  unfold tempoB at h; simp only [Bool.and_eq_true] at h
  have := (allF_iff _).1 h.1 j hj (Nat.zero_le _)
  simp only [tmQ, Bool.and_eq_true] at this
  exact ⟨of_decide_eq_true this.1, of_decide_eq_true this.2.1⟩
theorem tempoB_lt {l : List S141} (h : tempoB l = true) (j : Nat) (hj : j + 1 < l.length) : (l.getD j z141).f0 < (l.getD (j + 1) z141).f0 := by
  unfold tempoB at h; simp only [Bool.and_eq_true] at h
  have := (allF_iff _).1 h.1 (j + 1) hj (Nat.zero_le _)
  simp only [tmQ, Bool.and_eq_true, Bool.or_eq_true, Nat.add_sub_cancel] at this
  rcases this.2.2 with e | e
  · exact absurd (of_decide_eq_true e) (by omega)
  · exact of_decide_eq_true e
theorem iTempo_l0 (l : List S141) (hl : l.length ≤ 17592186044416) (h0 : (l.getD 0 z141).f0 = 0) (d : Nat) : ∀ (i : Nat), i + d = l.length → (0 < i → 0 ≤ (l.getD (i - 1) z141).f0) → Ev (fun k => impl_ValidTempo.l0 k l l l.length i) (allF (tmQ l) l.length i) := by
  induction d with
  | zero =>
    intro i h1 _
    refine Ev.shift ?_
    simp only [impl_ValidTempo.l0]
    refine Ev.neg (by omega) (Ev.some ?_)
    rw [allF_end _ (by omega)]
  | succ d ih =>
    intro i h1 hp
    refine Ev.shift ?_
    simp only [impl_ValidTempo.l0, impl_tempoOk.f, within_eq, Option.bind_some]
    refine Ev.pos (by omega) (Ev.pos (by omega) (Ev.pos (by omega) ?_))
    rw [rdTM]
    by_cases ht : 10 ≤ (l.getD i z141).f1 ∧ (l.getD i z141).f1 ≤ 600
    · refine Ev.pos (decide_eq_true ht) ?_
      by_cases hb : (l.getD i z141).f0 > 2000
      · refine Ev.pos hb (Ev.some ?_)
        rw [allF_no _ (by omega) (by simp only [tmQ, decide_eq_false (show ¬ (0 ≤ (l.getD i z141).f0 ∧ (l.getD i z141).f0 ≤ 2000) by omega)]; simp)]
      · refine Ev.neg hb ?_
        cases i with
        | zero =>
          refine Ev.neg (by omega) ?_
          rw [wid (by omega), allF_yes _ (by simp only [tmQ, decide_eq_true (show 0 ≤ (l.getD 0 z141).f0 ∧ (l.getD 0 z141).f0 ≤ 2000 by omega), decide_eq_true ht]; rfl)]
          exact ih 1 (by omega) (fun _ => by simp only [Nat.sub_self]; omega)
        | succ i =>
          refine Ev.pos (by omega) ?_
          have e1 : wrap64 (((i + 1 : Nat) : Int) - 1) = (i : Int) := by rw [wid (by omega)]; omega
          rw [e1, rdTM]
          refine Ev.pos (by omega) (Ev.pos (by omega) ?_)
          have hq := hp (by omega)
          rw [Nat.add_sub_cancel] at hq
          by_cases hc : (l.getD i z141).f0 < (l.getD (i + 1) z141).f0
          · refine Ev.neg (by omega) ?_
            rw [wid (by omega), allF_yes _ (by simp only [tmQ, decide_eq_true (show 0 ≤ (l.getD (i + 1) z141).f0 ∧ (l.getD (i + 1) z141).f0 ≤ 2000 by omega), decide_eq_true ht, Nat.add_sub_cancel, decide_eq_true hc]; simp)]
            exact ih (i + 2) (by omega) (fun _ => by show 0 ≤ (l.getD (i + 1) z141).f0; omega)
          · refine Ev.pos (by omega) (Ev.some ?_)
            rw [allF_no _ (by omega) (by simp only [tmQ, Nat.add_sub_cancel, decide_eq_false hc]; simp)]
    · refine Ev.neg (by simpa using ht) (Ev.some ?_)
      rw [allF_no _ (by omega) (by simp only [tmQ, decide_eq_false ht]; simp)]
theorem iTempo (l : List S141) (hl : l.length ≤ 17592186044416) : Ev (fun k => impl_ValidTempo.f k l) (tempoB l) := by
  unfold impl_ValidTempo.f tempoB
  by_cases h1 : (l.length : Int) < 1
  · refine Ev.pos h1 (Ev.shift ?_)
    simp only [impl_ValidTempo.j0]
    refine Ev.some ?_
    simp [show ¬ (1 ≤ l.length) by omega]
  refine Ev.neg h1 ?_
  by_cases h2 : (l.length : Int) > 16
  · refine Ev.pos h2 (Ev.shift ?_)
    simp only [impl_ValidTempo.j0]
    refine Ev.some ?_
    simp [show ¬ (l.length ≤ 16) by omega]
  refine Ev.neg h2 (Ev.pos (by omega) (Ev.shift ?_))
  simp only [impl_ValidTempo.j0]
  have e := rdTM l 0
  simp only [Int.natCast_zero] at e
  rw [e]
  by_cases h0 : (l.getD 0 z141).f0 = 0
  · refine Ev.neg (by rw [h0]; decide) ?_
    rw [decide_eq_true h0, decide_eq_true (show 1 ≤ l.length ∧ l.length ≤ 16 by omega), Bool.and_true, Bool.and_true]
    exact iTempo_l0 l hl h0 l.length 0 (by omega) (by omega)
  · refine Ev.pos (by simpa using h0) (Ev.some ?_)
    rw [decide_eq_false h0, Bool.and_false, Bool.and_false]
/-- the value of a line -/
def lineV (x0 y0 x1 y1 x : Int) : Int := if x ≤ x0 ∨ x1 ≤ x0 then y0 else if x ≥ x1 then y1 else y0 + dr ((y1 - y0) * (x - x0)) (x1 - x0)
theorem dr_le (a b m : Int) (ha : 0 ≤ a) (hb : 0 < b) (hm : a ≤ b * m) : 0 ≤ dr a b ∧ dr a b ≤ m := by
  unfold dr
  rw [if_neg (by omega)]
  refine ⟨Int.ediv_nonneg (by omega) (by omega), ?_⟩
  have h1 : (2 * a + b) / (2 * b) < m + 1 := by
    refine Int.ediv_lt_of_lt_mul (by omega) ?_
    have e : (m + 1) * (2 * b) = 2 * (b * m) + 2 * b := by grind
    omega
  omega
theorem lineV_range (x0 y0 x1 y1 x lo hi : Int) (h0 : lo ≤ y0 ∧ y0 ≤ hi) (h1 : lo ≤ y1 ∧ y1 ≤ hi) : lo ≤ lineV x0 y0 x1 y1 x ∧ lineV x0 y0 x1 y1 x ≤ hi := by
  unfold lineV
  split
  · exact h0
  · rename_i c
    split
    · exact h1
    · rename_i c2
      have hx : 0 < x - x0 ∧ x - x0 ≤ x1 - x0 := by omega
      by_cases hy : y0 ≤ y1
      · have a0 : 0 ≤ (y1 - y0) * (x - x0) := Int.mul_nonneg (by omega) (by omega)
        have a1 : (y1 - y0) * (x - x0) ≤ (x1 - x0) * (y1 - y0) := by rw [Int.mul_comm (x1 - x0)]; exact Int.mul_le_mul_of_nonneg_left hx.2 (by omega)
        have := dr_le _ _ _ a0 (by omega) a1
        omega
      · have a0 : 0 ≤ (y0 - y1) * (x - x0) := Int.mul_nonneg (by omega) (by omega)
        have a1 : (y0 - y1) * (x - x0) ≤ (x1 - x0) * (y0 - y1) := by rw [Int.mul_comm (x1 - x0)]; exact Int.mul_le_mul_of_nonneg_left hx.2 (by omega)
        have h2 := dr_le _ _ _ a0 (by omega) a1
        have e : (y1 - y0) * (x - x0) = -((y0 - y1) * (x - x0)) := by grind
        by_cases hz : (y0 - y1) * (x - x0) = 0
        · rw [e, hz]
          have h4 := dr_le 0 (x1 - x0) 0 (by omega) (by omega) (by omega)
          rw [show (-0 : Int) = 0 from rfl]
          omega
        · have h3 := dr_neg ((y1 - y0) * (x - x0)) (x1 - x0) (by omega)
          rw [e, Int.neg_neg] at h3
          rw [e, h3]
          omega
theorem line_ev (x0 y0 x1 y1 x : Int) (b0 : -1000000 ≤ x0 ∧ x0 ≤ 1000000) (b1 : -1000000 ≤ x1 ∧ x1 ≤ 1000000) (b2 : -1000000 ≤ y0 ∧ y0 ≤ 1000000) (b3 : -1000000 ≤ y1 ∧ y1 ≤ 1000000) : Ev (fun k => spec_l01Line.f k x0 y0 x1 y1 x) (lineV x0 y0 x1 y1 x) ∧ Ev (fun k => impl_blend.f k x0 y0 x1 y1 x) (lineV x0 y0 x1 y1 x) := by
  unfold spec_l01Line.f impl_blend.f
  have hr := lineV_range x0 y0 x1 y1 x (-1000000) 1000000 b2 b3
  by_cases c1 : x ≤ x0
  · have e : lineV x0 y0 x1 y1 x = y0 := by unfold lineV; rw [if_pos (Or.inl c1)]
    rw [e]
    constructor
    · refine Ev.pos c1 (Ev.shift ?_)
      simp only [spec_l01Line.j0]; exact Ev.now _
    · refine Ev.pos c1 (Ev.shift ?_)
      simp only [impl_blend.j0]; exact Ev.now _
  by_cases c2 : x1 ≤ x0
  · have e : lineV x0 y0 x1 y1 x = y0 := by unfold lineV; rw [if_pos (Or.inr c2)]
    rw [e]
    constructor
    · refine Ev.neg c1 (Ev.shift ?_)
      simp only [spec_l01Line.j0]; exact Ev.pos (decide_eq_true c2) (Ev.now _)
    · refine Ev.neg c1 (Ev.shift ?_)
      simp only [impl_blend.j0]; exact Ev.pos (decide_eq_true c2) (Ev.now _)
  by_cases c3 : x ≥ x1
  · have e : lineV x0 y0 x1 y1 x = y1 := by unfold lineV; rw [if_neg (by omega), if_pos c3]
    rw [e]
    constructor
    · refine Ev.neg c1 (Ev.shift ?_)
      simp only [spec_l01Line.j0]; exact Ev.neg (by simpa using c2) (Ev.pos c3 (Ev.now _))
    · refine Ev.neg c1 (Ev.shift ?_)
      simp only [impl_blend.j0]; exact Ev.neg (by simpa using c2) (Ev.pos c3 (Ev.now _))
  have e : lineV x0 y0 x1 y1 x = y0 + dr ((y1 - y0) * (x - x0)) (x1 - x0) := by unfold lineV; rw [if_neg (by omega), if_neg c3]
  have w1 : wrap64 (y1 - y0) = y1 - y0 := wid (by omega)
  have w2 : wrap64 (x - x0) = x - x0 := wid (by omega)
  have w3 : wrap64 (x1 - x0) = x1 - x0 := wid (by omega)
  have m1 : (y1 - y0) * (x - x0) ≤ 2000000 * 2000000 := by
    by_cases hy : 0 ≤ y1 - y0
    · exact Int.mul_le_mul (by omega) (by omega) (by omega) (by omega)
    · have := Int.mul_nonneg (show 0 ≤ y0 - y1 by omega) (show 0 ≤ x - x0 by omega)
      have e2 : (y1 - y0) * (x - x0) = -((y0 - y1) * (x - x0)) := by grind
      omega
  have m2 : -(2000000 * 2000000) ≤ (y1 - y0) * (x - x0) := by
    have e2 : (y1 - y0) * (x - x0) = -((y0 - y1) * (x - x0)) := by grind
    by_cases hy : 0 ≤ y0 - y1
    · have : (y0 - y1) * (x - x0) ≤ 2000000 * 2000000 := Int.mul_le_mul (by omega) (by omega) (by omega) (by omega)
      omega
    · have := Int.mul_nonneg (show 0 ≤ y1 - y0 by omega) (show 0 ≤ x - x0 by omega)
      omega
  have w4 : wrap64 ((y1 - y0) * (x - x0)) = (y1 - y0) * (x - x0) := wid (by omega)
  rw [e] at hr
  have w5 : wrap64 (y0 + dr ((y1 - y0) * (x - x0)) (x1 - x0)) = y0 + dr ((y1 - y0) * (x - x0)) (x1 - x0) := wid (by omega)
  rw [e]
  constructor
  · refine Ev.neg c1 (Ev.shift ?_)
    simp only [spec_l01Line.j0, w1, w2, w3, w4, specDiv _ (x1 - x0) (show -2000000000000000000 ≤ (y1 - y0) * (x - x0) ∧ (y1 - y0) * (x - x0) ≤ 2000000000000000000 by omega) (by omega), Option.bind_some, w5]
    exact Ev.neg (by simpa using c2) (Ev.neg c3 (Ev.now _))
  · refine Ev.neg c1 (Ev.shift ?_)
    simp only [impl_blend.j0, w1, w2, w3, w4, implDiv _ (x1 - x0) (show -2000000000000000000 ≤ (y1 - y0) * (x - x0) ∧ (y1 - y0) * (x - x0) ≤ 2000000000000000000 by omega) (by omega), Option.bind_some, w5]
    exact Ev.neg (by simpa using c2) (Ev.neg c3 (Ev.now _))
/-- the tempo of a beat -/
def atV (beat : Int) : List S141 → Int
  | [] => 0
  | [a] => a.f1
  | a :: b :: l => if beat < b.f0 then lineV a.f0 a.f1 b.f0 b.f1 beat else atV beat (b :: l)
theorem drop_consT (l : List S141) (i : Nat) (h : i < l.length) : l.drop i = l.getD i z141 :: l.drop (i + 1) := by
  rw [List.drop_eq_getElem_cons h, List.getD_eq_getElem?_getD, List.getElem?_eq_getElem h, Option.getD_some]
theorem atV_range (beat : Int) (l : List S141) (h : ∀ x ∈ l, 10 ≤ x.f1 ∧ x.f1 ≤ 600) (hn : l ≠ []) : 10 ≤ atV beat l ∧ atV beat l ≤ 600 := by
  induction l with
  | nil => exact absurd rfl hn
  | cons a l ih =>
    cases l with
    | nil => exact h a (by simp)
    | cons b l =>
      rw [atV]
      split
      · exact lineV_range _ _ _ _ _ _ _ (h a (by simp)) (h b (by simp))
      · exact ih (fun x hx => h x (by simp only [List.mem_cons] at hx ⊢; exact Or.inr hx)) (by simp)
theorem tempoB_mem {l : List S141} (h : tempoB l = true) : ∀ x ∈ l, 10 ≤ x.f1 ∧ x.f1 ≤ 600 := by
  intro x hx
  obtain ⟨j, hj, rfl⟩ := List.getElem_of_mem hx
  have := (tempoB_get h j hj).2
  rwa [List.getD_eq_getElem?_getD, List.getElem?_eq_getElem hj, Option.getD_some] at this
theorem atV_tempo {l : List S141} (h : tempoB l = true) (beat : Int) : 10 ≤ atV beat l ∧ atV beat l ≤ 600 :=
  atV_range beat l (tempoB_mem h) (by intro e; have := tempoB_len h; rw [e] at this; simp at this)
theorem sAt_l0 (l : List S141) (v : tempoB l = true) (beat : Int) (d : Nat) : ∀ (i : Nat), i + 1 + d = l.length → Ev (fun k => spec_l22At.l0 k l beat ((i + 1 : Nat) : Int)) (atV beat (l.drop i)) := by
  have hl := tempoB_len v
  induction d with
  | zero =>
    intro i h1
    refine Ev.shift ?_
    simp only [spec_l22At.l0]
    refine Ev.neg (by omega) ?_
    rw [wid (by omega), show (l.length : Int) - 1 = (i : Int) by omega]
    refine Ev.pos (by omega) (Ev.pos (by omega) (Ev.some ?_))
    rw [drop_consT l i (by omega), List.drop_of_length_le (by omega), atV, rdTM]
  | succ d ih =>
    intro i h1
    refine Ev.shift ?_
    simp only [spec_l22At.l0]
    rw [show wrap64 (((i + 1 : Nat) : Int) - 1) = (i : Int) by rw [wid (by omega)]; omega, rdTM, rdTM, wid (x := ((i + 1 : Nat) : Int) + 1) (by omega)]
    refine Ev.pos (by omega) (Ev.pos (by omega) (Ev.pos (by omega) (Ev.pos (by omega) ?_)))
    have g1 := tempoB_get v i (by omega)
    have g2 := tempoB_get v (i + 1) (by omega)
    rw [drop_consT l i (by omega), drop_consT l (i + 1) (by omega), atV, ← drop_consT l (i + 1) (by omega)]
    by_cases c : beat < (l.getD (i + 1) z141).f0
    · rw [if_pos c]
      exact Ev.pos c (Ev.bind (line_ev _ _ _ _ _ (by omega) (by omega) (by omega) (by omega)).1 (Ev.now _))
    · rw [if_neg c]
      exact Ev.neg c (ih (i + 1) (by omega))
theorem sAt (l : List S141) (v : tempoB l = true) (beat : Int) : Ev (fun k => spec_l22At.f k l beat) (atV beat l) := by
  have hl := tempoB_len v
  unfold spec_l22At.f
  exact sAt_l0 l v beat (l.length - 1) 0 (by omega)
theorem iAt_l0 (l : List S141) (v : tempoB l = true) (beat : Int) (d : Nat) : ∀ (i : Nat), i + 1 + d = l.length → Ev (fun k => impl_tempoAt.l0 k l beat i) (atV beat (l.drop i)) := by
  have hl := tempoB_len v
  induction d with
  | zero =>
    intro i h1
    refine Ev.shift ?_
    simp only [impl_tempoAt.l0]
    rw [wid (x := (l.length : Int) - 1) (by omega), show (l.length : Int) - 1 = (i : Int) by omega, rdTM]
    refine Ev.neg (by omega) (Ev.pos rfl (Ev.pos (by omega) (Ev.pos (by omega) (Ev.some ?_))))
    rw [drop_consT l i (by omega), List.drop_of_length_le (by omega), atV]
  | succ d ih =>
    intro i h1
    refine Ev.shift ?_
    simp only [impl_tempoAt.l0]
    rw [wid (x := (l.length : Int) - 1) (by omega), show wrap64 ((i : Int) + 1) = ((i + 1 : Nat) : Int) by rw [wid (by omega)]; rfl, rdTM, rdTM]
    refine Ev.pos (by omega) (Ev.pos (by omega) (Ev.pos (by omega) ?_))
    have g1 := tempoB_get v i (by omega)
    have g2 := tempoB_get v (i + 1) (by omega)
    rw [drop_consT l i (by omega), drop_consT l (i + 1) (by omega), atV, ← drop_consT l (i + 1) (by omega)]
    by_cases c : beat < (l.getD (i + 1) z141).f0
    · rw [if_pos c]
      exact Ev.neg (by omega) (Ev.neg (by omega) (Ev.pos (by omega) (Ev.pos (by omega) (Ev.bind (line_ev _ _ _ _ _ (by omega) (by omega) (by omega) (by omega)).2 (Ev.now _)))))
    · rw [if_neg c]
      exact Ev.pos (by omega) (ih (i + 1) (by omega))
theorem iAt (l : List S141) (v : tempoB l = true) (beat : Int) : Ev (fun k => impl_tempoAt.f k l beat) (atV beat l) := by
  have hl := tempoB_len v
  unfold impl_tempoAt.f
  exact iAt_l0 l v beat (l.length - 1) 0 (by omega)
def tCode (l : List S141) (a b : Int) : Int := if tempoB l = true then (if 0 ≤ a ∧ a ≤ 2000 ∧ a ≤ b ∧ b ≤ 2000 then 0 else 2) else 1
theorem iCode (l : List S141) (a b : Int) (hl : l.length ≤ 17592186044416) : Ev (fun k => impl_tempoCode.f k l a b) (tCode l a b) := by
  unfold impl_tempoCode.f tCode
  simp only [within_eq, Option.bind_some]
  refine Ev.bind (iTempo l hl) ?_
  cases tempoB l with
  | false => simp only [Bool.false_eq_true, if_false]; exact Ev.now _
  | true =>
    simp only [if_true]
    by_cases h1 : 0 ≤ a ∧ a ≤ 2000
    · refine Ev.pos (decide_eq_true h1) ?_
      by_cases h2 : a ≤ b ∧ b ≤ 2000
      · rw [if_pos (show 0 ≤ a ∧ a ≤ 2000 ∧ a ≤ b ∧ b ≤ 2000 from ⟨h1.1, h1.2, h2.1, h2.2⟩)]; exact Ev.pos (decide_eq_true h2) (Ev.now _)
      · rw [if_neg (show ¬ (0 ≤ a ∧ a ≤ 2000 ∧ a ≤ b ∧ b ≤ 2000) by omega)]; exact Ev.neg (by rw [decide_eq_true_iff]; exact h2) (Ev.now _)
    · rw [if_neg (show ¬ (0 ≤ a ∧ a ≤ 2000 ∧ a ≤ b ∧ b ≤ 2000) by omega)]; exact Ev.neg (by rw [decide_eq_true_iff]; exact h1) (Ev.now _)
/-- the time of a beat -/
def timeV (l : List S141) : Nat → Int
  | 0 => 0
  | n + 1 => timeV l n + dr 60000 (atV (n : Int) l)
theorem timeV_step (l : List S141) (v : tempoB l = true) (n : Nat) : timeV l n ≤ timeV l (n + 1) ∧ timeV l (n + 1) ≤ timeV l n + 6001 := by
  have hr := dr_range _ (atV_tempo v (n : Int))
  have e : timeV l (n + 1) = timeV l n + dr 60000 (atV (n : Int) l) := rfl
  omega
theorem timeV_bd (l : List S141) (v : tempoB l = true) (n : Nat) : 0 ≤ timeV l n ∧ timeV l n ≤ 6001 * (n : Int) := by
  induction n with
  | zero => exact ⟨Int.le_refl _, Int.le_refl _⟩
  | succ n ih =>
    have := timeV_step l v n
    omega
theorem timeV_mono (l : List S141) (v : tempoB l = true) (i d : Nat) : timeV l i ≤ timeV l (i + d) := by
  induction d with
  | zero => exact Int.le_refl _
  | succ d ih => exact Int.le_trans ih (timeV_step l v (i + d)).1
theorem sTime_l0 (l : List S141) (v : tempoB l = true) (n : Nat) (hn : n ≤ 2000) (d : Nat) : ∀ (i : Nat), i + d = n → Ev (fun k => spec_l22Time.l0 k l (n : Int) (timeV l i) (i : Int)) (timeV l n) := by
  induction d with
  | zero =>
    intro i hi
    obtain rfl : i = n := by omega
    refine Ev.shift ?_
    simp only [spec_l22Time.l0]
    exact Ev.neg (by omega) (Ev.now _)
  | succ d ih =>
    intro i hi
    have hb := timeV_bd l v i
    have hr := dr_range _ (atV_tempo v (i : Int))
    refine Ev.shift ?_
    simp only [spec_l22Time.l0]
    refine Ev.pos (by omega) ?_
    refine Ev.bind (sAt l v i) ?_
    have e1 : wrap64 (timeV l i + dr 60000 (atV (i : Int) l)) = timeV l (i + 1) := by rw [wid (by omega)]; rfl
    have e2 : wrap64 ((i : Int) + 1) = ((i + 1 : Nat) : Int) := by rw [wid (by omega)]; rfl
    simp only [takes_eq _ (atV_tempo v (i : Int)), Option.bind_some, e1, e2]
    exact ih (i + 1) (by omega)
theorem sTime (l : List S141) (v : tempoB l = true) (n : Nat) (hn : n ≤ 2000) : Ev (fun k => spec_l22Time.f k l (n : Int)) (timeV l n) :=
  sTime_l0 l v n hn n 0 (by omega)
def timesL (l : List S141) (n : Nat) : List Int := (List.range (n + 1)).map (timeV l)
theorem timesL_len (l : List S141) (n : Nat) : (timesL l n).length = n + 1 := by simp [timesL]
theorem timesL_succ (l : List S141) (n : Nat) : timesL l (n + 1) = timesL l n ++ [timeV l (n + 1)] := by
  unfold timesL
  rw [List.range_succ (n := n + 1), List.map_append]
  rfl
theorem rd_timesL (l : List S141) (n j : Nat) (h : j ≤ n) : rd (timesL l n) (j : Int) = timeV l j := by
  rw [rd_nat]
  simp [timesL, List.getD_eq_getElem?_getD, show j < n + 1 by omega]
theorem iTimes_l0 (l : List S141) (v : tempoB l = true) (n : Nat) (hn : n ≤ 2000) (d : Nat) : ∀ (i : Nat), i + d = n → Ev (fun k => impl_timesUpTo.l0 k l (timesL l i) (n : Int) (i : Int)) (timesL l n) := by
  induction d with
  | zero =>
    intro i hi
    obtain rfl : i = n := by omega
    refine Ev.shift ?_
    simp only [impl_timesUpTo.l0]
    exact Ev.neg (by omega) (Ev.now _)
  | succ d ih =>
    intro i hi
    have hb := timeV_bd l v i
    have hr := dr_range _ (atV_tempo v (i : Int))
    have hlen := timesL_len l i
    refine Ev.shift ?_
    simp only [impl_timesUpTo.l0]
    refine Ev.pos (by omega) ?_
    refine Ev.pos (by omega) ?_
    refine Ev.pos (by omega) ?_
    refine Ev.bind (iAt l v i) ?_
    simp only [beatTime_eq _ (atV_tempo v (i : Int)), Option.bind_some]
    refine Ev.pos (by omega) ?_
    have e1 : wrap64 (rd (timesL l i) (i : Int) + dr 60000 (atV (i : Int) l)) = timeV l (i + 1) := by rw [rd_timesL l i i (Nat.le_refl _), wid (by omega)]; rfl
    have e2 : wrap64 ((i : Int) + 1) = ((i + 1 : Nat) : Int) := by rw [wid (by omega)]; rfl
    simp only [e1, e2, ← timesL_succ]
    exact ih (i + 1) (by omega)
theorem iTimes (l : List S141) (v : tempoB l = true) (n : Nat) (hn : n ≤ 2000) : Ev (fun k => impl_timesUpTo.f k l (n : Int)) (timesL l n) :=
  iTimes_l0 l v n hn n 0 (by omega)
theorem timeV_lt (l : List S141) (v : tempoB l = true) (i j : Nat) (h : i < j) : timeV l i < timeV l j := by
  obtain ⟨d, rfl⟩ : ∃ d, j = i + d + 1 := ⟨j - i - 1, by omega⟩
  have h1 := timeV_mono l v i d
  have h2 := dr_low _ (atV_tempo v ((i + d : Nat) : Int))
  have e : timeV l (i + d + 1) = timeV l (i + d) + dr 60000 (atV ((i + d : Nat) : Int) l) := rfl
  omega
theorem tempoB_le {l : List S141} (h : tempoB l = true) (i : Nat) (d : Nat) (hj : i + d < l.length) : (l.getD i z141).f0 ≤ (l.getD (i + d) z141).f0 := by
  induction d with
  | zero => exact Int.le_refl _
  | succ d ih =>
    have := ih (by omega)
    have := tempoB_lt h (i + d) (by omega)
    rw [show i + (d + 1) = i + d + 1 by omega]
    omega
theorem getDrt (l : List S141) (k : Nat) (h : k < l.length) : l.getD k z141 = l[k] := by
  rw [List.getD_eq_getElem?_getD, List.getElem?_eq_getElem h]; rfl
theorem rampMono_ok {l : List S141} (h : tempoB l = true) (a1 : Int) : rampMono l a1 = true := by
  unfold rampMono
  rw [List.all_eq_true]
  intro x hx
  obtain ⟨j, hj, rfl⟩ := List.getElem_of_mem hx
  rw [List.length_drop] at hj
  rw [List.getElem_drop]
  have hf : l.findIdx (rampP a1) < l.length := by omega
  have hp := List.findIdx_getElem (w := hf)
  have hle := tempoB_le h (l.findIdx (rampP a1)) j (by omega)
  rw [getDrt l _ hf, getDrt l _ (by omega)] at hle
  unfold rampP at hp ⊢
  have := of_decide_eq_true hp
  exact decide_eq_true (by unfold rampP at hle; omega)
theorem and255 (x : Int) : 0 ≤ wrap64 (Go.bits .and .u64 x 255) ∧ wrap64 (Go.bits .and .u64 x 255) ≤ 255 := by
  have e : Go.bits .and .u64 x 255 = IntKind.u64.wrap ((BitVec.ofInt 64 x &&& BitVec.ofInt 64 255).toNat : Int) := rfl
  have h : (BitVec.ofInt 64 x &&& BitVec.ofInt 64 255).toNat ≤ 255 := by
    rw [BitVec.toNat_and]
    exact Nat.le_trans Nat.and_le_right (by decide)
  generalize (BitVec.ofInt 64 x &&& BitVec.ofInt 64 255).toNat = n at e h
  have e2 : IntKind.u64.wrap (n : Int) = n := by
    unfold IntKind.wrap
    simp [IntKind.bits, IntKind.signed]
    omega
  rw [e, e2, wid (by omega)]
  omega
def bytesB (l : List Int) : Prop := ∀ j, j < l.length → 0 ≤ l.getD j 0 ∧ l.getD j 0 ≤ 255
theorem next_ok (l : List Int) (hb : bytesB l) (a s : Int) (h0 : 0 ≤ a) (h1 : a ≤ 4000000000000000000) : ∃ v s', spec_l00Src_next.f l a s = some (v, a + 1, s') ∧ 0 ≤ v ∧ v ≤ 255 := by
  unfold spec_l00Src_next.f
  rw [wid (x := a + 1) (by omega)]
  by_cases c : a < (l.length : Int)
  · have q := hb a.toNat (by omega)
    have e : rd l a = l.getD a.toNat 0 := rfl
    rw [if_pos c, if_pos h0, if_pos (by omega), e, wid (x := l.getD a.toNat 0) (by omega)]
    exact ⟨_, _, rfl, q⟩
  · rw [if_neg c, if_neg (by omega)]
    exact ⟨_, _, rfl, and255 _⟩
theorem pick_ok (l : List Int) (hb : bytesB l) (a s n : Int) (h0 : 0 ≤ a) (h1 : a ≤ 3000000000000000000) (hn : n ≤ 1000000) : ∃ v a' s', spec_l00Src_pick.f l a s n = some (v, a', s') ∧ 0 ≤ v ∧ (v < n ∨ v = 0) ∧ a ≤ a' ∧ a' ≤ a + 2 := by
  unfold spec_l00Src_pick.f
  by_cases c : n ≤ 1
  · rw [if_pos c]; exact ⟨_, _, _, rfl, Int.le_refl _, .inr rfl, Int.le_refl _, by omega⟩
  rw [if_neg c]
  obtain ⟨v, s1, e1, v0, v1⟩ := next_ok l hb a s h0 (by omega)
  rw [e1]
  simp only [Option.bind_some]
  have tm : ∀ x : Int, 0 ≤ x → 0 ≤ Int.tmod x n ∧ Int.tmod x n < n := fun x hx => by
    rw [Int.tmod_eq_emod_of_nonneg hx]
    exact ⟨Int.emod_nonneg _ (by omega), Int.emod_lt_of_pos _ (by omega)⟩
  by_cases c2 : n > 200
  · rw [if_pos c2]
    obtain ⟨v', s2, e2, v0', v1'⟩ := next_ok l hb (a + 1) s1 (by omega) (by omega)
    rw [e2]
    simp only [Option.bind_some]
    rw [if_neg (by omega), wid (x := v * 256) (by omega), wid (x := v * 256 + v') (by omega)]
    have := tm (v * 256 + v') (by omega)
    exact ⟨_, _, _, rfl, this.1, .inl this.2, by omega, by omega⟩
  · rw [if_neg c2, if_neg (by omega)]
    have := tm v v0
    exact ⟨_, _, _, rfl, this.1, .inl this.2, by omega, by omega⟩
theorem among_ok (l : List Int) (hb : bytesB l) (a s : Int) (m : List Int) (h0 : 0 ≤ a) (h1 : a ≤ 3000000000000000000) (hm : 0 < m.length) (hm2 : m.length ≤ 1000000) : ∃ v a' s', spec_l00Src_among.f l a s m = some (v, a', s') ∧ v ∈ m ∧ a ≤ a' ∧ a' ≤ a + 2 := by
  unfold spec_l00Src_among.f
  obtain ⟨v, a', s', e, v0, v1, a0, a1⟩ := pick_ok l hb a s (m.length : Int) h0 h1 (by omega)
  rw [e]
  simp only [Option.bind_some]
  have hv : v < (m.length : Int) := by rcases v1 with h | h <;> omega
  rw [if_pos v0, if_pos hv]
  refine ⟨_, _, _, rfl, ?_, a0, a1⟩
  have : rd m v = m.getD v.toNat 0 := rfl
  rw [this, List.getD_eq_getElem?_getD, List.getElem?_eq_getElem (by omega)]
  exact List.getElem_mem _
theorem one_ok (l : List Int) (hb : bytesB l) (a s n : Int) (h0 : 0 ≤ a) (h1 : a ≤ 3000000000000000000) (hn : n ≤ 1000000) : ∃ v a' s', spec_l00Src_one.f l a s n = some (v, a', s') ∧ a ≤ a' ∧ a' ≤ a + 2 := by
  unfold spec_l00Src_one.f
  obtain ⟨v, a', s', e, v0, v1, a0, a1⟩ := pick_ok l hb a s n h0 h1 hn
  rw [e]
  exact ⟨_, _, _, rfl, a0, a1⟩
theorem drawOk22_l0 (l : List Int) (hb : bytesB l) (d : Nat) (hd : d ≤ 100) : ∀ (x : List S141) (t a s : Int), x.length ≤ 1000 - d → 0 ≤ a → a ≤ 2000000 - 4 * d → ∃ r a' s', r.length ≤ 1000 ∧ 0 < r.length + (if x = [] ∧ d = 0 then 1 else 0) ∧ 0 ≤ a' ∧ a' ≤ 2000000 ∧ Ev (fun k => spec_l22DrawOk.l0 k x t d l a s) (r, a', s') := by
  induction d with
  | zero =>
    intro x t a s h1 h2 h3
    refine ⟨x, a, s, by omega, by cases x <;> simp, h2, by omega, Ev.shift ?_⟩
    simp only [spec_l22DrawOk.l0]
    exact Ev.neg (by omega) (Ev.now _)
  | succ d ih =>
    intro x t a s h1 h2 h3
    obtain ⟨v, a1, s1, e1, _, _, b1, b2⟩ := pick_ok l hb a s 20 h2 (by omega) (by omega)
    obtain ⟨v2, a2, s2, e2, _, b3, b4⟩ := among_ok l hb a1 s1 [60, 90, 120, 10, 600, 240] (by omega) (by omega) (by simp) (by simp)
    obtain ⟨r, a', s', q1, q2, q3, q4, q5⟩ := ih (by omega) (x ++ [(⟨wrap64 (t + (wrap64 (1 + v))), v2⟩ : S141)]) (wrap64 (t + (wrap64 (1 + v)))) a2 s2 (by simp; omega) (by omega) (by omega)
    refine ⟨r, a', s', q1, by simp at q2 ⊢; omega, q3, q4, Ev.shift ?_⟩
    simp only [spec_l22DrawOk.l0, e1, Option.bind_some, e2]
    refine Ev.pos (by omega) (Ev.pos (by omega) ?_)
    rw [show wrap64 (((d + 1 : Nat) : Int) - 1) = (d : Int) by rw [wid (by omega)]; omega]
    exact q5
theorem draw22_l0 (l : List Int) (a s : Int) (n d : Nat) (hn : n ≤ 100) : ∀ (i : Nat) (x : List S141), i + d = n → x.length = i → ∃ r : List S141, r.length ≤ 1000 ∧ Ev (fun k => spec_l22Draw.l0 k x (n : Int) i l a s) (r, a, s) := by
  induction d with
  | zero =>
    intro i x h1 h2
    refine ⟨x, by omega, Ev.shift ?_⟩
    simp only [spec_l22Draw.l0]
    exact Ev.neg (by omega) (Ev.now _)
  | succ d ih =>
    intro i x h1 h2
    obtain ⟨r, q1, q2⟩ := ih (i + 1) (x ++ [(⟨wrap64 (3 * i), wrap64 (60 + i)⟩ : S141)]) (by omega) (by simp; omega)
    refine ⟨r, q1, Ev.shift ?_⟩
    simp only [spec_l22Draw.l0]
    refine Ev.pos (by omega) (Ev.pos (by omega) ?_)
    rw [wid (x := (i : Int) + 1) (by omega)]
    exact q2
theorem draw22 (l : List Int) (hb : bytesB l) (a s : Int) (h0 : 0 ≤ a) (h1 : a ≤ 1000) : ∃ (r : List S141) (a' s' : Int), r.length ≤ 2000 ∧ 0 ≤ a' ∧ a' ≤ 3000000 ∧ Ev (fun k => spec_l22Draw.f k l a s) (r, a', s') := by
  unfold spec_l22Draw.f spec_l22DrawOk.f
  obtain ⟨v, a1, s1, e1, _, _, b1, b2⟩ := pick_ok l hb a s 160 h0 (by omega) (by omega)
  obtain ⟨v2, a2, s2, e2, v20, v21, b3, b4⟩ := pick_ok l hb a1 s1 4 (by omega) (by omega) (by omega)
  obtain ⟨n, rfl⟩ := Int.eq_ofNat_of_zero_le v20
  have hn : n ≤ 4 := by rcases v21 with h | h <;> omega
  obtain ⟨r, a3, s3, r1, r2, b5, b6, ev⟩ := drawOk22_l0 l hb n (by omega) [(⟨0, wrap64 (40 + v)⟩ : S141)] 0 a2 s2 (by simp; omega) (by omega) (by omega)
  have hr : 0 < r.length := by simpa using r2
  obtain ⟨v4, a4, s4, e4, _, _, b7, b8⟩ := pick_ok l hb a3 s3 20 (by omega) (by omega) (by omega)
  simp only [e1, e2, Option.bind_some]
  by_cases c0 : v4 = 0
  · obtain ⟨v5, a5, s5, e5, _, b9, b10⟩ := among_ok l hb a4 s4 [1, -1] (by omega) (by omega) (by simp) (by simp)
    refine ⟨r.set (0 : Int).toNat (⟨v5, (rd_T141 r 0).f1⟩ : S141), a5, s5, by rw [List.length_set]; omega, by omega, by omega, Ev.bind ev ?_⟩
    simp only [e4, Option.bind_some]
    refine Ev.pos c0 ?_
    rw [e5]
    exact Ev.some (by simp only [Option.bind_some]; rw [if_pos (by omega)])
  by_cases c1 : v4 = 1
  · obtain ⟨v5, a5, s5, e5, _, b9, b10⟩ := among_ok l hb a4 s4 [9, 10, 600, 601] (by omega) (by omega) (by simp) (by simp)
    refine ⟨r.set (0 : Int).toNat (⟨(rd_T141 r 0).f0, v5⟩ : S141), a5, s5, by rw [List.length_set]; omega, by omega, by omega, Ev.bind ev ?_⟩
    simp only [e4, Option.bind_some]
    refine Ev.neg c0 (Ev.pos c1 ?_)
    rw [e5]
    exact Ev.some (by simp only [Option.bind_some]; rw [if_pos (by omega)])
  by_cases c2 : v4 = 2
  · obtain ⟨v5, a5, s5, e5, _, b9, b10⟩ := among_ok l hb a4 s4 [0, 2000, 2001] (by omega) (by omega) (by simp) (by simp)
    refine ⟨r ++ [(⟨v5, 60⟩ : S141)], a5, s5, by simp; omega, by omega, by omega, Ev.bind ev ?_⟩
    simp only [e4, Option.bind_some]
    refine Ev.neg c0 (Ev.neg c1 (Ev.pos c2 ?_))
    rw [e5]
    exact Ev.some (by simp only [Option.bind_some]; rw [if_pos (by omega)])
  by_cases c3 : v4 = 3
  · obtain ⟨v5, a5, s5, e5, hv5, b9, b10⟩ := among_ok l hb a4 s4 [16, 17] (by omega) (by omega) (by simp) (by simp)
    have h5 : 0 ≤ v5 ∧ v5 ≤ 17 := by simp at hv5; omega
    obtain ⟨m, rfl⟩ := Int.eq_ofNat_of_zero_le h5.1
    obtain ⟨r5, q1, q2⟩ := draw22_l0 l a5 s5 m m (by omega) 0 [] (by omega) rfl
    refine ⟨r5, a5, s5, by omega, by omega, by omega, Ev.bind ev ?_⟩
    simp only [e4, Option.bind_some]
    refine Ev.neg c0 (Ev.neg c1 (Ev.neg c2 (Ev.pos c3 ?_)))
    simp only [e5, Option.bind_some]
    exact q2
  by_cases c4 : v4 = 4
  · refine ⟨r.take (0 : Int).toNat, a4, s4, by simp, by omega, by omega, Ev.bind ev ?_⟩
    simp only [e4, Option.bind_some]
    exact Ev.neg c0 (Ev.neg c1 (Ev.neg c2 (Ev.neg c3 (Ev.pos c4 (Ev.pos (by omega) (Ev.now _))))))
  · refine ⟨r, a4, s4, by omega, by omega, by omega, Ev.bind ev ?_⟩
    simp only [e4, Option.bind_some]
    exact Ev.neg c0 (Ev.neg c1 (Ev.neg c2 (Ev.neg c3 (Ev.neg c4 (Ev.now _)))))
theorem drawBeat22 (l : List Int) (hb : bytesB l) (a s : Int) (h0 : 0 ≤ a) (h1 : a ≤ 4000000) : ∃ (v a' s' : Int), 0 ≤ a' ∧ a' ≤ a + 10 ∧ spec_l22DrawBeat.f l a s = some (v, a', s') := by
  unfold spec_l22DrawBeat.f
  obtain ⟨v, a1, s1, e1, b1, b2⟩ := one_ok l hb a s 8 h0 (by omega) (by omega)
  rw [e1]
  simp only [Option.bind_some]
  cases v with
  | true =>
    obtain ⟨v2, a2, s2, e2, _, b3, b4⟩ := among_ok l hb a1 s1 [-1, 0, 2000, 2001] (by omega) (by omega) (by simp) (by simp)
    rw [if_pos rfl, e2]
    exact ⟨v2, a2, s2, by omega, by omega, rfl⟩
  | false =>
    obtain ⟨v2, a2, s2, e2, _, _, b3, b4⟩ := pick_ok l hb a1 s1 60 (by omega) (by omega) (by omega)
    rw [if_neg (by simp), e2]
    exact ⟨v2, a2, s2, by omega, by omega, rfl⟩
theorem iBT (l : List S141) (a b : Int) (hl : l.length ≤ 17592186044416) : ∃ q, Ev (fun k => impl_BeatTimes.f k l a b) q ∧ (q.2 = 0 → ∃ n m : Nat, a = n ∧ b = m ∧ n ≤ m ∧ m ≤ 2000 ∧ tempoB l = true ∧ q.1 = (timesL l m).drop n) := by
  unfold impl_BeatTimes.f
  have hc := iCode l a b hl
  unfold tCode at hc
  cases v : tempoB l with
  | false =>
    rw [v, if_neg (show ¬ (false = true) by decide)] at hc
    exact ⟨([], 1), Ev.bind hc (Ev.neg (by decide) (Ev.now _)), fun h => by cases h⟩
  | true =>
    rw [v, if_pos rfl] at hc
    by_cases h : 0 ≤ a ∧ a ≤ 2000 ∧ a ≤ b ∧ b ≤ 2000
    · rw [if_pos h] at hc
      obtain ⟨n, rfl⟩ := Int.eq_ofNat_of_zero_le h.1
      obtain ⟨m, rfl⟩ := Int.eq_ofNat_of_zero_le (show 0 ≤ b by omega)
      have hm : m ≤ 2000 := by omega
      have e1 : wrap64 (wrap64 ((m : Int) - n) + 1) = (m : Int) - n + 1 := by rw [wid (x := (m : Int) - n) (by omega), wid (by omega)]
      have hlen := timesL_len l m
      have hdl : ((timesL l m).drop n).length ≤ 2001 := by rw [List.length_drop]; omega
      simp only [e1]
      by_cases e : (m : Int) - n + 1 > 64
      · exact ⟨([], 5), Ev.bind hc (Ev.pos rfl (Ev.pos e (Ev.now _))), fun h => by cases h⟩
      · refine ⟨((timesL l m).drop n, 0), Ev.bind hc (Ev.pos rfl (Ev.neg e (Ev.bind (iTimes l v m hm) (Ev.pos (by omega) (Ev.pos (by omega) ?_))))), fun _ => ⟨n, m, rfl, rfl, by omega, hm, by first | trivial | rfl, rfl⟩⟩
        rw [Int.toNat_natCast]
        unfold slices_Clone_int64_int64.f
        rw [if_pos (by omega)]
        exact Ev.now _
    · rw [if_neg h] at hc
      exact ⟨([], 2), Ev.bind hc (Ev.neg (by decide) (Ev.now _)), fun h => by cases h⟩
def farT (a b t : Int) : Int := ((a * dr 60000 t - b).natAbs : Int)
theorem farVal (a b : Int) (ha : 1 ≤ a ∧ a ≤ 2000) (hb : 1 ≤ b ∧ b ≤ 1000000000000) (t : Int) (ht : 10 ≤ t ∧ t ≤ 600) : wrap64 (wrap64 (a * dr 60000 t) - b) = a * dr 60000 t - b ∧ -1000000000001 ≤ a * dr 60000 t - b ∧ a * dr 60000 t - b ≤ 100000000 := by
  have h := dr_range t ht
  have h5 : 0 ≤ a * dr 60000 t := Int.mul_nonneg (by omega) (by omega)
  have h6 : a * dr 60000 t ≤ 2000 * 6001 := Int.mul_le_mul (by omega) (by omega) (by omega) (by omega)
  rw [wid (x := a * dr 60000 t) (by omega), wid (by omega)]
  omega
theorem steadyI (a b : Int) (ha : 1 ≤ a ∧ a ≤ 2000) (hb : 1 ≤ b ∧ b ≤ 1000000000000) (d : Nat) : ∀ best t : Int, 10 ≤ best → best ≤ 600 → 10 ≤ t → t + d = 601 → (∀ s, 10 ≤ s → s < t → farT a b best ≤ farT a b s) →
    ∃ r : Int, 10 ≤ r ∧ r ≤ 600 ∧ (∀ s, 10 ≤ s → s ≤ 600 → farT a b r ≤ farT a b s) ∧ Ev (fun k => impl_SteadyTempo.l0 k a b best t) (r, 0) := by
  induction d with
  | zero =>
    intro best t h1 h2 h3 h4 h5
    refine ⟨best, h1, h2, fun s hs hs2 => h5 s hs (by omega), Ev.shift ?_⟩
    simp only [impl_SteadyTempo.l0]; exact Ev.neg (by omega) (Ev.now _)
  | succ d ih =>
    intro best t h1 h2 h3 h4 h5
    have w1 : wrap64 (t + 1) = t + 1 := wid (by omega)
    have v1 := farVal a b ha hb t (by omega)
    have v2 := farVal a b ha hb best (by omega)
    by_cases c : ((a * dr 60000 t - b).natAbs : Int) < ((a * dr 60000 best - b).natAbs : Int)
    · obtain ⟨r, r1, r2, r3, r4⟩ := ih t (t + 1) (by omega) (by omega) (by omega) (by omega) (fun s hs hs2 => by
        by_cases e : s = t
        · rw [e]; exact Int.le_refl _
        · have := h5 s hs (by omega); unfold farT at this ⊢; omega)
      refine ⟨r, r1, r2, r3, Ev.shift ?_⟩
      simp only [impl_SteadyTempo.l0]
      refine Ev.pos (by omega) ?_
      simp only [beatTime_eq t (by omega), beatTime_eq best (by omega), Option.bind_some, v1.1, v2.1, abs_i (a * dr 60000 t - b) (by omega), abs_i (a * dr 60000 best - b) (by omega), w1]
      exact Ev.pos c r4
    · obtain ⟨r, r1, r2, r3, r4⟩ := ih best (t + 1) (by omega) (by omega) (by omega) (by omega) (fun s hs hs2 => by
        by_cases e : s = t
        · rw [e]; unfold farT; omega
        · exact h5 s hs (by omega))
      refine ⟨r, r1, r2, r3, Ev.shift ?_⟩
      simp only [impl_SteadyTempo.l0]
      refine Ev.pos (by omega) ?_
      simp only [beatTime_eq t (by omega), beatTime_eq best (by omega), Option.bind_some, v1.1, v2.1, abs_i (a * dr 60000 t - b) (by omega), abs_i (a * dr 60000 best - b) (by omega), w1]
      exact Ev.neg c r4
theorem steadyT (a b : Int) : ∃ q, Ev (fun k => impl_SteadyTempo.f k a b) q ∧ (q.2 = 0 → (1 ≤ a ∧ a ≤ 2000) ∧ (1 ≤ b ∧ b ≤ 1000000000000) ∧ 10 ≤ q.1 ∧ q.1 ≤ 600 ∧ ∀ s, 10 ≤ s → s ≤ 600 → farT a b q.1 ≤ farT a b s) := by
  unfold impl_SteadyTempo.f
  simp only [within_eq, Option.bind_some]
  by_cases ha : 1 ≤ a ∧ a ≤ 2000
  · simp only [ha, and_self, decide_true, if_true]
    by_cases hb : 1 ≤ b ∧ b ≤ 1000000000000
    · obtain ⟨r, r1, r2, r3, r4⟩ := steadyI a b ha hb 591 10 10 (by omega) (by omega) (by omega) (by omega) (fun s h1 h2 => by omega)
      refine ⟨(r, 0), Ev.shift ?_, fun _ => ⟨by first | trivial | exact ha | exact ⟨by trivial, by trivial⟩, hb, r1, r2, r3⟩⟩
      simp only [impl_SteadyTempo.j0, hb, and_self, decide_true, Bool.not_true]; exact r4
    · refine ⟨(0, 2), Ev.shift ?_, fun h => by cases h⟩
      simp only [impl_SteadyTempo.j0, hb, decide_false, Bool.not_false, if_true]; exact Ev.now _
  · simp only [ha, decide_false]
    refine ⟨(0, 2), Ev.shift ?_, fun h => by cases h⟩
    simp only [impl_SteadyTempo.j0]; exact Ev.now _
theorem atV_last (beat : Int) (x : S141) (hx : x.f0 ≤ beat) (L : List S141) (h : ∀ y ∈ L, y.f0 ≤ beat) : atV beat (L ++ [x]) = x.f1 := by
  induction L with
  | nil => rfl
  | cons a L ih =>
    cases L with
    | nil =>
      show atV beat [a, x] = _
      simp only [atV]
      rw [if_neg (by omega)]
    | cons b L =>
      show atV beat (a :: b :: (L ++ [x])) = _
      simp only [atV]
      rw [if_neg (by have := h b (by simp); omega)]
      exact ih (fun y hy => h y (by simp only [List.mem_cons] at hy ⊢; exact Or.inr hy))
theorem atV_first (l : List S141) (h : tempoB l = true) : atV 0 l = (l.getD 0 z141).f1 := by
  have h0 := tempoB_zero h
  have hl := tempoB_len h
  match l, h, h0, hl with
  | [], _, _, hl => simp at hl
  | [a], _, _, _ => rfl
  | a :: b :: r, h, h0, _ =>
    have hlt := tempoB_lt h 0 (by simp)
    simp only [List.getD_cons_zero, List.getD_cons_succ] at h0 hlt ⊢
    simp only [atV]
    rw [if_pos (by omega)]
    unfold lineV
    rw [if_pos (.inl (by omega))]
theorem cut_get (l : List S141) (a : Int) (j : Nat) (h : j < (rampCut l a).length) : (rampCut l a).getD j z141 = l.getD j z141 ∧ (l.getD j z141).f0 < a ∧ j < l.length := by
  unfold rampCut at h ⊢
  rw [List.length_take] at h
  have hj : j < l.length := by omega
  refine ⟨?_, ?_, hj⟩
  · rw [List.getD_eq_getElem?_getD, List.getElem?_take_of_lt (by omega), List.getD_eq_getElem?_getD]
  · have := List.not_of_lt_findIdx (p := rampP a) (xs := l) (i := j) (by omega)
    rw [getDrt l j hj]
    unfold rampP at this
    simpa using this
theorem ramp_valid (l : List S141) (v : tempoB l = true) (a b : Int) (ha : 1 ≤ a ∧ a ≤ 2000) (hb : 10 ≤ b ∧ b ≤ 600) (hl : (rampCut l a ++ [(⟨a, b⟩ : S141)]).length ≤ 16) :
    tempoB (rampCut l a ++ [(⟨a, b⟩ : S141)]) = true ∧ atV a (rampCut l a ++ [(⟨a, b⟩ : S141)]) = b ∧ ((rampCut l a ++ [(⟨a, b⟩ : S141)]).getD 0 z141).f1 = (l.getD 0 z141).f1 := by
  have h0 := tempoB_zero v
  have hn := tempoB_len v
  have hlen : (rampCut l a ++ [(⟨a, b⟩ : S141)]).length = (rampCut l a).length + 1 := by simp
  have hpos : 0 < (rampCut l a).length := by
    unfold rampCut
    rw [List.length_take]
    have : l.findIdx (rampP a) ≠ 0 := by
      intro e
      have hlt : l.findIdx (rampP a) < l.length := by omega
      have hp := List.findIdx_getElem (w := hlt)
      simp only [e] at hp
      rw [← getDrt l 0 (by omega)] at hp
      unfold rampP at hp
      have := of_decide_eq_true hp
      omega
    omega
  have g1 : ∀ j, j < (rampCut l a).length → (rampCut l a ++ [(⟨a, b⟩ : S141)]).getD j z141 = l.getD j z141 := fun j hj => by
    rw [List.getD_eq_getElem?_getD, List.getElem?_append_left hj, ← List.getD_eq_getElem?_getD]
    exact (cut_get l a j hj).1
  have g2 : (rampCut l a ++ [(⟨a, b⟩ : S141)]).getD (rampCut l a).length z141 = ⟨a, b⟩ := by
    rw [List.getD_eq_getElem?_getD, List.getElem?_append_right (Nat.le_refl _)]; simp
  refine ⟨?_, ?_, by rw [g1 0 hpos]⟩
  · unfold tempoB
    simp only [Bool.and_eq_true]
    refine ⟨(allF_iff _).2 fun j hj _ => ?_, decide_eq_true (by omega), decide_eq_true (by rw [g1 0 hpos]; exact h0)⟩
    unfold tmQ
    simp only [Bool.and_eq_true, Bool.or_eq_true]
    rcases Nat.lt_or_ge j (rampCut l a).length with h | h
    · have c := cut_get l a j h
      have t := tempoB_get v j c.2.2
      rw [g1 j h]
      refine ⟨decide_eq_true t.1, decide_eq_true t.2, ?_⟩
      by_cases e : j = 0
      · exact .inl (decide_eq_true e)
      · right
        rw [g1 (j - 1) (by omega)]
        have := tempoB_lt v (j - 1) (by omega)
        rw [show j - 1 + 1 = j by omega] at this
        exact decide_eq_true this
    · obtain rfl : j = (rampCut l a).length := by omega
      rw [g2]
      refine ⟨decide_eq_true (by simp only; omega), decide_eq_true hb, .inr ?_⟩
      rw [g1 _ (by omega)]
      exact decide_eq_true (cut_get l a ((rampCut l a).length - 1) (by omega)).2.1
  · refine atV_last a ⟨a, b⟩ (Int.le_refl _) _ fun y hy => ?_
    obtain ⟨j, hj, rfl⟩ := List.getElem_of_mem hy
    have c := cut_get l a j hj
    rw [List.getD_eq_getElem?_getD, List.getElem?_eq_getElem hj, Option.getD_some] at c
    rw [c.1]; omega
theorem rampI (l : List S141) (a b : Int) (hl : l.length ≤ 17592186044416) : ∃ q, Ev (fun k => impl_RampTo.f k l a b) q ∧ (q.2 ≠ 0 → q.1 = []) ∧ (q.2 = 0 → tempoB l = true ∧ (1 ≤ a ∧ a ≤ 2000) ∧ (10 ≤ b ∧ b ≤ 600) ∧ q.1.length ≤ 16 ∧ q.1 = rampCut l a ++ [(⟨a, b⟩ : S141)]) := by
  unfold impl_RampTo.f impl_tempoOk.f
  simp only [within_eq, Option.bind_some]
  have hc := iTempo l hl
  cases v : tempoB l with
  | false =>
    rw [v] at hc
    exact ⟨([], 1), Ev.bind hc (Ev.neg (by decide) (Ev.now _)), fun _ => rfl, fun h => by cases h⟩
  | true =>
    rw [v] at hc
    have h16 := tempoB_len v
    by_cases h1 : 1 ≤ a ∧ a ≤ 2000
    · by_cases h2 : 10 ≤ b ∧ b ≤ 600
      · by_cases c : 16 < (rampCut l a ++ [(⟨a, b⟩ : S141)]).length
        · exact ⟨([], 5), Ev.bind hc (Ev.pos rfl (Ev.pos (decide_eq_true h1) (Ev.pos (decide_eq_true h2) (Ev.pos ⟨rampMono_ok v a, by omega⟩ (Ev.pos c (Ev.now _)))))), fun _ => rfl, fun h => by cases h⟩
        · exact ⟨(rampCut l a ++ [(⟨a, b⟩ : S141)], 0), Ev.bind hc (Ev.pos rfl (Ev.pos (decide_eq_true h1) (Ev.pos (decide_eq_true h2) (Ev.pos ⟨rampMono_ok v a, by omega⟩ (Ev.neg c (Ev.now _)))))), fun h => absurd rfl h, fun _ => ⟨rfl, h1, h2, by simp only; omega, rfl⟩⟩
      · exact ⟨([], 2), Ev.bind hc (Ev.pos rfl (Ev.pos (decide_eq_true h1) (Ev.neg (by rw [decide_eq_true_iff]; exact h2) (Ev.now _)))), fun _ => rfl, fun h => by cases h⟩
    · exact ⟨([], 2), Ev.bind hc (Ev.pos rfl (Ev.neg (by rw [decide_eq_true_iff]; exact h1) (Ev.now _))), fun _ => rfl, fun h => by cases h⟩
theorem iAtV (l : List S141) (v : tempoB l = true) (b : Int) (hb : 0 ≤ b ∧ b ≤ 2000) : Ev (fun k => impl_TempoAt.f k l b) (atV b l, 0) := by
  unfold impl_TempoAt.f
  have hl := tempoB_len v
  have hc := iCode l b b (by omega)
  unfold tCode at hc
  rw [v, if_pos rfl, if_pos (by omega)] at hc
  exact Ev.bind hc (Ev.pos rfl (Ev.bind (iAt l v b) (Ev.now _)))
theorem sTOB (l : List S141) (v : tempoB l = true) (n : Nat) (hn : n ≤ 2000) : Ev (fun k => spec_TimeOfBeat.f k l (n : Int)) (timeV l n, 0) := by
  unfold spec_TimeOfBeat.f spec_l22Beat.f
  simp only [in_eq, Option.bind_some]
  have hl := tempoB_len v
  have hs := sTempo l (by omega)
  rw [v] at hs
  exact Ev.bind hs (Ev.pos rfl (Ev.pos (decide_eq_true (by omega)) (Ev.bind (sTime l v n hn) (Ev.now _))))
theorem law_j3 (x1 : List Int) (hb : bytesB x1) : Ev (fun k => laws_FnTimes.j3 k x1) true := by
  obtain ⟨m, a1, s1, m1, b1, b2, ev1⟩ := draw22 x1 hb 0 0 (by omega) (by omega)
  obtain ⟨beat, a2, s2, b3, b4, ev2⟩ := drawBeat22 x1 hb a1 s1 (by omega) (by omega)
  obtain ⟨goal, a3, s3, ev3, _, b5, b6⟩ := among_ok x1 hb a2 s2 [60, 120, 10, 600, 9, 601] (by omega) (by omega) (by simp) (by simp)
  have hd : Ev (fun k => spec_DrawRampTo.f k x1) (m, beat, goal) := by
    unfold spec_DrawRampTo.f spec_l00From.f
    simp only [Option.bind_some]
    refine Ev.bind ev1 ?_
    simp only [ev2, Option.bind_some, ev3]
    exact Ev.now _
  obtain ⟨q, hq, hne, hz⟩ := rampI m beat goal (by omega)
  refine Ev.shift ?_
  simp only [laws_FnTimes.j3]
  refine Ev.bind hd (Ev.bind hq ?_)
  by_cases c : q.2 = 0
  · obtain ⟨v, ha, hg, hlen, e⟩ := hz c
    have hv := ramp_valid m v beat goal ha hg (by rw [← e]; exact hlen)
    rw [← e] at hv
    have t1 := iAtV q.1 hv.1 beat (by omega)
    have t2 := iAtV q.1 hv.1 0 (by omega)
    have t3 := iAtV m v 0 (by omega)
    rw [hv.2.1] at t1
    rw [atV_first q.1 hv.1, hv.2.2] at t2
    rw [atV_first m v] at t3
    have t4 : Ev (fun k => spec_ValidTempo.f k q.1) true := by
      unfold spec_ValidTempo.f
      have := sTempo q.1 (by omega)
      rw [hv.1] at this
      exact Ev.bind this (Ev.now _)
    refine Ev.pos c (Ev.bind t1 (Ev.bind t2 (Ev.bind t3 (Ev.bind t4 (Ev.pos rfl (Ev.pos rfl (Ev.pos rfl (Ev.pos rfl (Ev.pos rfl ?_)))))))))
    exact Ev.some (by simp)
  · rw [hne c]
    exact Ev.neg c (Ev.some (by simp))
theorem b10_at (l : List Int) (hb : bytesB l) : ∃ v : Int, laws_b10At.f l 0 250 = some v ∧ 0 ≤ v ∧ v ≤ 249 := by
  unfold laws_b10At.f
  rw [if_neg (by omega)]
  have tm : ∀ x : Int, 0 ≤ x → 0 ≤ Int.tmod x 250 ∧ Int.tmod x 250 ≤ 249 := fun x hx => by
    rw [Int.tmod_eq_emod_of_nonneg hx]; omega
  by_cases c : (0 : Int) < (l.length : Int)
  · rw [if_pos c, if_pos (by omega), if_neg (by omega)]
    have q := hb 0 (by omega)
    have e : rd l 0 = l.getD 0 0 := rfl
    rw [e, wid (x := l.getD 0 0) (by omega)]
    exact ⟨_, rfl, tm _ q.1⟩
  · rw [if_neg c, if_neg (by omega)]
    exact ⟨_, rfl, tm _ (by unfold wrap64; omega)⟩
theorem b10_abs (x : Int) (h : -9000000000000000000 ≤ x ∧ x ≤ 9000000000000000000) : laws_b10Abs.f x = some (x.natAbs : Int) := by
  unfold laws_b10Abs.f
  by_cases c : x < 0
  · rw [if_pos c, wid (by omega)]; congr 1; omega
  · rw [if_neg c]; congr 1; omega
theorem iBeat (t : Int) (h : 10 ≤ t ∧ t ≤ 600) : impl_BeatTime.f t = some (dr 60000 t, 0) := by
  unfold impl_BeatTime.f impl_tempoOk.f
  rw [within_eq]
  simp only [Option.bind_some]
  rw [if_pos (decide_eq_true h), beatTime_eq t h]; rfl
theorem law_j2 (x0 x1 : List Int) (hb0 : bytesB x0) (hb : bytesB x1) : Ev (fun k => laws_FnTimes.j2 k x0 x1) true := by
  have hd : ∃ q : Int × Int, spec_DrawSteadyTempo.f x1 = some q := by
    unfold spec_DrawSteadyTempo.f spec_l00From.f
    simp only [Option.bind_some]
    obtain ⟨v, a1, s1, e1, _, b1, b2⟩ := among_ok x1 hb 0 0 [1, 4, 16, 100, 2000, 2001, 0] (by omega) (by omega) (by simp) (by simp)
    obtain ⟨w, a2, s2, e2, b3, b4⟩ := one_ok x1 hb a1 s1 8 (by omega) (by omega) (by omega)
    simp only [e1, Option.bind_some, e2]
    cases w with
    | true =>
      obtain ⟨v3, a3, s3, e3, _, b5, b6⟩ := among_ok x1 hb a2 s2 [0, 1, 1000000000000, 1000000000001] (by omega) (by omega) (by simp) (by simp)
      rw [if_pos rfl, e3]; exact ⟨_, rfl⟩
    | false =>
      obtain ⟨v3, a3, s3, e3, _, _, b5, b6⟩ := pick_ok x1 hb a2 s2 200 (by omega) (by omega) (by omega)
      rw [if_neg (by simp), e3]; exact ⟨_, rfl⟩
  obtain ⟨⟨beats, time⟩, hd⟩ := hd
  obtain ⟨q, hq, hz⟩ := steadyT beats time
  obtain ⟨v, hv, v0, v1⟩ := b10_at x0 hb0
  have h3 := law_j3 x1 hb
  refine Ev.shift ?_
  simp only [laws_FnTimes.j2, hd, Option.bind_some]
  refine Ev.bind hq ?_
  by_cases c : q.2 = 0
  · obtain ⟨ha, hb2, r1, r2, r3⟩ := hz c
    have f1 := farVal beats time ha hb2 q.1 ⟨r1, r2⟩
    have f2 := farVal beats time ha hb2 (10 + v) (by omega)
    have hle := r3 (10 + v) (by omega) (by omega)
    unfold farT at hle
    refine Ev.pos c ?_
    simp only [hv, Option.bind_some]
    rw [wid (x := 10 + v) (by omega), iBeat q.1 ⟨r1, r2⟩, iBeat (10 + v) (by omega)]
    simp only [Option.bind_some]
    refine Ev.pos (by trivial) (Ev.pos (by trivial) ?_)
    simp only [f1.1, f2.1, b10_abs (beats * dr 60000 q.1 - time) (by omega), b10_abs (beats * dr 60000 (10 + v) - time) (by omega), Option.bind_some]
    exact Ev.neg (by omega) h3
  · exact Ev.neg c h3
theorem law_l0 (x0 x1 : List Int) (hb0 : bytesB x0) (hb : bytesB x1) (l : List S141) (v : tempoB l = true) (n m : Nat) (hnm : n ≤ m) (hm : m ≤ 2000) (d : Nat) : ∀ i : Nat, i + d = ((timesL l m).drop n).length → Ev (fun k => laws_FnTimes.l0 k x0 x1 l (n : Int) ((timesL l m).drop n) i) true := by
  have hlen : ((timesL l m).drop n).length = m + 1 - n := by rw [List.length_drop, timesL_len]
  have hg : ∀ i, i < m + 1 - n → rd ((timesL l m).drop n) (i : Int) = timeV l (n + i) := fun i hi => by
    have := rd_timesL l m (n + i) (by omega)
    rw [rd_nat] at this ⊢
    rw [← this, List.getD_eq_getElem?_getD, List.getElem?_drop, ← List.getD_eq_getElem?_getD]
  induction d with
  | zero =>
    intro i h
    refine Ev.shift ?_
    simp only [laws_FnTimes.l0]
    exact Ev.neg (by omega) (law_j2 x0 x1 hb0 hb)
  | succ d ih =>
    intro i h
    refine Ev.shift ?_
    simp only [laws_FnTimes.l0]
    rw [show wrap64 ((n : Int) + i) = ((n + i : Nat) : Int) by rw [wid (by omega)]; omega, show wrap64 ((i : Int) + 1) = ((i + 1 : Nat) : Int) by rw [wid (by omega)]; omega]
    refine Ev.pos (by omega) (Ev.bind (sTOB l v (n + i) (by omega)) (Ev.pos rfl (Ev.pos (by omega) ?_)))
    rw [hg i (by omega)]
    refine Ev.pos rfl ?_
    have st := ih (i + 1) (by omega)
    by_cases z : i = 0
    · exact Ev.neg (by omega) st
    · rw [show wrap64 ((i : Int) - 1) = ((i - 1 : Nat) : Int) by rw [wid (by omega)]; omega]
      refine Ev.pos (by omega) (Ev.pos (by omega) (Ev.pos (by omega) ?_))
      rw [hg (i - 1) (by omega)]
      have := timeV_lt l v (n + (i - 1)) (n + i) (by omega)
      exact Ev.neg (by omega) st
theorem FnTimes : laws_FnTimes.Pure := by
  intro x0 x1 _ _ hw0 _ _ hw1
  have hb : ∀ l : List Int, (∀ x ∈ l, (Lit.int .u8 x).wf = true) → bytesB l := fun l hl j hj => by
    have h := hl _ (List.getElem_mem hj)
    rw [List.getD_eq_getElem?_getD, List.getElem?_eq_getElem hj, Option.getD_some]
    simp [Lit.wf, IntKind.min, IntKind.max, IntKind.signed, IntKind.bits] at h
    omega
  have h0 := hb x0 hw0
  have h1 := hb x1 hw1
  refine Ev.rounds (g := fun k => laws_FnTimes.f k x0 x1) ?_
  unfold laws_FnTimes.f laws_b10Long.f
  simp only [Option.bind_some]
  have jt : Ev (fun k => laws_FnTimes.j0 k x0 x1 true) true := by
    refine Ev.shift ?_
    simp only [laws_FnTimes.j0]
    exact Ev.pos trivial (Ev.now _)
  have jf : Ev (fun k => laws_FnTimes.j0 k x0 x1 false) true := by
    obtain ⟨m, a1, s1, m1, b1, b2, ev1⟩ := draw22 x0 h0 0 0 (by omega) (by omega)
    obtain ⟨beat, a2, s2, b3, b4, ev2⟩ := drawBeat22 x0 h0 a1 s1 (by omega) (by omega)
    obtain ⟨more, a3, s3, ev3, _, b5, b6⟩ := among_ok x0 h0 a2 s2 [0, 1, 5, 63, 64, -1] (by omega) (by omega) (by simp) (by simp)
    have hd : Ev (fun k => spec_DrawBeatTimes.f k x0) (m, beat, wrap64 (beat + more)) := by
      unfold spec_DrawBeatTimes.f spec_l00From.f
      simp only [Option.bind_some]
      refine Ev.bind ev1 ?_
      simp only [ev2, Option.bind_some, ev3]
      exact Ev.now _
    obtain ⟨q, hq, hz⟩ := iBT m beat (wrap64 (beat + more)) (by omega)
    refine Ev.shift ?_
    simp only [laws_FnTimes.j0]
    refine Ev.neg (by simp) (Ev.bind hd (Ev.bind hq ?_))
    by_cases c : q.2 = 0
    · obtain ⟨n, k, e1, e2, hnk, hk, v, e3⟩ := hz c
      have hlen : q.1.length = k + 1 - n := by rw [e3, List.length_drop, timesL_len]
      refine Ev.pos c (Ev.pos ?_ ?_)
      · simp only
        rw [e2, e1, wid (x := (k : Int) - n) (by omega), wid (by omega), hlen]; omega
      · simp only
        rw [e1, e3]
        exact law_l0 x0 x1 h0 h1 m v n k hnk hk ((timesL m k).drop n).length 0 (by omega)
    · exact Ev.neg c (law_j2 x0 x1 h0 h1)
  by_cases c : (x0.length : Int) > 1048576
  · exact Ev.pos (decide_eq_true c) jt
  · refine Ev.neg (by rw [decide_eq_true_iff]; exact c) ?_
    by_cases c2 : (x1.length : Int) > 1048576
    · rw [decide_eq_true c2]; exact jt
    · rw [decide_eq_false c2]; exact jf

end Go.Proofs.Ytfledgccnaknpaa.Pure
