/- The pure statement of the law FnExactSpeedUp: what the Go functions compute, told by plain Lean functions, is what the law asks, for all arguments. No condition beyond the printed ones. -/
import Derived.Test.YtmkjjjpffakfiaaPFnExactSpeedUpxo
import Derived.Test.YtmkjjjpffakfiaaXW
namespace Go.Proofs.Ytmkjjjpffakfiaa.Pure
open Go.RowKit Go.Proofs.Ytmkjjjpffakfiaa.PFnExactSpeedUp Go.Proofs.YtmkjjjpffakfiaaW.PrintWords Go.Proofs.YtmkjjjpffakfiaaW.PrintLast Go.Proofs.YtmkjjjpffakfiaaW.PrintMore Go.Proofs.YtmkjjjpffakfiaaXW
set_option linter.unusedVariables false
set_option linter.unusedSimpArgs false
theorem in_eq (a b c : Int) : spec_l00In.f a b c = some (decide (b ≤ a ∧ a ≤ c)) := by
  unfold spec_l00In.f; split <;> simp_all; omega
theorem within_eq (a b c : Int) : impl_within.f a b c = some (decide (b ≤ a ∧ a ≤ c)) := by
  unfold impl_within.f; split <;> simp_all; omega
theorem mx_abs (a : Int) (h : -9223372036854775807 ≤ a ∧ a ≤ 9223372036854775807) : mx a (wrap64 (-a)) = (a.natAbs : Int) := by
  rw [wid (by omega)]; unfold mx; split <;> omega

theorem abs_i (a : Int) (h : -9223372036854775807 ≤ a ∧ a ≤ 9223372036854775807) : impl_abs.f a = some (a.natAbs : Int) := by
  unfold impl_abs.f; rw [mx_abs a h]
/-- the nearest quotient, for b > 0 -/
def dr (a b : Int) : Int := if a < 0 then -((b - 2 * a) / (2 * b)) else (2 * a + b) / (2 * b)

/-- quotients by cases of the remainder -/
theorem dr_pos (a b q r : Int) (ha : 0 ≤ a) (hb : 0 < b) (hq : a = b * q + r) (h0 : 0 ≤ r) (h1 : r < b) : dr a b = if r ≥ b - r then q + 1 else q := by
  unfold dr
  rw [if_neg (by omega)]
  split
  · rename_i h
    have e : 2 * a + b = (2 * r - b) + (2 * b) * (q + 1) := by rw [hq]; rw [Int.mul_add, Int.mul_add, Int.mul_assoc]; omega
    rw [e, Int.add_mul_ediv_left _ _ (by omega), Int.ediv_eq_zero_of_lt (by omega) (by omega)]; omega
  · rename_i h
    have e : 2 * a + b = (2 * r + b) + (2 * b) * q := by rw [hq]; rw [Int.mul_add, Int.mul_assoc]; omega
    rw [e, Int.add_mul_ediv_left _ _ (by omega), Int.ediv_eq_zero_of_lt (by omega) (by omega)]; omega
theorem dr_neg (a b : Int) (ha : a < 0) : dr a b = - dr (-a) b := by
  unfold dr
  rw [if_pos ha, if_neg (by omega), show b - 2 * a = 2 * -a + b by omega]

theorem dr_range (t : Int) (h : 10 ≤ t ∧ t ≤ 600) : 0 ≤ dr 60000 t ∧ dr 60000 t ≤ 6001 := by
  unfold dr
  rw [if_neg (by omega)]
  have h0 : 0 ≤ (2 * 60000 + t) / (2 * t) := Int.ediv_nonneg (by omega) (by omega)
  have h1 : (2 * 60000 + t) / (2 * t) < 6002 := Int.ediv_lt_of_lt_mul (by omega) (by omega)
  omega
theorem specDiv (a b : Int) (ha : -2000000000000000000 ≤ a ∧ a ≤ 2000000000000000000) (hb : 0 < b ∧ b ≤ 2000000000000000000) :
    spec_l01Div.f a b = some (dr a b) := by
  unfold spec_l01Div.f dr
  have e2b : wrap64 (2 * b) = 2 * b := wid (by omega)
  have e2a : wrap64 (2 * a) = 2 * a := wid (by omega)
  have e1 : wrap64 (b - 2 * a) = b - 2 * a := wid (by omega)
  have e3 : wrap64 (2 * a + b) = 2 * a + b := wid (by omega)
  rw [if_neg (by omega : ¬ b < 0), e2b, e2a, e1, e3]
  by_cases h : a < 0
  · rw [if_pos h, if_pos h, if_neg (by omega : ¬ 2 * b = 0)]
    rw [Int.tdiv_eq_ediv_of_nonneg (by omega)]
    have h1 : 0 ≤ (b - 2 * a) / (2 * b) := Int.ediv_nonneg (by omega) (by omega)
    have h2 : (b - 2 * a) / (2 * b) ≤ b - 2 * a := Int.ediv_le_self _ (by omega)
    rw [wid (x := (b - 2 * a) / (2 * b)) (by omega), wid (by omega)]
  · rw [if_neg h, if_neg h, if_neg (by omega : ¬ 2 * b = 0)]
    rw [Int.tdiv_eq_ediv_of_nonneg (by omega)]
    have h1 : 0 ≤ (2 * a + b) / (2 * b) := Int.ediv_nonneg (by omega) (by omega)
    have h2 : (2 * a + b) / (2 * b) ≤ 2 * a + b := Int.ediv_le_self _ (by omega)
    rw [wid (x := (2 * a + b) / (2 * b)) (by omega)]
theorem implDiv (a b : Int) (ha : -2000000000000000000 ≤ a ∧ a ≤ 2000000000000000000) (hb : 0 < b ∧ b ≤ 2000000000000000000) :
    impl_divRound.f a b = some (dr a b) := by
  unfold impl_divRound.f impl_abs.f
  have hb1 : (b.natAbs : Int) = b := by omega
  rw [if_neg (by omega : ¬ b = 0)]
  simp only [Option.bind_some]
  rw [mx_abs b (by omega), hb1]
  have hm0 : 0 ≤ (-a) % b := Int.emod_nonneg _ (by omega)
  have hm1 : (-a) % b < b := Int.emod_lt_of_pos _ (by omega)
  have hn0 : 0 ≤ a % b := Int.emod_nonneg _ (by omega)
  have hn1 : a % b < b := Int.emod_lt_of_pos _ (by omega)
  by_cases h : a < 0
  · have hd : Int.tdiv a b = - ((-a) / b) := by
      rw [show a = - (-a) by omega, Int.neg_tdiv, Int.tdiv_eq_ediv_of_nonneg (by omega)]; simp
    have hm : Int.tmod a b = - ((-a) % b) := by
      rw [show a = - (-a) by omega, Int.neg_tmod, Int.tmod_eq_emod_of_nonneg (by omega)]; simp
    have hq0 : 0 ≤ (-a) / b := Int.ediv_nonneg (by omega) (by omega)
    have hq1 : (-a) / b ≤ -a := Int.ediv_le_self _ (by omega)
    rw [hm, hd, mx_abs _ (by omega), dr_neg a b h, dr_pos (-a) b ((-a) / b) ((-a) % b) (by omega) hb.1 (by have := Int.mul_ediv_add_emod (-a) b; omega) hm0 hm1]
    rw [show ((-((-a) % b)).natAbs : Int) = (-a) % b by omega, wid (x := b - (-a) % b) (by omega), wid (x := -((-a) / b)) (by omega)]
    have e1 : decide (a < 0) = true := by simpa using h
    have e2 : decide (b < 0) = false := by simp; omega
    rw [e1, e2]
    split
    · rw [if_neg (by decide), wid (by omega)]; congr 1; omega
    · rfl
  · have hd : Int.tdiv a b = a / b := Int.tdiv_eq_ediv_of_nonneg (by omega)
    have hm : Int.tmod a b = a % b := Int.tmod_eq_emod_of_nonneg (by omega)
    have hq0 : 0 ≤ a / b := Int.ediv_nonneg (by omega) (by omega)
    have hq1 : a / b ≤ a := Int.ediv_le_self _ (by omega)
    rw [hm, hd, mx_abs _ (by omega), dr_pos a b (a / b) (a % b) (by omega) hb.1 (by have := Int.mul_ediv_add_emod a b; omega) hn0 hn1]
    rw [show ((a % b).natAbs : Int) = a % b by omega, wid (x := b - a % b) (by omega), wid (x := a / b) (by omega)]
    have e1 : decide (a < 0) = false := by simpa using h
    have e2 : decide (b < 0) = false := by simp; omega
    rw [e1, e2]
    split
    · rw [if_pos (by decide), wid (by omega)]
    · rfl
theorem dr_low (t : Int) (h : 10 ≤ t ∧ t ≤ 600) : 100 ≤ dr 60000 t := by
  unfold dr
  rw [if_neg (by omega)]
  exact Int.le_ediv_of_mul_le (by omega) (by omega)
def cpTempoMark (l : List S122) : List S120 := l.map fun x => ⟨x.f0, x.f1⟩
theorem toTempoMark_l0 (l : List S122) (hl : l.length ≤ 17592186044416) (d : Nat) : ∀ (i : Nat) (acc : List S120), i + d = l.length → acc.length = l.length → acc.take i = (cpTempoMark l).take i → Ev (fun k => laws_toTempoMarkS.l0 k l acc i) (cpTempoMark l) := by
  have hc : (cpTempoMark l).length = l.length := List.length_map _
  induction d with
  | zero =>
    intro i acc h1 h2 h3
    refine Ev.shift ?_
    simp only [laws_toTempoMarkS.l0]
    refine Ev.neg (by omega) (Ev.some ?_)
    rw [List.take_of_length_le (by omega), List.take_of_length_le (by omega)] at h3
    rw [h3]
  | succ d ih =>
    intro i acc h1 h2 h3
    refine Ev.shift ?_
    simp only [laws_toTempoMarkS.l0, laws_toTempoMark.f, Option.bind_some]
    refine Ev.pos (by omega) (Ev.pos (by omega) (Ev.pos (by omega) ?_))
    rw [wid (by omega), Int.toNat_natCast]
    refine ih (i + 1) _ (by omega) (by rw [List.length_set, h2]) ?_
    rw [List.take_succ_eq_append_getElem (by rw [List.length_set]; omega), List.take_succ_eq_append_getElem (by omega), List.take_set_of_le (by omega), List.getElem_set_self, h3]
    have e : rd_T122 l (i : Int) = l[i] := by
      unfold rd_T122
      rw [Int.toNat_natCast, List.getD_eq_getElem?_getD, List.getElem?_eq_getElem (by omega), Option.getD_some]
    simp only [cpTempoMark, List.getElem_map, e]
theorem toTempoMark (l : List S122) (hl : l.length ≤ 17592186044416) : Ev (fun k => laws_toTempoMarkS.f k l) (cpTempoMark l) := by
  unfold laws_toTempoMarkS.f
  refine Ev.pos (by omega) (Ev.pos (by omega) ?_)
  rw [Int.toNat_natCast]
  exact toTempoMark_l0 l hl l.length 0 _ (by omega) (by simp) (by simp)
theorem cpTempoMark_length (l : List S122) : (cpTempoMark l).length = l.length := List.length_map _
theorem eqTempoMark_l0 (l : List S120) (hl : l.length ≤ 17592186044416) (d : Nat) : ∀ (i : Nat), i + d = l.length → Ev (fun k => laws_eqTempoMarkS.l0 k l l i) true := by
  induction d with
  | zero =>
    intro i h1
    refine Ev.shift ?_
    simp only [laws_eqTempoMarkS.l0]
    exact Ev.neg (by omega) (Ev.now _)
  | succ d ih =>
    intro i h1
    refine Ev.shift ?_
    simp only [laws_eqTempoMarkS.l0, laws_eqTempoMark.f, Option.bind_some, if_true]
    refine Ev.pos (by omega) (Ev.pos (by omega) (Ev.pos (by omega) ?_))
    rw [wid (by omega)]
    exact ih (i + 1) (by omega)
theorem eqTempoMark (l : List S120) (hl : l.length ≤ 17592186044416) : Ev (fun k => laws_eqTempoMarkS.f k l l) true := by
  unfold laws_eqTempoMarkS.f
  exact Ev.pos rfl (eqTempoMark_l0 l hl l.length 0 (by omega))
theorem szTempoMark (l : List S122) (hl : l.length ≤ maxLen) : laws_szTempoMarkS.f l 1048576 = some (if l.length ≤ 1048576 then 1048576 - (l.length : Int) else -1) := by
  unfold laws_szTempoMarkS.f
  unfold maxLen at hl
  rw [wid (by omega)]
  by_cases h : l.length ≤ 1048576
  · rw [if_neg (by omega), if_pos h]
  · rw [if_pos (by omega), if_neg h]
def tmQ (l : List S120) (j : Nat) : Bool := decide (0 ≤ (l.getD j z120).f0 ∧ (l.getD j z120).f0 ≤ 2000) && (decide (10 ≤ (l.getD j z120).f1 ∧ (l.getD j z120).f1 ≤ 600) && (decide (j = 0) || decide ((l.getD (j - 1) z120).f0 < (l.getD j z120).f0)))
def tempoB (l : List S120) : Bool := allF (tmQ l) l.length 0 && (decide (1 ≤ l.length ∧ l.length ≤ 16) && decide ((l.getD 0 z120).f0 = 0))
theorem rdTM (l : List S120) (i : Nat) : rd_T120 l (i : Int) = l.getD i z120 := by
  unfold rd_T120; rw [Int.toNat_natCast]
theorem sTempo_l0 (l : List S120) (hl : l.length ≤ 17592186044416) (d : Nat) : ∀ (i : Nat), i + d = l.length → Ev (fun k => spec_l22Ok.l0 k l i) (allF (tmQ l) l.length i && (decide (1 ≤ l.length ∧ l.length ≤ 16) && decide ((l.getD 0 z120).f0 = 0))) := by
  induction d with
  | zero =>
    intro i h1
    refine Ev.shift ?_
    simp only [spec_l22Ok.l0]
    refine Ev.neg (by omega) ?_
    rw [allF_end _ (by omega), Bool.true_and]
    by_cases h2 : 1 ≤ l.length
    · refine Ev.pos (by omega) ?_
      by_cases h3 : l.length ≤ 16
      · refine Ev.pos (by omega) (Ev.pos (by omega) (Ev.some ?_))
        have e := rdTM l 0
        simp only [Int.natCast_zero] at e
        rw [e]
        simp only [h2, h3, and_self, decide_true, Bool.true_and]
        rfl
      · refine Ev.neg (by omega) (Ev.some ?_)
        simp [h3]
    · refine Ev.neg (by omega) (Ev.some ?_)
      simp [h2]
  | succ d ih =>
    intro i h1
    refine Ev.shift ?_
    simp only [spec_l22Ok.l0, spec_l22Beat.f, spec_l22Tempo.f, in_eq, Option.bind_some]
    refine Ev.pos (by omega) (Ev.pos (by omega) ?_)
    rw [rdTM]
    by_cases hb : 0 ≤ (l.getD i z120).f0 ∧ (l.getD i z120).f0 ≤ 2000
    · refine Ev.pos (decide_eq_true hb) ?_
      by_cases ht : 10 ≤ (l.getD i z120).f1 ∧ (l.getD i z120).f1 ≤ 600
      · refine Ev.pos (decide_eq_true ht) ?_
        cases i with
        | zero =>
          refine Ev.neg (by omega) ?_
          rw [wid (by omega), allF_yes _ (by simp only [tmQ, decide_eq_true hb, decide_eq_true ht]; rfl)]
          exact ih 1 (by omega)
        | succ i =>
          refine Ev.pos (by omega) ?_
          have e1 : wrap64 (((i + 1 : Nat) : Int) - 1) = (i : Int) := by rw [wid (by omega)]; omega
          rw [e1, rdTM]
          refine Ev.pos (by omega) (Ev.pos (by omega) ?_)
          by_cases hc : (l.getD i z120).f0 < (l.getD (i + 1) z120).f0
          · refine Ev.neg (by omega) ?_
            rw [wid (by omega), allF_yes _ (by simp only [tmQ, decide_eq_true hb, decide_eq_true ht, Nat.add_sub_cancel, decide_eq_true hc]; simp)]
            exact ih (i + 2) (by omega)
          · refine Ev.pos (by omega) (Ev.some ?_)
            rw [allF_no _ (by omega) (by simp only [tmQ, Nat.add_sub_cancel, decide_eq_false hc]; simp), Bool.false_and]
      · refine Ev.neg (by simpa using ht) (Ev.some ?_)
        rw [allF_no _ (by omega) (by simp only [tmQ, decide_eq_false ht]; simp), Bool.false_and]
    · refine Ev.neg (by simpa using hb) (Ev.some ?_)
      rw [allF_no _ (by omega) (by simp only [tmQ, decide_eq_false hb]; simp), Bool.false_and]
theorem sTempo (l : List S120) (hl : l.length ≤ 17592186044416) : Ev (fun k => spec_l22Ok.f k l) (tempoB l) := by
  unfold spec_l22Ok.f tempoB
  exact sTempo_l0 l hl l.length 0 (by omega)
theorem tempoB_len {l : List S120} (h : tempoB l = true) : 1 ≤ l.length ∧ l.length ≤ 16 := by
  unfold tempoB at h; simp only [Bool.and_eq_true] at h; exact of_decide_eq_true h.2.1
theorem tempoB_zero {l : List S120} (h : tempoB l = true) : (l.getD 0 z120).f0 = 0 := by
  unfold tempoB at h; simp only [Bool.and_eq_true] at h; exact of_decide_eq_true h.2.2
theorem tempoB_get {l : List S120} (h : tempoB l = true) (j : Nat) (hj : j < l.length) : (0 ≤ (l.getD j z120).f0 ∧ (l.getD j z120).f0 ≤ 2000) ∧ 10 ≤ (l.getD j z120).f1 ∧ (l.getD j z120).f1 ≤ 600 := by
  unfold tempoB at h; simp only [Bool.and_eq_true] at h
  have := (allF_iff _).1 h.1 j hj (Nat.zero_le _)
  simp only [tmQ, Bool.and_eq_true] at this
  exact ⟨of_decide_eq_true this.1, of_decide_eq_true this.2.1⟩
theorem tempoB_lt {l : List S120} (h : tempoB l = true) (j : Nat) (hj : j + 1 < l.length) : (l.getD j z120).f0 < (l.getD (j + 1) z120).f0 := by
  unfold tempoB at h; simp only [Bool.and_eq_true] at h
  have := (allF_iff _).1 h.1 (j + 1) hj (Nat.zero_le _)
  simp only [tmQ, Bool.and_eq_true, Bool.or_eq_true, Nat.add_sub_cancel] at this
  rcases this.2.2 with e | e
  · exact absurd (of_decide_eq_true e) (by omega)
  · exact of_decide_eq_true e
theorem iTempo_l0 (l : List S120) (hl : l.length ≤ 17592186044416) (h0 : (l.getD 0 z120).f0 = 0) (d : Nat) : ∀ (i : Nat), i + d = l.length → (0 < i → 0 ≤ (l.getD (i - 1) z120).f0) → Ev (fun k => impl_ValidTempo.l0 k l l l.length i) (allF (tmQ l) l.length i) := by
  induction d with
  | zero =>
    intro i h1 _
    refine Ev.shift ?_
    simp only [impl_ValidTempo.l0]
    refine Ev.neg (by omega) (Ev.some ?_)
    rw [allF_end _ (by omega)]
  | succ d ih =>
    intro i h1 hp
    refine Ev.shift ?_
    simp only [impl_ValidTempo.l0, impl_tempoOk.f, within_eq, Option.bind_some]
    refine Ev.pos (by omega) (Ev.pos (by omega) (Ev.pos (by omega) ?_))
    rw [rdTM]
    by_cases ht : 10 ≤ (l.getD i z120).f1 ∧ (l.getD i z120).f1 ≤ 600
    · refine Ev.pos (decide_eq_true ht) ?_
      by_cases hb : (l.getD i z120).f0 > 2000
      · refine Ev.pos hb (Ev.some ?_)
        rw [allF_no _ (by omega) (by simp only [tmQ, decide_eq_false (show ¬ (0 ≤ (l.getD i z120).f0 ∧ (l.getD i z120).f0 ≤ 2000) by omega)]; simp)]
      · refine Ev.neg hb ?_
        cases i with
        | zero =>
          refine Ev.neg (by omega) ?_
          rw [wid (by omega), allF_yes _ (by simp only [tmQ, decide_eq_true (show 0 ≤ (l.getD 0 z120).f0 ∧ (l.getD 0 z120).f0 ≤ 2000 by omega), decide_eq_true ht]; rfl)]
          exact ih 1 (by omega) (fun _ => by simp only [Nat.sub_self]; omega)
        | succ i =>
          refine Ev.pos (by omega) ?_
          have e1 : wrap64 (((i + 1 : Nat) : Int) - 1) = (i : Int) := by rw [wid (by omega)]; omega
          rw [e1, rdTM]
          refine Ev.pos (by omega) (Ev.pos (by omega) ?_)
          have hq := hp (by omega)
          rw [Nat.add_sub_cancel] at hq
          by_cases hc : (l.getD i z120).f0 < (l.getD (i + 1) z120).f0
          · refine Ev.neg (by omega) ?_
            rw [wid (by omega), allF_yes _ (by simp only [tmQ, decide_eq_true (show 0 ≤ (l.getD (i + 1) z120).f0 ∧ (l.getD (i + 1) z120).f0 ≤ 2000 by omega), decide_eq_true ht, Nat.add_sub_cancel, decide_eq_true hc]; simp)]
            exact ih (i + 2) (by omega) (fun _ => by show 0 ≤ (l.getD (i + 1) z120).f0; omega)
          · refine Ev.pos (by omega) (Ev.some ?_)
            rw [allF_no _ (by omega) (by simp only [tmQ, Nat.add_sub_cancel, decide_eq_false hc]; simp)]
    · refine Ev.neg (by simpa using ht) (Ev.some ?_)
      rw [allF_no _ (by omega) (by simp only [tmQ, decide_eq_false ht]; simp)]
theorem iTempo (l : List S120) (hl : l.length ≤ 17592186044416) : Ev (fun k => impl_ValidTempo.f k l) (tempoB l) := by
  unfold impl_ValidTempo.f tempoB
  by_cases h1 : (l.length : Int) < 1
  · refine Ev.pos h1 (Ev.shift ?_)
    simp only [impl_ValidTempo.j0]
    refine Ev.some ?_
    simp [show ¬ (1 ≤ l.length) by omega]
  refine Ev.neg h1 ?_
  by_cases h2 : (l.length : Int) > 16
  · refine Ev.pos h2 (Ev.shift ?_)
    simp only [impl_ValidTempo.j0]
    refine Ev.some ?_
    simp [show ¬ (l.length ≤ 16) by omega]
  refine Ev.neg h2 (Ev.pos (by omega) (Ev.shift ?_))
  simp only [impl_ValidTempo.j0]
  have e := rdTM l 0
  simp only [Int.natCast_zero] at e
  rw [e]
  by_cases h0 : (l.getD 0 z120).f0 = 0
  · refine Ev.neg (by rw [h0]; decide) ?_
    rw [decide_eq_true h0, decide_eq_true (show 1 ≤ l.length ∧ l.length ≤ 16 by omega), Bool.and_true, Bool.and_true]
    exact iTempo_l0 l hl h0 l.length 0 (by omega) (by omega)
  · refine Ev.pos (by simpa using h0) (Ev.some ?_)
    rw [decide_eq_false h0, Bool.and_false, Bool.and_false]
theorem getDsetTempoMark (l : List S120) (i j : Nat) (v : S120) (h : i < l.length) : (l.set i v).getD j z120 = if i = j then v else l.getD j z120 := by
  rw [List.getD_eq_getElem?_getD, List.getElem?_set, List.getD_eq_getElem?_getD]
  split
  · rename_i e; subst e; simp [h]
  · rfl
theorem rdMTempoMark (l : List S120) (i : Nat) : rd_T120 l (i : Int) = l.getD i z120 := by
  unfold rd_T120
  rw [Int.toNat_natCast]
theorem markTempoMark_l0 (m0 : Int) (n : Nat) (h0 : 0 ≤ m0) (h1 : m0 + 2 * n ≤ 9000000000000000000) (d : Nat) : ∀ (i : Nat) (acc : List S120), i + d = n → acc.length = n → (∀ j, j < i → acc.getD j z120 = ⟨m0 + 2 * j, m0 + 2 * j + 1⟩) → ∃ l', l'.length = n ∧ (∀ j, j < n → l'.getD j z120 = ⟨m0 + 2 * j, m0 + 2 * j + 1⟩) ∧ Ev (fun k => laws_markTempoMarkS.l0 k acc (m0 + 2 * i) i) (m0 + 2 * n, l') := by
  induction d with
  | zero =>
    intro i acc hi ha h
    obtain rfl : i = n := by omega
    refine ⟨acc, ha, h, ?_⟩
    refine Ev.shift ?_
    simp only [laws_markTempoMarkS.l0]
    exact Ev.neg (by omega) (Ev.now _)
  | succ d ih =>
    intro i acc hi ha h
    have g1 := getDsetTempoMark acc i i ⟨m0 + 2 * i, (acc.getD i z120).f1⟩ (by omega)
    rw [if_pos rfl] at g1
    have w1 : wrap64 (m0 + 2 * (i : Int) + 1) = m0 + 2 * i + 1 := wid (by omega)
    have w2 : wrap64 (m0 + 2 * (i : Int) + 1 + 1) = m0 + 2 * ((i + 1 : Nat) : Int) := by rw [wid (by omega)]; omega
    have w3 : wrap64 ((i : Int) + 1) = ((i + 1 : Nat) : Int) := by rw [wid (by omega)]; rfl
    obtain ⟨l', a1, a2, a3⟩ := ih (i + 1) (acc.set i ⟨m0 + 2 * i, m0 + 2 * i + 1⟩) (by omega) (by rw [List.length_set]; exact ha) (fun j hj => by
      rw [getDsetTempoMark acc i j _ (by omega)]
      split
      · rename_i e; rw [e]
      · exact h j (by omega))
    refine ⟨l', a1, a2, ?_⟩
    refine Ev.shift ?_
    simp only [laws_markTempoMarkS.l0]
    clear a1 a2 ih h
    have p1 : (i : Int) < (acc.length : Int) := by clear w1 w2 w3 g1; omega
    refine Ev.pos p1 (Ev.pos (Int.natCast_nonneg _) ?_)
    simp only [Option.bind_some, Int.toNat_natCast, rdMTempoMark, g1, w1, w2, w3, List.set_set]
    exact a3
theorem markTempoMark (l : List S120) (m : Int) (h0 : 0 ≤ m) (h1 : m + 2 * l.length ≤ 9000000000000000000) : ∃ l', l'.length = l.length ∧ (∀ j, j < l.length → l'.getD j z120 = ⟨m + 2 * j, m + 2 * j + 1⟩) ∧ Ev (fun k => laws_markTempoMarkS.f k l m) (m + 2 * l.length, l') := by
  obtain ⟨l', a1, a2, a3⟩ := markTempoMark_l0 m l.length h0 h1 l.length 0 l (by omega) rfl (fun j hj => by omega)
  refine ⟨l', a1, a2, ?_⟩
  have e : m + 2 * ((0 : Nat) : Int) = m := by omega
  rw [e] at a3
  exact a3
theorem heldTempoMark_l0 (m0 : Int) (n : Nat) (h0 : 0 ≤ m0) (h1 : m0 + 2 * n ≤ 9000000000000000000) (l : List S120) (hl : l.length = n) (h : ∀ j, j < n → l.getD j z120 = ⟨m0 + 2 * j, m0 + 2 * j + 1⟩) (d : Nat) : ∀ (i : Nat), i + d = n → Ev (fun k => laws_heldTempoMarkS.l0 k l (m0 + 2 * i) i) (m0 + 2 * n) := by
  induction d with
  | zero =>
    intro i hi
    obtain rfl : i = n := by omega
    refine Ev.shift ?_
    simp only [laws_heldTempoMarkS.l0]
    exact Ev.neg (by omega) (Ev.now _)
  | succ d ih =>
    intro i hi
    have g := h i (by omega)
    have r := ih (i + 1) (by omega)
    clear h ih
    have w1 : wrap64 (m0 + 2 * (i : Int) + 1) = m0 + 2 * i + 1 := wid (by omega)
    have w2 : wrap64 (m0 + 2 * (i : Int) + 1 + 1) = m0 + 2 * ((i + 1 : Nat) : Int) := by rw [wid (by omega)]; omega
    have w3 : wrap64 ((i : Int) + 1) = ((i + 1 : Nat) : Int) := by rw [wid (by omega)]; rfl
    refine Ev.shift ?_
    simp only [laws_heldTempoMarkS.l0, rdMTempoMark, g, w1, w2, w3]
    have p1 : (i : Int) < (l.length : Int) := by clear w1 w2 w3 g; omega
    exact Ev.pos p1 (Ev.pos (Int.natCast_nonneg _) (Ev.pos trivial (Ev.pos trivial r)))
theorem heldTempoMark (m : Int) (l : List S120) (h0 : 0 ≤ m) (h1 : m + 2 * l.length ≤ 9000000000000000000) (h : ∀ j, j < l.length → l.getD j z120 = ⟨m + 2 * j, m + 2 * j + 1⟩) : Ev (fun k => laws_heldTempoMarkS.f k l m) (m + 2 * l.length) := by
  have a := heldTempoMark_l0 m l.length h0 h1 l rfl h l.length 0 (by omega)
  have e : m + 2 * ((0 : Nat) : Int) = m := by omega
  rw [e] at a
  exact a
/-- marks with changed tempos -/
def spL (num den : Int) (l : List S120) : List S120 := l.map fun x => ⟨x.f0, dr (x.f1 * num) den⟩
theorem spL_len (num den : Int) (l : List S120) : (spL num den l).length = l.length := List.length_map _
theorem spL_get (num den : Int) (l : List S120) (i : Nat) (h : i < l.length) : (spL num den l).getD i z120 = ⟨(l.getD i z120).f0, dr ((l.getD i z120).f1 * num) den⟩ := by
  simp [spL, List.getD_eq_getElem?_getD, h]
def spQ (num den : Int) (l : List S120) (j : Nat) : Bool := decide (10 ≤ dr ((l.getD j z120).f1 * num) den ∧ dr ((l.getD j z120).f1 * num) den ≤ 600)
theorem spL_tempo (num den : Int) (l : List S120) (v : tempoB l = true) : tempoB (spL num den l) = allF (spQ num den l) l.length 0 := by
  have hL := spL_len num den l
  rw [Bool.eq_iff_iff]
  constructor
  · intro h
    rw [allF_iff]
    intro j hj _
    have := (tempoB_get h j (by omega)).2
    rw [spL_get num den l j hj] at this
    exact decide_eq_true this
  · intro h
    rw [allF_iff] at h
    unfold tempoB
    rw [hL, Bool.and_eq_true, Bool.and_eq_true, allF_iff]
    refine ⟨fun j hj _ => ?_, decide_eq_true (tempoB_len v), ?_⟩
    · have h1 := tempoB_get v j hj
      have h2 := of_decide_eq_true (h j hj (Nat.zero_le _))
      unfold tmQ
      rw [spL_get num den l j hj, Bool.and_eq_true, Bool.and_eq_true, Bool.or_eq_true]
      refine ⟨decide_eq_true h1.1, decide_eq_true h2, ?_⟩
      by_cases e : j = 0
      · exact Or.inl (decide_eq_true e)
      · right
        rw [spL_get num den l (j - 1) (by omega)]
        have := tempoB_lt v (j - 1) (by omega)
        rw [show j - 1 + 1 = j by omega] at this
        exact decide_eq_true this
    · rw [spL_get num den l 0 (by have := tempoB_len v; omega)]
      exact decide_eq_true (tempoB_zero v)
theorem take_snocT (l : List S120) (i : Nat) (h : i < l.length) : l.take i ++ [l.getD i z120] = l.take (i + 1) := by
  rw [List.take_add_one, List.getElem?_eq_getElem h, List.getD_eq_getElem?_getD, List.getElem?_eq_getElem h]; rfl
theorem ext_getT (a b : List S120) (hl : a.length = b.length) (h : ∀ j, j < a.length → a.getD j z120 = b.getD j z120) : a = b := by
  refine List.ext_getElem hl fun j h1 h2 => ?_
  have := h j h1
  rwa [List.getD_eq_getElem?_getD, List.getElem?_eq_getElem h1, List.getD_eq_getElem?_getD, List.getElem?_eq_getElem h2] at this
theorem sp_bd (num t : Int) (hn : 1 ≤ num ∧ num ≤ 100) (ht : 10 ≤ t ∧ t ≤ 600) : 0 ≤ t * num ∧ t * num ≤ 60000 := by
  refine ⟨Int.mul_nonneg (by omega) (by omega), ?_⟩
  have := Int.mul_le_mul ht.2 hn.2 (by omega) (by omega : (0 : Int) ≤ 600)
  omega
theorem sSp_l0 (num den : Int) (hn : 1 ≤ num ∧ num ≤ 100) (hd : 1 ≤ den ∧ den ≤ 100) (l : List S120) (v : tempoB l = true) (d : Nat) : ∀ (i : Nat), i + d = l.length → Ev (fun k => spec_SpeedUp.l0 k l num den ((spL num den l).take i) i) (if allF (spQ num den l) l.length i = true then (spL num den l, 0) else ([], 6)) := by
  have hL := spL_len num den l
  have h16 := tempoB_len v
  induction d with
  | zero =>
    intro i hi
    refine Ev.shift ?_
    simp only [spec_SpeedUp.l0]
    rw [allF_end _ (by omega), if_pos rfl, List.take_of_length_le (by omega)]
    exact Ev.neg (by omega) (Ev.now _)
  | succ d ih =>
    intro i hi
    have h1 := sp_bd num _ hn (tempoB_get v i (by omega)).2
    have ht := take_snocT (spL num den l) i (by omega)
    rw [spL_get num den l i (by omega)] at ht
    have hk : ((spL num den l).take i).length ≤ 16 := by rw [List.length_take]; omega
    have hr := ih (i + 1) (by omega)
    have p1 : (i : Int) < (l.length : Int) := by omega
    have w3 : wrap64 ((i : Int) + 1) = ((i + 1 : Nat) : Int) := by rw [wid (by omega)]; rfl
    refine Ev.shift ?_
    simp only [spec_SpeedUp.l0, rdTM, spec_l22Tempo.f, in_eq, Option.bind_some, w3]
    rw [wid (x := (l.getD i z120).f1 * num) (by omega), specDiv _ den (by omega) (by omega)]
    refine Ev.pos p1 (Ev.pos (Int.natCast_nonneg _) ?_)
    simp only [Option.bind_some]
    cases hq : spQ num den l i with
    | true =>
      rw [allF_yes _ hq]
      refine Ev.pos hq (Ev.pos (by omega) ?_)
      rw [ht]
      exact hr
    | false =>
      rw [allF_no _ (by omega) hq, if_neg (by decide)]
      exact Ev.neg (by rw [show decide (10 ≤ dr ((l.getD i z120).f1 * num) den ∧ dr ((l.getD i z120).f1 * num) den ≤ 600) = false from hq]; decide) (Ev.now _)
theorem iSp_l0 (num den : Int) (hn : 1 ≤ num ∧ num ≤ 100) (hd : 1 ≤ den ∧ den ≤ 100) (l : List S120) (v : tempoB l = true) (d : Nat) : ∀ (i : Nat) (acc : List S120), i + d = l.length → acc.length = l.length → (∀ j, j < i → acc.getD j z120 = (spL num den l).getD j z120) → (∀ j, i ≤ j → acc.getD j z120 = l.getD j z120) → Ev (fun k => impl_SpeedUp.l0 k num den acc l (l.length : Int) i) (if allF (spQ num den l) l.length 0 = true then (spL num den l, 0) else ([], 6)) := by
  have hL := spL_len num den l
  have h16 := tempoB_len v
  induction d with
  | zero =>
    intro i acc hi ha h1 h2
    refine Ev.shift ?_
    simp only [impl_SpeedUp.l0]
    refine Ev.neg (by omega) ?_
    rw [ext_getT acc (spL num den l) (by omega) (fun j hj => h1 j (by omega))]
    refine Ev.bind (iTempo (spL num den l) (by omega)) ?_
    rw [spL_tempo num den l v]
    cases allF (spQ num den l) l.length 0 with
    | true => exact Ev.pos rfl (Ev.now _)
    | false => exact Ev.neg (by decide) (Ev.now _)
  | succ d ih =>
    intro i acc hi ha h1 h2
    have hb := sp_bd num _ hn (tempoB_get v i (by omega)).2
    have hg := h2 i (Nat.le_refl _)
    have p1 : (i : Int) < (l.length : Int) := by omega
    have p2 : (i : Int) < (acc.length : Int) := by omega
    have w3 : wrap64 ((i : Int) + 1) = ((i + 1 : Nat) : Int) := by rw [wid (by omega)]; rfl
    have hr := ih (i + 1) (acc.set i ⟨(l.getD i z120).f0, dr ((l.getD i z120).f1 * num) den⟩) (by omega) (by rw [List.length_set]; exact ha) (fun j hj => by
      rw [getDsetTempoMark acc i j _ (by omega)]
      split
      · rename_i e; subst e; rw [spL_get num den l i (by omega)]
      · exact h1 j (by omega)) (fun j hj => by
      rw [getDsetTempoMark acc i j _ (by omega), if_neg (by omega)]
      exact h2 j (by omega))
    refine Ev.shift ?_
    simp only [impl_SpeedUp.l0, rdTM, hg, w3, Int.toNat_natCast]
    rw [wid (x := (l.getD i z120).f1 * num) (by omega), implDiv _ den (by omega) (by omega)]
    exact Ev.pos p1 (Ev.pos (Int.natCast_nonneg _) (Ev.pos p1 (Ev.pos p2 hr)))
theorem speedUp (l : List S120) (a b : Int) (hl : l.length ≤ 17592186044416) : ∃ r c, r.length ≤ 16 ∧ Ev (fun k => spec_SpeedUp.f k l a b) (r, c) ∧ Ev (fun k => impl_SpeedUp.f k l a b) (r, c) := by
  unfold spec_SpeedUp.f impl_SpeedUp.f impl_TempoMark.f
  simp only [in_eq, within_eq, Option.bind_some]
  have hc := iTempo l hl
  have hs := sTempo l hl
  cases v : tempoB l with
  | false =>
    rw [v] at hc hs
    exact ⟨[], 1, by simp, Ev.bind hs (Ev.neg (by decide) (Ev.now _)), Ev.bind hc (Ev.neg (by decide) (Ev.now _))⟩
  | true =>
    rw [v] at hc hs
    have h16 := tempoB_len v
    by_cases h1 : 1 ≤ a ∧ a ≤ 100
    · by_cases h2 : 1 ≤ b ∧ b ≤ 100
      · have hS := sSp_l0 a b h1 h2 l v l.length 0 (by omega)
        have hI := iSp_l0 a b h1 h2 l v l.length 0 l (by omega) rfl (fun j hj => by omega) (fun j _ => rfl)
        have hg : Ev (fun k => spec_SpeedUp.j0 k l a b (!decide (1 ≤ b ∧ b ≤ 100))) (if allF (spQ a b l) l.length 0 = true then (spL a b l, 0) else ([], 6)) := by
          rw [decide_eq_true h2]
          refine Ev.shift ?_
          simp only [spec_SpeedUp.j0]
          exact Ev.neg (by decide) hS
        cases hq : allF (spQ a b l) l.length 0 with
        | true =>
          rw [hq, if_pos rfl] at hg hI
          refine ⟨spL a b l, 0, by rw [spL_len]; omega, Ev.bind hs (Ev.pos rfl (Ev.pos (decide_eq_true h1) hg)), Ev.bind hc (Ev.pos rfl (Ev.pos (decide_eq_true h1) (Ev.pos (decide_eq_true h2) ?_)))⟩
          rw [if_pos (by omega)]
          exact hI
        | false =>
          rw [hq, if_neg (show ¬ (false = true) by decide)] at hg hI
          refine ⟨[], 6, by simp, Ev.bind hs (Ev.pos rfl (Ev.pos (decide_eq_true h1) hg)), Ev.bind hc (Ev.pos rfl (Ev.pos (decide_eq_true h1) (Ev.pos (decide_eq_true h2) ?_)))⟩
          rw [if_pos (by omega)]
          exact hI
      · refine ⟨[], 2, by simp, Ev.bind hs (Ev.pos rfl (Ev.pos (decide_eq_true h1) ?_)), Ev.bind hc (Ev.pos rfl (Ev.pos (decide_eq_true h1) (Ev.neg (by rw [decide_eq_true_iff]; exact h2) (Ev.now _))))⟩
        rw [decide_eq_false h2]
        refine Ev.shift ?_
        simp only [spec_SpeedUp.j0]
        exact Ev.pos (by decide) (Ev.now _)
    · refine ⟨[], 2, by simp, Ev.bind hs (Ev.pos rfl (Ev.neg (by rw [decide_eq_true_iff]; exact h1) ?_)), Ev.bind hc (Ev.pos rfl (Ev.neg (by rw [decide_eq_true_iff]; exact h1) (Ev.now _)))⟩
      refine Ev.shift ?_
      simp only [spec_SpeedUp.j0]
      exact Ev.pos trivial (Ev.now _)
theorem FnExactSpeedUp : laws_FnExactSpeedUp.Pure := by
  intro l a b hm _ _
  refine Ev.rounds (g := fun k => laws_FnExactSpeedUp.f k l a b) ?_
  unfold laws_FnExactSpeedUp.f
  rw [szTempoMark l hm.1]
  simp only [Option.bind_some]
  by_cases hl : l.length ≤ 1048576
  · rw [if_pos hl]
    refine Ev.neg (by omega) ?_
    have hl' : l.length ≤ 17592186044416 := by omega
    have hc : (cpTempoMark l).length ≤ 17592186044416 := by rw [cpTempoMark_length]; exact hl'
    obtain ⟨r, c, hr0, hS, hI⟩ := speedUp (cpTempoMark l) a b hc
    have hr : r.length ≤ 17592186044416 := by omega
    obtain ⟨l', _, _, hmx⟩ := markTempoMark (cpTempoMark l) 1 (by omega) (by omega)
    obtain ⟨r', er, hg, hmk⟩ := markTempoMark r 1 (by omega) (by omega)
    have hhl := heldTempoMark 1 r' (by omega) (by omega) (fun j hj => hg j (by omega))
    rw [er] at hhl
    repeat (first | exact Ev.now _ | refine Ev.bind hS ?_ | refine Ev.bind hI ?_ | refine Ev.bind (toTempoMark l hl') ?_ | refine Ev.bind (eqTempoMark _ (by assumption)) ?_ | refine Ev.bind hmk ?_ | refine Ev.bind hmx ?_ | refine Ev.bind hhl ?_ | refine Ev.pos (by with_reducible rfl) ?_ | refine Ev.neg (by omega) ?_ | refine Ev.neg (by simp; done) ?_ | refine Ev.pos (by omega) ?_ | (refine Ev.shift ?_; simp only [laws_FnExactSpeedUp.j0, laws_FnExactSpeedUp.j1, laws_FnExactSpeedUp.j2]))
  · rw [if_neg hl]
    exact Ev.pos (by omega) (Ev.now _)

end Go.Proofs.Ytmkjjjpffakfiaa.Pure
