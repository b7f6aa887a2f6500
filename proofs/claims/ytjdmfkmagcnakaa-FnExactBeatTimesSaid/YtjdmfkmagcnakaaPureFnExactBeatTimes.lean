/- The pure statement of the law FnExactBeatTimes: what the Go functions compute, told by plain Lean functions, is what the law asks, for all arguments. No condition beyond the printed ones. -/
import Derived.Test.YtjdmfkmagcnakaaPFnExactBeatTimesxo
import Derived.Test.YtjdmfkmagcnakaaXW
namespace Go.Proofs.Ytjdmfkmagcnakaa.Pure
open Go.RowKit Go.Proofs.Ytjdmfkmagcnakaa.PFnExactBeatTimes Go.Proofs.YtjdmfkmagcnakaaW.PrintWords Go.Proofs.YtjdmfkmagcnakaaW.PrintLast Go.Proofs.YtjdmfkmagcnakaaW.PrintMore Go.Proofs.YtjdmfkmagcnakaaXW
set_option linter.unusedVariables false
set_option linter.unusedSimpArgs false
theorem eqI_l0 (l : List Int) (hl : l.length ≤ 35184372088832) (d : Nat) : ∀ (i : Nat), i + d = l.length → Ev (fun k => laws_eqInt64S.l0 k l l i) true := by
  induction d with
  | zero =>
    intro i h1
    refine Ev.shift ?_
    simp only [laws_eqInt64S.l0]
    exact Ev.neg (by omega) (Ev.now _)
  | succ d ih =>
    intro i h1
    refine Ev.shift ?_
    simp only [laws_eqInt64S.l0]
    refine Ev.pos (by omega) (Ev.pos (by omega) (Ev.pos (by omega) (Ev.pos (by trivial) ?_)))
    rw [wid (by omega)]
    exact ih (i + 1) (by omega)
theorem eqI (l : List Int) (hl : l.length ≤ 35184372088832) : Ev (fun k => laws_eqInt64S.f k l l) true := by
  unfold laws_eqInt64S.f
  exact Ev.pos rfl (eqI_l0 l hl l.length 0 (by omega))
/-- what marks leave: from m on, one by one -/
def marks (m : Int) : Nat → List Int
  | 0 => []
  | n + 1 => m :: marks (m + 1) n
theorem marks_length (n : Nat) : ∀ m, (marks m n).length = n := by
  induction n with
  | zero => intro m; rfl
  | succ n ih => intro m; simp [marks, ih]
theorem marks_get (n : Nat) : ∀ (m : Int) (i : Nat) (h : i < (marks m n).length), (marks m n)[i] = m + i := by
  induction n with
  | zero => intro m i h; simp [marks] at h
  | succ n ih =>
    intro m i h
    cases i with
    | zero => simp [marks]
    | succ i => simp only [marks, List.getElem_cons_succ]; rw [ih]; omega
theorem marks_snoc (n : Nat) : ∀ m, marks m (n + 1) = marks m n ++ [m + n] := by
  induction n with
  | zero => intro m; simp [marks]
  | succ n ih =>
    intro m
    rw [marks, ih, marks, List.cons_append]
    congr 3
    simp; omega
theorem markI_l0 (m0 : Int) (n : Nat) (h0 : 0 ≤ m0) (h1 : m0 + n ≤ 9000000000000000000) (d : Nat) : ∀ (i : Nat) (acc : List Int), i + d = n → acc.length = n → acc.take i = marks m0 i → Ev (fun k => laws_markInt64S.l0 k acc (m0 + i) i) (m0 + n, marks m0 n) := by
  induction d with
  | zero =>
    intro i acc h2 h3 h4
    refine Ev.shift ?_
    simp only [laws_markInt64S.l0]
    refine Ev.neg (by omega) (Ev.some ?_)
    rw [List.take_of_length_le (by omega)] at h4
    rw [h4, show i = n by omega]
  | succ d ih =>
    intro i acc h2 h3 h4
    refine Ev.shift ?_
    simp only [laws_markInt64S.l0]
    refine Ev.pos (by omega) (Ev.pos (by omega) ?_)
    rw [wid (x := m0 + i + 1) (by omega), wid (x := (i : Int) + 1) (by omega), Int.toNat_natCast, show m0 + (i : Int) + 1 = m0 + ((i + 1 : Nat) : Int) by omega]
    refine ih (i + 1) _ (by omega) (by rw [List.length_set, h3]) ?_
    rw [List.take_succ_eq_append_getElem (by rw [List.length_set]; omega), List.take_set_of_le (by omega), List.getElem_set_self, h4, marks_snoc]
theorem markI (l : List Int) (m : Int) (h0 : 0 ≤ m) (h1 : m + l.length ≤ 9000000000000000000) : Ev (fun k => laws_markInt64S.f k l m) (m + l.length, marks m l.length) := by
  unfold laws_markInt64S.f
  have := markI_l0 m l.length h0 h1 l.length 0 l (by omega) rfl (by simp [marks])
  simpa using this
theorem heldI_l0 (m0 : Int) (n : Nat) (h0 : 0 ≤ m0) (h1 : m0 + n ≤ 9000000000000000000) (d : Nat) : ∀ (i : Nat), i + d = n → Ev (fun k => laws_heldInt64S.l0 k (marks m0 n) (m0 + i) i) (m0 + n) := by
  induction d with
  | zero =>
    intro i h2
    refine Ev.shift ?_
    simp only [laws_heldInt64S.l0, marks_length]
    exact Ev.neg (by omega) (Ev.some (by rw [show i = n by omega]))
  | succ d ih =>
    intro i h2
    refine Ev.shift ?_
    simp only [laws_heldInt64S.l0, marks_length]
    refine Ev.pos (by omega) (Ev.pos (by omega) (Ev.pos (by rw [rd_get _ _ (by rw [marks_length]; omega), marks_get]) ?_))
    rw [wid (x := m0 + i + 1) (by omega), wid (x := (i : Int) + 1) (by omega), show m0 + (i : Int) + 1 = m0 + ((i + 1 : Nat) : Int) by omega]
    exact ih (i + 1) (by omega)
theorem heldI (n : Nat) (m : Int) (h0 : 0 ≤ m) (h1 : m + n ≤ 9000000000000000000) : Ev (fun k => laws_heldInt64S.f k (marks m n) m) (m + n) := by
  unfold laws_heldInt64S.f
  have := heldI_l0 m n h0 h1 n 0 (by omega)
  simpa using this
theorem in_eq (a b c : Int) : spec_l00In.f a b c = some (decide (b ≤ a ∧ a ≤ c)) := by
  unfold spec_l00In.f; split <;> simp_all; omega
theorem within_eq (a b c : Int) : impl_within.f a b c = some (decide (b ≤ a ∧ a ≤ c)) := by
  unfold impl_within.f; split <;> simp_all; omega
theorem mx_abs (a : Int) (h : -9223372036854775807 ≤ a ∧ a ≤ 9223372036854775807) : mx a (wrap64 (-a)) = (a.natAbs : Int) := by
  rw [wid (by omega)]; unfold mx; split <;> omega

theorem abs_i (a : Int) (h : -9223372036854775807 ≤ a ∧ a ≤ 9223372036854775807) : impl_abs.f a = some (a.natAbs : Int) := by
  unfold impl_abs.f; rw [mx_abs a h]
/-- the nearest quotient, for b > 0 -/
def dr (a b : Int) : Int := if a < 0 then -((b - 2 * a) / (2 * b)) else (2 * a + b) / (2 * b)

/-- quotients by cases of the remainder -/
theorem dr_pos (a b q r : Int) (ha : 0 ≤ a) (hb : 0 < b) (hq : a = b * q + r) (h0 : 0 ≤ r) (h1 : r < b) : dr a b = if r ≥ b - r then q + 1 else q := by
  unfold dr
  rw [if_neg (by omega)]
  split
  · rename_i h
    have e : 2 * a + b = (2 * r - b) + (2 * b) * (q + 1) := by rw [hq]; rw [Int.mul_add, Int.mul_add, Int.mul_assoc]; omega
    rw [e, Int.add_mul_ediv_left _ _ (by omega), Int.ediv_eq_zero_of_lt (by omega) (by omega)]; omega
  · rename_i h
    have e : 2 * a + b = (2 * r + b) + (2 * b) * q := by rw [hq]; rw [Int.mul_add, Int.mul_assoc]; omega
    rw [e, Int.add_mul_ediv_left _ _ (by omega), Int.ediv_eq_zero_of_lt (by omega) (by omega)]; omega
theorem dr_neg (a b : Int) (ha : a < 0) : dr a b = - dr (-a) b := by
  unfold dr
  rw [if_pos ha, if_neg (by omega), show b - 2 * a = 2 * -a + b by omega]

theorem dr_range (t : Int) (h : 10 ≤ t ∧ t ≤ 600) : 0 ≤ dr 60000 t ∧ dr 60000 t ≤ 6001 := by
  unfold dr
  rw [if_neg (by omega)]
  have h0 : 0 ≤ (2 * 60000 + t) / (2 * t) := Int.ediv_nonneg (by omega) (by omega)
  have h1 : (2 * 60000 + t) / (2 * t) < 6002 := Int.ediv_lt_of_lt_mul (by omega) (by omega)
  omega
theorem specDiv (a b : Int) (ha : -2000000000000000000 ≤ a ∧ a ≤ 2000000000000000000) (hb : 0 < b ∧ b ≤ 2000000000000000000) :
    spec_l01Div.f a b = some (dr a b) := by
  unfold spec_l01Div.f dr
  have e2b : wrap64 (2 * b) = 2 * b := wid (by omega)
  have e2a : wrap64 (2 * a) = 2 * a := wid (by omega)
  have e1 : wrap64 (b - 2 * a) = b - 2 * a := wid (by omega)
  have e3 : wrap64 (2 * a + b) = 2 * a + b := wid (by omega)
  rw [if_neg (by omega : ¬ b < 0), e2b, e2a, e1, e3]
  by_cases h : a < 0
  · rw [if_pos h, if_pos h, if_neg (by omega : ¬ 2 * b = 0)]
    rw [Int.tdiv_eq_ediv_of_nonneg (by omega)]
    have h1 : 0 ≤ (b - 2 * a) / (2 * b) := Int.ediv_nonneg (by omega) (by omega)
    have h2 : (b - 2 * a) / (2 * b) ≤ b - 2 * a := Int.ediv_le_self _ (by omega)
    rw [wid (x := (b - 2 * a) / (2 * b)) (by omega), wid (by omega)]
  · rw [if_neg h, if_neg h, if_neg (by omega : ¬ 2 * b = 0)]
    rw [Int.tdiv_eq_ediv_of_nonneg (by omega)]
    have h1 : 0 ≤ (2 * a + b) / (2 * b) := Int.ediv_nonneg (by omega) (by omega)
    have h2 : (2 * a + b) / (2 * b) ≤ 2 * a + b := Int.ediv_le_self _ (by omega)
    rw [wid (x := (2 * a + b) / (2 * b)) (by omega)]
theorem implDiv (a b : Int) (ha : -2000000000000000000 ≤ a ∧ a ≤ 2000000000000000000) (hb : 0 < b ∧ b ≤ 2000000000000000000) :
    impl_divRound.f a b = some (dr a b) := by
  unfold impl_divRound.f impl_abs.f
  have hb1 : (b.natAbs : Int) = b := by omega
  rw [if_neg (by omega : ¬ b = 0)]
  simp only [Option.bind_some]
  rw [mx_abs b (by omega), hb1]
  have hm0 : 0 ≤ (-a) % b := Int.emod_nonneg _ (by omega)
  have hm1 : (-a) % b < b := Int.emod_lt_of_pos _ (by omega)
  have hn0 : 0 ≤ a % b := Int.emod_nonneg _ (by omega)
  have hn1 : a % b < b := Int.emod_lt_of_pos _ (by omega)
  by_cases h : a < 0
  · have hd : Int.tdiv a b = - ((-a) / b) := by
      rw [show a = - (-a) by omega, Int.neg_tdiv, Int.tdiv_eq_ediv_of_nonneg (by omega)]; simp
    have hm : Int.tmod a b = - ((-a) % b) := by
      rw [show a = - (-a) by omega, Int.neg_tmod, Int.tmod_eq_emod_of_nonneg (by omega)]; simp
    have hq0 : 0 ≤ (-a) / b := Int.ediv_nonneg (by omega) (by omega)
    have hq1 : (-a) / b ≤ -a := Int.ediv_le_self _ (by omega)
    rw [hm, hd, mx_abs _ (by omega), dr_neg a b h, dr_pos (-a) b ((-a) / b) ((-a) % b) (by omega) hb.1 (by have := Int.mul_ediv_add_emod (-a) b; omega) hm0 hm1]
    rw [show ((-((-a) % b)).natAbs : Int) = (-a) % b by omega, wid (x := b - (-a) % b) (by omega), wid (x := -((-a) / b)) (by omega)]
    have e1 : decide (a < 0) = true := by simpa using h
    have e2 : decide (b < 0) = false := by simp; omega
    rw [e1, e2]
    split
    · rw [if_neg (by decide), wid (by omega)]; congr 1; omega
    · rfl
  · have hd : Int.tdiv a b = a / b := Int.tdiv_eq_ediv_of_nonneg (by omega)
    have hm : Int.tmod a b = a % b := Int.tmod_eq_emod_of_nonneg (by omega)
    have hq0 : 0 ≤ a / b := Int.ediv_nonneg (by omega) (by omega)
    have hq1 : a / b ≤ a := Int.ediv_le_self _ (by omega)
    rw [hm, hd, mx_abs _ (by omega), dr_pos a b (a / b) (a % b) (by omega) hb.1 (by have := Int.mul_ediv_add_emod a b; omega) hn0 hn1]
    rw [show ((a % b).natAbs : Int) = a % b by omega, wid (x := b - a % b) (by omega), wid (x := a / b) (by omega)]
    have e1 : decide (a < 0) = false := by simpa using h
    have e2 : decide (b < 0) = false := by simp; omega
    rw [e1, e2]
    split
    · rw [if_pos (by decide), wid (by omega)]
    · rfl
theorem takes_eq (t : Int) (h : 10 ≤ t ∧ t ≤ 600) : spec_l22Takes.f t = some (dr 60000 t) := by
  unfold spec_l22Takes.f; rw [specDiv _ _ (by omega) (by omega)]; rfl
theorem beatTime_eq (t : Int) (h : 10 ≤ t ∧ t ≤ 600) : impl_beatTime.f t = some (dr 60000 t) := by
  unfold impl_beatTime.f; rw [implDiv _ _ (by omega) (by omega)]; rfl
theorem dr_low (t : Int) (h : 10 ≤ t ∧ t ≤ 600) : 100 ≤ dr 60000 t := by
  unfold dr
  rw [if_neg (by omega)]
  exact Int.le_ediv_of_mul_le (by omega) (by omega)
def cpTempoMark (l : List S74) : List S72 := l.map fun x => ⟨x.f0, x.f1⟩
theorem toTempoMark_l0 (l : List S74) (hl : l.length ≤ 17592186044416) (d : Nat) : ∀ (i : Nat) (acc : List S72), i + d = l.length → acc.length = l.length → acc.take i = (cpTempoMark l).take i → Ev (fun k => laws_toTempoMarkS.l0 k l acc i) (cpTempoMark l) := by
  have hc : (cpTempoMark l).length = l.length := List.length_map _
  induction d with
  | zero =>
    intro i acc h1 h2 h3
    refine Ev.shift ?_
    simp only [laws_toTempoMarkS.l0]
    refine Ev.neg (by omega) (Ev.some ?_)
    rw [List.take_of_length_le (by omega), List.take_of_length_le (by omega)] at h3
    rw [h3]
  | succ d ih =>
    intro i acc h1 h2 h3
    refine Ev.shift ?_
    simp only [laws_toTempoMarkS.l0, laws_toTempoMark.f, Option.bind_some]
    refine Ev.pos (by omega) (Ev.pos (by omega) (Ev.pos (by omega) ?_))
    rw [wid (by omega), Int.toNat_natCast]
    refine ih (i + 1) _ (by omega) (by rw [List.length_set, h2]) ?_
    rw [List.take_succ_eq_append_getElem (by rw [List.length_set]; omega), List.take_succ_eq_append_getElem (by omega), List.take_set_of_le (by omega), List.getElem_set_self, h3]
    have e : rd_T74 l (i : Int) = l[i] := by
      unfold rd_T74
      rw [Int.toNat_natCast, List.getD_eq_getElem?_getD, List.getElem?_eq_getElem (by omega), Option.getD_some]
    simp only [cpTempoMark, List.getElem_map, e]
theorem toTempoMark (l : List S74) (hl : l.length ≤ 17592186044416) : Ev (fun k => laws_toTempoMarkS.f k l) (cpTempoMark l) := by
  unfold laws_toTempoMarkS.f
  refine Ev.pos (by omega) (Ev.pos (by omega) ?_)
  rw [Int.toNat_natCast]
  exact toTempoMark_l0 l hl l.length 0 _ (by omega) (by simp) (by simp)
theorem cpTempoMark_length (l : List S74) : (cpTempoMark l).length = l.length := List.length_map _
theorem eqTempoMark_l0 (l : List S72) (hl : l.length ≤ 17592186044416) (d : Nat) : ∀ (i : Nat), i + d = l.length → Ev (fun k => laws_eqTempoMarkS.l0 k l l i) true := by
  induction d with
  | zero =>
    intro i h1
    refine Ev.shift ?_
    simp only [laws_eqTempoMarkS.l0]
    exact Ev.neg (by omega) (Ev.now _)
  | succ d ih =>
    intro i h1
    refine Ev.shift ?_
    simp only [laws_eqTempoMarkS.l0, laws_eqTempoMark.f, Option.bind_some, if_true]
    refine Ev.pos (by omega) (Ev.pos (by omega) (Ev.pos (by omega) ?_))
    rw [wid (by omega)]
    exact ih (i + 1) (by omega)
theorem eqTempoMark (l : List S72) (hl : l.length ≤ 17592186044416) : Ev (fun k => laws_eqTempoMarkS.f k l l) true := by
  unfold laws_eqTempoMarkS.f
  exact Ev.pos rfl (eqTempoMark_l0 l hl l.length 0 (by omega))
theorem szTempoMark (l : List S74) (hl : l.length ≤ maxLen) : laws_szTempoMarkS.f l 1048576 = some (if l.length ≤ 1048576 then 1048576 - (l.length : Int) else -1) := by
  unfold laws_szTempoMarkS.f
  unfold maxLen at hl
  rw [wid (by omega)]
  by_cases h : l.length ≤ 1048576
  · rw [if_neg (by omega), if_pos h]
  · rw [if_pos (by omega), if_neg h]
def tmQ (l : List S72) (j : Nat) : Bool := decide (0 ≤ (l.getD j z72).f0 ∧ (l.getD j z72).f0 ≤ 2000) && (decide (10 ≤ (l.getD j z72).f1 ∧ (l.getD j z72).f1 ≤ 600) && (decide (j = 0) || decide ((l.getD (j - 1) z72).f0 < (l.getD j z72).f0)))
def tempoB (l : List S72) : Bool := allF (tmQ l) l.length 0 && (decide (1 ≤ l.length ∧ l.length ≤ 16) && decide ((l.getD 0 z72).f0 = 0))
theorem rdTM (l : List S72) (i : Nat) : rd_T72 l (i : Int) = l.getD i z72 := by
  unfold rd_T72; rw [Int.toNat_natCast]
theorem sTempo_l0 (l : List S72) (hl : l.length ≤ 17592186044416) (d : Nat) : ∀ (i : Nat), i + d = l.length → Ev (fun k => spec_l22Ok.l0 k l i) (allF (tmQ l) l.length i && (decide (1 ≤ l.length ∧ l.length ≤ 16) && decide ((l.getD 0 z72).f0 = 0))) := by
  induction d with
  | zero =>
    intro i h1
    refine Ev.shift ?_
    simp only [spec_l22Ok.l0]
    refine Ev.neg (by omega) ?_
    rw [allF_end _ (by omega), Bool.true_and]
    by_cases h2 : 1 ≤ l.length
    · refine Ev.pos (by omega) ?_
      by_cases h3 : l.length ≤ 16
      · refine Ev.pos (by omega) (Ev.pos (by omega) (Ev.some ?_))
        have e := rdTM l 0
        simp only [Int.natCast_zero] at e
        rw [e]
        simp only [h2, h3, and_self, decide_true, Bool.true_and]
        rfl
      · refine Ev.neg (by omega) (Ev.some ?_)
        simp [h3]
    · refine Ev.neg (by omega) (Ev.some ?_)
      simp [h2]
  | succ d ih =>
    intro i h1
    refine Ev.shift ?_
    simp only [spec_l22Ok.l0, spec_l22Beat.f, spec_l22Tempo.f, in_eq, Option.bind_some]
    refine Ev.pos (by omega) (Ev.pos (by omega) ?_)
    rw [rdTM]
    by_cases hb : 0 ≤ (l.getD i z72).f0 ∧ (l.getD i z72).f0 ≤ 2000
    · refine Ev.pos (decide_eq_true hb) ?_
      by_cases ht : 10 ≤ (l.getD i z72).f1 ∧ (l.getD i z72).f1 ≤ 600
      · refine Ev.pos (decide_eq_true ht) ?_
        cases i with
        | zero =>
          refine Ev.neg (by omega) ?_
          rw [wid (by omega), allF_yes _ (by simp only [tmQ, decide_eq_true hb, decide_eq_true ht]; rfl)]
          exact ih 1 (by omega)
        | succ i =>
          refine Ev.pos (by omega) ?_
          have e1 : wrap64 (((i + 1 : Nat) : Int) - 1) = (i : Int) := by rw [wid (by omega)]; omega
          rw [e1, rdTM]
          refine Ev.pos (by omega) (Ev.pos (by omega) ?_)
          by_cases hc : (l.getD i z72).f0 < (l.getD (i + 1) z72).f0
          · refine Ev.neg (by omega) ?_
            rw [wid (by omega), allF_yes _ (by simp only [tmQ, decide_eq_true hb, decide_eq_true ht, Nat.add_sub_cancel, decide_eq_true hc]; simp)]
            exact ih (i + 2) (by omega)
          · refine Ev.pos (by omega) (Ev.some ?_)
            rw [allF_no _ (by omega) (by simp only [tmQ, Nat.add_sub_cancel, decide_eq_false hc]; simp), Bool.false_and]
      · refine Ev.neg (by simpa using ht) (Ev.some ?_)
        rw [allF_no _ (by omega) (by simp only [tmQ, decide_eq_false ht]; simp), Bool.false_and]
    · refine Ev.neg (by simpa using hb) (Ev.some ?_)
      rw [allF_no _ (by omega) (by simp only [tmQ, decide_eq_false hb]; simp), Bool.false_and]
theorem sTempo (l : List S72) (hl : l.length ≤ 17592186044416) : Ev (fun k => spec_l22Ok.f k l) (tempoB l) := by
  unfold spec_l22Ok.f tempoB
  exact sTempo_l0 l hl l.length 0 (by omega)
theorem tempoB_len {l : List S72} (h : tempoB l = true) : 1 ≤ l.length ∧ l.length ≤ 16 := by
  unfold tempoB at h; simp only [Bool.and_eq_true] at h; exact of_decide_eq_true h.2.1
theorem tempoB_zero {l : List S72} (h : tempoB l = true) : (l.getD 0 z72).f0 = 0 := by
  unfold tempoB at h; simp only [Bool.and_eq_true] at h; exact of_decide_eq_true h.2.2
theorem tempoB_get {l : List S72} (h : tempoB l = true) (j : Nat) (hj : j < l.length) : (0 ≤ (l.getD j z72).f0 ∧ (l.getD j z72).f0 ≤ 2000) ∧ 10 ≤ (l.getD j z72).f1 ∧ (l.getD j z72).f1 ≤ 600 := by
  unfold tempoB at h; simp only [Bool.and_eq_true] at h
  have := (allF_iff _).1 h.1 j hj (Nat.zero_le _)
  simp only [tmQ, Bool.and_eq_true] at this
  exact ⟨of_decide_eq_true this.1, of_decide_eq_true this.2.1⟩
theorem tempoB_lt {l : List S72} (h : tempoB l = true) (j : Nat) (hj : j + 1 < l.length) : (l.getD j z72).f0 < (l.getD (j + 1) z72).f0 := by
  unfold tempoB at h; simp only [Bool.and_eq_true] at h
  have := (allF_iff _).1 h.1 (j + 1) hj (Nat.zero_le _)
  simp only [tmQ, Bool.and_eq_true, Bool.or_eq_true, Nat.add_sub_cancel] at this
  rcases this.2.2 with e | e
  · exact absurd (of_decide_eq_true e) (by omega)
  · exact of_decide_eq_true e
theorem iTempo_l0 (l : List S72) (hl : l.length ≤ 17592186044416) (h0 : (l.getD 0 z72).f0 = 0) (d : Nat) : ∀ (i : Nat), i + d = l.length → (0 < i → 0 ≤ (l.getD (i - 1) z72).f0) → Ev (fun k => impl_ValidTempo.l0 k l l l.length i) (allF (tmQ l) l.length i) := by
  induction d with
  | zero =>
    intro i h1 _
    refine Ev.shift ?_
    simp only [impl_ValidTempo.l0]
    refine Ev.neg (by omega) (Ev.some ?_)
    rw [allF_end _ (by omega)]
  | succ d ih =>
    intro i h1 hp
    refine Ev.shift ?_
    simp only [impl_ValidTempo.l0, impl_tempoOk.f, within_eq, Option.bind_some]
    refine Ev.pos (by omega) (Ev.pos (by omega) (Ev.pos (by omega) ?_))
    rw [rdTM]
    by_cases ht : 10 ≤ (l.getD i z72).f1 ∧ (l.getD i z72).f1 ≤ 600
    · refine Ev.pos (decide_eq_true ht) ?_
      by_cases hb : (l.getD i z72).f0 > 2000
      · refine Ev.pos hb (Ev.some ?_)
        rw [allF_no _ (by omega) (by simp only [tmQ, decide_eq_false (show ¬ (0 ≤ (l.getD i z72).f0 ∧ (l.getD i z72).f0 ≤ 2000) by omega)]; simp)]
      · refine Ev.neg hb ?_
        cases i with
        | zero =>
          refine Ev.neg (by omega) ?_
          rw [wid (by omega), allF_yes _ (by simp only [tmQ, decide_eq_true (show 0 ≤ (l.getD 0 z72).f0 ∧ (l.getD 0 z72).f0 ≤ 2000 by omega), decide_eq_true ht]; rfl)]
          exact ih 1 (by omega) (fun _ => by simp only [Nat.sub_self]; omega)
        | succ i =>
          refine Ev.pos (by omega) ?_
          have e1 : wrap64 (((i + 1 : Nat) : Int) - 1) = (i : Int) := by rw [wid (by omega)]; omega
          rw [e1, rdTM]
          refine Ev.pos (by omega) (Ev.pos (by omega) ?_)
          have hq := hp (by omega)
          rw [Nat.add_sub_cancel] at hq
          by_cases hc : (l.getD i z72).f0 < (l.getD (i + 1) z72).f0
          · refine Ev.neg (by omega) ?_
            rw [wid (by omega), allF_yes _ (by simp only [tmQ, decide_eq_true (show 0 ≤ (l.getD (i + 1) z72).f0 ∧ (l.getD (i + 1) z72).f0 ≤ 2000 by omega), decide_eq_true ht, Nat.add_sub_cancel, decide_eq_true hc]; simp)]
            exact ih (i + 2) (by omega) (fun _ => by show 0 ≤ (l.getD (i + 1) z72).f0; omega)
          · refine Ev.pos (by omega) (Ev.some ?_)
            rw [allF_no _ (by omega) (by simp only [tmQ, Nat.add_sub_cancel, decide_eq_false hc]; simp)]
    · refine Ev.neg (by simpa using ht) (Ev.some ?_)
      rw [allF_no _ (by omega) (by simp only [tmQ, decide_eq_false ht]; simp)]
theorem iTempo (l : List S72) (hl : l.length ≤ 17592186044416) : Ev (fun k => impl_ValidTempo.f k l) (tempoB l) := by
  unfold impl_ValidTempo.f tempoB
  by_cases h1 : (l.length : Int) < 1
  · refine Ev.pos h1 (Ev.shift ?_)
    simp only [impl_ValidTempo.j0]
    refine Ev.some ?_
    simp [show ¬ (1 ≤ l.length) by omega]
  refine Ev.neg h1 ?_
  by_cases h2 : (l.length : Int) > 16
  · refine Ev.pos h2 (Ev.shift ?_)
    simp only [impl_ValidTempo.j0]
    refine Ev.some ?_
    simp [show ¬ (l.length ≤ 16) by omega]
  refine Ev.neg h2 (Ev.pos (by omega) (Ev.shift ?_))
  simp only [impl_ValidTempo.j0]
  have e := rdTM l 0
  simp only [Int.natCast_zero] at e
  rw [e]
  by_cases h0 : (l.getD 0 z72).f0 = 0
  · refine Ev.neg (by rw [h0]; decide) ?_
    rw [decide_eq_true h0, decide_eq_true (show 1 ≤ l.length ∧ l.length ≤ 16 by omega), Bool.and_true, Bool.and_true]
    exact iTempo_l0 l hl h0 l.length 0 (by omega) (by omega)
  · refine Ev.pos (by simpa using h0) (Ev.some ?_)
    rw [decide_eq_false h0, Bool.and_false, Bool.and_false]
/-- the value of a line -/
def lineV (x0 y0 x1 y1 x : Int) : Int := if x ≤ x0 ∨ x1 ≤ x0 then y0 else if x ≥ x1 then y1 else y0 + dr ((y1 - y0) * (x - x0)) (x1 - x0)
theorem dr_le (a b m : Int) (ha : 0 ≤ a) (hb : 0 < b) (hm : a ≤ b * m) : 0 ≤ dr a b ∧ dr a b ≤ m := by
  unfold dr
  rw [if_neg (by omega)]
  refine ⟨Int.ediv_nonneg (by omega) (by omega), ?_⟩
  have h1 : (2 * a + b) / (2 * b) < m + 1 := by
    refine Int.ediv_lt_of_lt_mul (by omega) ?_
    have e : (m + 1) * (2 * b) = 2 * (b * m) + 2 * b := by grind
    omega
  omega
theorem lineV_range (x0 y0 x1 y1 x lo hi : Int) (h0 : lo ≤ y0 ∧ y0 ≤ hi) (h1 : lo ≤ y1 ∧ y1 ≤ hi) : lo ≤ lineV x0 y0 x1 y1 x ∧ lineV x0 y0 x1 y1 x ≤ hi := by
  unfold lineV
  split
  · exact h0
  · rename_i c
    split
    · exact h1
    · rename_i c2
      have hx : 0 < x - x0 ∧ x - x0 ≤ x1 - x0 := by omega
      by_cases hy : y0 ≤ y1
      · have a0 : 0 ≤ (y1 - y0) * (x - x0) := Int.mul_nonneg (by omega) (by omega)
        have a1 : (y1 - y0) * (x - x0) ≤ (x1 - x0) * (y1 - y0) := by rw [Int.mul_comm (x1 - x0)]; exact Int.mul_le_mul_of_nonneg_left hx.2 (by omega)
        have := dr_le _ _ _ a0 (by omega) a1
        omega
      · have a0 : 0 ≤ (y0 - y1) * (x - x0) := Int.mul_nonneg (by omega) (by omega)
        have a1 : (y0 - y1) * (x - x0) ≤ (x1 - x0) * (y0 - y1) := by rw [Int.mul_comm (x1 - x0)]; exact Int.mul_le_mul_of_nonneg_left hx.2 (by omega)
        have h2 := dr_le _ _ _ a0 (by omega) a1
        have e : (y1 - y0) * (x - x0) = -((y0 - y1) * (x - x0)) := by grind
        by_cases hz : (y0 - y1) * (x - x0) = 0
        · rw [e, hz]
          have h4 := dr_le 0 (x1 - x0) 0 (by omega) (by omega) (by omega)
          rw [show (-0 : Int) = 0 from rfl]
          omega
        · have h3 := dr_neg ((y1 - y0) * (x - x0)) (x1 - x0) (by omega)
          rw [e, Int.neg_neg] at h3
          rw [e, h3]
          omega
theorem line_ev (x0 y0 x1 y1 x : Int) (b0 : -1000000 ≤ x0 ∧ x0 ≤ 1000000) (b1 : -1000000 ≤ x1 ∧ x1 ≤ 1000000) (b2 : -1000000 ≤ y0 ∧ y0 ≤ 1000000) (b3 : -1000000 ≤ y1 ∧ y1 ≤ 1000000) : Ev (fun k => spec_l01Line.f k x0 y0 x1 y1 x) (lineV x0 y0 x1 y1 x) ∧ Ev (fun k => impl_blend.f k x0 y0 x1 y1 x) (lineV x0 y0 x1 y1 x) := by
  unfold spec_l01Line.f impl_blend.f
  have hr := lineV_range x0 y0 x1 y1 x (-1000000) 1000000 b2 b3
  by_cases c1 : x ≤ x0
  · have e : lineV x0 y0 x1 y1 x = y0 := by unfold lineV; rw [if_pos (Or.inl c1)]
    rw [e]
    constructor
    · refine Ev.pos c1 (Ev.shift ?_)
      simp only [spec_l01Line.j0]; exact Ev.now _
    · refine Ev.pos c1 (Ev.shift ?_)
      simp only [impl_blend.j0]; exact Ev.now _
  by_cases c2 : x1 ≤ x0
  · have e : lineV x0 y0 x1 y1 x = y0 := by unfold lineV; rw [if_pos (Or.inr c2)]
    rw [e]
    constructor
    · refine Ev.neg c1 (Ev.shift ?_)
      simp only [spec_l01Line.j0]; exact Ev.pos (decide_eq_true c2) (Ev.now _)
    · refine Ev.neg c1 (Ev.shift ?_)
      simp only [impl_blend.j0]; exact Ev.pos (decide_eq_true c2) (Ev.now _)
  by_cases c3 : x ≥ x1
  · have e : lineV x0 y0 x1 y1 x = y1 := by unfold lineV; rw [if_neg (by omega), if_pos c3]
    rw [e]
    constructor
    · refine Ev.neg c1 (Ev.shift ?_)
      simp only [spec_l01Line.j0]; exact Ev.neg (by simpa using c2) (Ev.pos c3 (Ev.now _))
    · refine Ev.neg c1 (Ev.shift ?_)
      simp only [impl_blend.j0]; exact Ev.neg (by simpa using c2) (Ev.pos c3 (Ev.now _))
  have e : lineV x0 y0 x1 y1 x = y0 + dr ((y1 - y0) * (x - x0)) (x1 - x0) := by unfold lineV; rw [if_neg (by omega), if_neg c3]
  have w1 : wrap64 (y1 - y0) = y1 - y0 := wid (by omega)
  have w2 : wrap64 (x - x0) = x - x0 := wid (by omega)
  have w3 : wrap64 (x1 - x0) = x1 - x0 := wid (by omega)
  have m1 : (y1 - y0) * (x - x0) ≤ 2000000 * 2000000 := by
    by_cases hy : 0 ≤ y1 - y0
    · exact Int.mul_le_mul (by omega) (by omega) (by omega) (by omega)
    · have := Int.mul_nonneg (show 0 ≤ y0 - y1 by omega) (show 0 ≤ x - x0 by omega)
      have e2 : (y1 - y0) * (x - x0) = -((y0 - y1) * (x - x0)) := by grind
      omega
  have m2 : -(2000000 * 2000000) ≤ (y1 - y0) * (x - x0) := by
    have e2 : (y1 - y0) * (x - x0) = -((y0 - y1) * (x - x0)) := by grind
    by_cases hy : 0 ≤ y0 - y1
    · have : (y0 - y1) * (x - x0) ≤ 2000000 * 2000000 := Int.mul_le_mul (by omega) (by omega) (by omega) (by omega)
      omega
    · have := Int.mul_nonneg (show 0 ≤ y1 - y0 by omega) (show 0 ≤ x - x0 by omega)
      omega
  have w4 : wrap64 ((y1 - y0) * (x - x0)) = (y1 - y0) * (x - x0) := wid (by omega)
  rw [e] at hr
  have w5 : wrap64 (y0 + dr ((y1 - y0) * (x - x0)) (x1 - x0)) = y0 + dr ((y1 - y0) * (x - x0)) (x1 - x0) := wid (by omega)
  rw [e]
  constructor
  · refine Ev.neg c1 (Ev.shift ?_)
    simp only [spec_l01Line.j0, w1, w2, w3, w4, specDiv _ (x1 - x0) (show -2000000000000000000 ≤ (y1 - y0) * (x - x0) ∧ (y1 - y0) * (x - x0) ≤ 2000000000000000000 by omega) (by omega), Option.bind_some, w5]
    exact Ev.neg (by simpa using c2) (Ev.neg c3 (Ev.now _))
  · refine Ev.neg c1 (Ev.shift ?_)
    simp only [impl_blend.j0, w1, w2, w3, w4, implDiv _ (x1 - x0) (show -2000000000000000000 ≤ (y1 - y0) * (x - x0) ∧ (y1 - y0) * (x - x0) ≤ 2000000000000000000 by omega) (by omega), Option.bind_some, w5]
    exact Ev.neg (by simpa using c2) (Ev.neg c3 (Ev.now _))
/-- the tempo of a beat -/
def atV (beat : Int) : List S72 → Int
  | [] => 0
  | [a] => a.f1
  | a :: b :: l => if beat < b.f0 then lineV a.f0 a.f1 b.f0 b.f1 beat else atV beat (b :: l)
theorem drop_consT (l : List S72) (i : Nat) (h : i < l.length) : l.drop i = l.getD i z72 :: l.drop (i + 1) := by
  rw [List.drop_eq_getElem_cons h, List.getD_eq_getElem?_getD, List.getElem?_eq_getElem h, Option.getD_some]
theorem atV_range (beat : Int) (l : List S72) (h : ∀ x ∈ l, 10 ≤ x.f1 ∧ x.f1 ≤ 600) (hn : l ≠ []) : 10 ≤ atV beat l ∧ atV beat l ≤ 600 := by
  induction l with
  | nil => exact absurd rfl hn
  | cons a l ih =>
    cases l with
    | nil => exact h a (by simp)
    | cons b l =>
      rw [atV]
      split
      · exact lineV_range _ _ _ _ _ _ _ (h a (by simp)) (h b (by simp))
      · exact ih (fun x hx => h x (by simp only [List.mem_cons] at hx ⊢; exact Or.inr hx)) (by simp)
theorem tempoB_mem {l : List S72} (h : tempoB l = true) : ∀ x ∈ l, 10 ≤ x.f1 ∧ x.f1 ≤ 600 := by
  intro x hx
  obtain ⟨j, hj, rfl⟩ := List.getElem_of_mem hx
  have := (tempoB_get h j hj).2
  rwa [List.getD_eq_getElem?_getD, List.getElem?_eq_getElem hj, Option.getD_some] at this
theorem atV_tempo {l : List S72} (h : tempoB l = true) (beat : Int) : 10 ≤ atV beat l ∧ atV beat l ≤ 600 :=
  atV_range beat l (tempoB_mem h) (by intro e; have := tempoB_len h; rw [e] at this; simp at this)
theorem sAt_l0 (l : List S72) (v : tempoB l = true) (beat : Int) (d : Nat) : ∀ (i : Nat), i + 1 + d = l.length → Ev (fun k => spec_l22At.l0 k l beat ((i + 1 : Nat) : Int)) (atV beat (l.drop i)) := by
  have hl := tempoB_len v
  induction d with
  | zero =>
    intro i h1
    refine Ev.shift ?_
    simp only [spec_l22At.l0]
    refine Ev.neg (by omega) ?_
    rw [wid (by omega), show (l.length : Int) - 1 = (i : Int) by omega]
    refine Ev.pos (by omega) (Ev.pos (by omega) (Ev.some ?_))
    rw [drop_consT l i (by omega), List.drop_of_length_le (by omega), atV, rdTM]
  | succ d ih =>
    intro i h1
    refine Ev.shift ?_
    simp only [spec_l22At.l0]
    rw [show wrap64 (((i + 1 : Nat) : Int) - 1) = (i : Int) by rw [wid (by omega)]; omega, rdTM, rdTM, wid (x := ((i + 1 : Nat) : Int) + 1) (by omega)]
    refine Ev.pos (by omega) (Ev.pos (by omega) (Ev.pos (by omega) (Ev.pos (by omega) ?_)))
    have g1 := tempoB_get v i (by omega)
    have g2 := tempoB_get v (i + 1) (by omega)
    rw [drop_consT l i (by omega), drop_consT l (i + 1) (by omega), atV, ← drop_consT l (i + 1) (by omega)]
    by_cases c : beat < (l.getD (i + 1) z72).f0
    · rw [if_pos c]
      exact Ev.pos c (Ev.bind (line_ev _ _ _ _ _ (by omega) (by omega) (by omega) (by omega)).1 (Ev.now _))
    · rw [if_neg c]
      exact Ev.neg c (ih (i + 1) (by omega))
theorem sAt (l : List S72) (v : tempoB l = true) (beat : Int) : Ev (fun k => spec_l22At.f k l beat) (atV beat l) := by
  have hl := tempoB_len v
  unfold spec_l22At.f
  exact sAt_l0 l v beat (l.length - 1) 0 (by omega)
theorem iAt_l0 (l : List S72) (v : tempoB l = true) (beat : Int) (d : Nat) : ∀ (i : Nat), i + 1 + d = l.length → Ev (fun k => impl_tempoAt.l0 k l beat i) (atV beat (l.drop i)) := by
  have hl := tempoB_len v
  induction d with
  | zero =>
    intro i h1
    refine Ev.shift ?_
    simp only [impl_tempoAt.l0]
    rw [wid (x := (l.length : Int) - 1) (by omega), show (l.length : Int) - 1 = (i : Int) by omega, rdTM]
    refine Ev.neg (by omega) (Ev.pos rfl (Ev.pos (by omega) (Ev.pos (by omega) (Ev.some ?_))))
    rw [drop_consT l i (by omega), List.drop_of_length_le (by omega), atV]
  | succ d ih =>
    intro i h1
    refine Ev.shift ?_
    simp only [impl_tempoAt.l0]
    rw [wid (x := (l.length : Int) - 1) (by omega), show wrap64 ((i : Int) + 1) = ((i + 1 : Nat) : Int) by rw [wid (by omega)]; rfl, rdTM, rdTM]
    refine Ev.pos (by omega) (Ev.pos (by omega) (Ev.pos (by omega) ?_))
    have g1 := tempoB_get v i (by omega)
    have g2 := tempoB_get v (i + 1) (by omega)
    rw [drop_consT l i (by omega), drop_consT l (i + 1) (by omega), atV, ← drop_consT l (i + 1) (by omega)]
    by_cases c : beat < (l.getD (i + 1) z72).f0
    · rw [if_pos c]
      exact Ev.neg (by omega) (Ev.neg (by omega) (Ev.pos (by omega) (Ev.pos (by omega) (Ev.bind (line_ev _ _ _ _ _ (by omega) (by omega) (by omega) (by omega)).2 (Ev.now _)))))
    · rw [if_neg c]
      exact Ev.pos (by omega) (ih (i + 1) (by omega))
theorem iAt (l : List S72) (v : tempoB l = true) (beat : Int) : Ev (fun k => impl_tempoAt.f k l beat) (atV beat l) := by
  have hl := tempoB_len v
  unfold impl_tempoAt.f
  exact iAt_l0 l v beat (l.length - 1) 0 (by omega)
def tCode (l : List S72) (a b : Int) : Int := if tempoB l = true then (if 0 ≤ a ∧ a ≤ 2000 ∧ a ≤ b ∧ b ≤ 2000 then 0 else 2) else 1
theorem iCode (l : List S72) (a b : Int) (hl : l.length ≤ 17592186044416) : Ev (fun k => impl_tempoCode.f k l a b) (tCode l a b) := by
  unfold impl_tempoCode.f tCode
  simp only [within_eq, Option.bind_some]
  refine Ev.bind (iTempo l hl) ?_
  cases tempoB l with
  | false => simp only [Bool.false_eq_true, if_false]; exact Ev.now _
  | true =>
    simp only [if_true]
    by_cases h1 : 0 ≤ a ∧ a ≤ 2000
    · refine Ev.pos (decide_eq_true h1) ?_
      by_cases h2 : a ≤ b ∧ b ≤ 2000
      · rw [if_pos (show 0 ≤ a ∧ a ≤ 2000 ∧ a ≤ b ∧ b ≤ 2000 from ⟨h1.1, h1.2, h2.1, h2.2⟩)]; exact Ev.pos (decide_eq_true h2) (Ev.now _)
      · rw [if_neg (show ¬ (0 ≤ a ∧ a ≤ 2000 ∧ a ≤ b ∧ b ≤ 2000) by omega)]; exact Ev.neg (by rw [decide_eq_true_iff]; exact h2) (Ev.now _)
    · rw [if_neg (show ¬ (0 ≤ a ∧ a ≤ 2000 ∧ a ≤ b ∧ b ≤ 2000) by omega)]; exact Ev.neg (by rw [decide_eq_true_iff]; exact h1) (Ev.now _)
/-- the time of a beat -/
def timeV (l : List S72) : Nat → Int
  | 0 => 0
  | n + 1 => timeV l n + dr 60000 (atV (n : Int) l)
theorem timeV_step (l : List S72) (v : tempoB l = true) (n : Nat) : timeV l n ≤ timeV l (n + 1) ∧ timeV l (n + 1) ≤ timeV l n + 6001 := by
  have hr := dr_range _ (atV_tempo v (n : Int))
  have e : timeV l (n + 1) = timeV l n + dr 60000 (atV (n : Int) l) := rfl
  omega
theorem timeV_bd (l : List S72) (v : tempoB l = true) (n : Nat) : 0 ≤ timeV l n ∧ timeV l n ≤ 6001 * (n : Int) := by
  induction n with
  | zero => exact ⟨Int.le_refl _, Int.le_refl _⟩
  | succ n ih =>
    have := timeV_step l v n
    omega
theorem timeV_mono (l : List S72) (v : tempoB l = true) (i d : Nat) : timeV l i ≤ timeV l (i + d) := by
  induction d with
  | zero => exact Int.le_refl _
  | succ d ih => exact Int.le_trans ih (timeV_step l v (i + d)).1
theorem sTime_l0 (l : List S72) (v : tempoB l = true) (n : Nat) (hn : n ≤ 2000) (d : Nat) : ∀ (i : Nat), i + d = n → Ev (fun k => spec_l22Time.l0 k l (n : Int) (timeV l i) (i : Int)) (timeV l n) := by
  induction d with
  | zero =>
    intro i hi
    obtain rfl : i = n := by omega
    refine Ev.shift ?_
    simp only [spec_l22Time.l0]
    exact Ev.neg (by omega) (Ev.now _)
  | succ d ih =>
    intro i hi
    have hb := timeV_bd l v i
    have hr := dr_range _ (atV_tempo v (i : Int))
    refine Ev.shift ?_
    simp only [spec_l22Time.l0]
    refine Ev.pos (by omega) ?_
    refine Ev.bind (sAt l v i) ?_
    have e1 : wrap64 (timeV l i + dr 60000 (atV (i : Int) l)) = timeV l (i + 1) := by rw [wid (by omega)]; rfl
    have e2 : wrap64 ((i : Int) + 1) = ((i + 1 : Nat) : Int) := by rw [wid (by omega)]; rfl
    simp only [takes_eq _ (atV_tempo v (i : Int)), Option.bind_some, e1, e2]
    exact ih (i + 1) (by omega)
theorem sTime (l : List S72) (v : tempoB l = true) (n : Nat) (hn : n ≤ 2000) : Ev (fun k => spec_l22Time.f k l (n : Int)) (timeV l n) :=
  sTime_l0 l v n hn n 0 (by omega)
def timesL (l : List S72) (n : Nat) : List Int := (List.range (n + 1)).map (timeV l)
theorem timesL_len (l : List S72) (n : Nat) : (timesL l n).length = n + 1 := by simp [timesL]
theorem timesL_succ (l : List S72) (n : Nat) : timesL l (n + 1) = timesL l n ++ [timeV l (n + 1)] := by
  unfold timesL
  rw [List.range_succ (n := n + 1), List.map_append]
  rfl
theorem rd_timesL (l : List S72) (n j : Nat) (h : j ≤ n) : rd (timesL l n) (j : Int) = timeV l j := by
  rw [rd_nat]
  simp [timesL, List.getD_eq_getElem?_getD, show j < n + 1 by omega]
theorem iTimes_l0 (l : List S72) (v : tempoB l = true) (n : Nat) (hn : n ≤ 2000) (d : Nat) : ∀ (i : Nat), i + d = n → Ev (fun k => impl_timesUpTo.l0 k l (timesL l i) (n : Int) (i : Int)) (timesL l n) := by
  induction d with
  | zero =>
    intro i hi
    obtain rfl : i = n := by omega
    refine Ev.shift ?_
    simp only [impl_timesUpTo.l0]
    exact Ev.neg (by omega) (Ev.now _)
  | succ d ih =>
    intro i hi
    have hb := timeV_bd l v i
    have hr := dr_range _ (atV_tempo v (i : Int))
    have hlen := timesL_len l i
    refine Ev.shift ?_
    simp only [impl_timesUpTo.l0]
    refine Ev.pos (by omega) ?_
    refine Ev.pos (by omega) ?_
    refine Ev.pos (by omega) ?_
    refine Ev.bind (iAt l v i) ?_
    simp only [beatTime_eq _ (atV_tempo v (i : Int)), Option.bind_some]
    refine Ev.pos (by omega) ?_
    have e1 : wrap64 (rd (timesL l i) (i : Int) + dr 60000 (atV (i : Int) l)) = timeV l (i + 1) := by rw [rd_timesL l i i (Nat.le_refl _), wid (by omega)]; rfl
    have e2 : wrap64 ((i : Int) + 1) = ((i + 1 : Nat) : Int) := by rw [wid (by omega)]; rfl
    simp only [e1, e2, ← timesL_succ]
    exact ih (i + 1) (by omega)
theorem iTimes (l : List S72) (v : tempoB l = true) (n : Nat) (hn : n ≤ 2000) : Ev (fun k => impl_timesUpTo.f k l (n : Int)) (timesL l n) :=
  iTimes_l0 l v n hn n 0 (by omega)
theorem timeV_lt (l : List S72) (v : tempoB l = true) (i j : Nat) (h : i < j) : timeV l i < timeV l j := by
  obtain ⟨d, rfl⟩ : ∃ d, j = i + d + 1 := ⟨j - i - 1, by omega⟩
  have h1 := timeV_mono l v i d
  have h2 := dr_low _ (atV_tempo v ((i + d : Nat) : Int))
  have e : timeV l (i + d + 1) = timeV l (i + d) + dr 60000 (atV ((i + d : Nat) : Int) l) := rfl
  omega
theorem getDsetTempoMark (l : List S72) (i j : Nat) (v : S72) (h : i < l.length) : (l.set i v).getD j z72 = if i = j then v else l.getD j z72 := by
  rw [List.getD_eq_getElem?_getD, List.getElem?_set, List.getD_eq_getElem?_getD]
  split
  · rename_i e; subst e; simp [h]
  · rfl
theorem rdMTempoMark (l : List S72) (i : Nat) : rd_T72 l (i : Int) = l.getD i z72 := by
  unfold rd_T72
  rw [Int.toNat_natCast]
theorem markTempoMark_l0 (m0 : Int) (n : Nat) (h0 : 0 ≤ m0) (h1 : m0 + 2 * n ≤ 9000000000000000000) (d : Nat) : ∀ (i : Nat) (acc : List S72), i + d = n → acc.length = n → (∀ j, j < i → acc.getD j z72 = ⟨m0 + 2 * j, m0 + 2 * j + 1⟩) → ∃ l', l'.length = n ∧ (∀ j, j < n → l'.getD j z72 = ⟨m0 + 2 * j, m0 + 2 * j + 1⟩) ∧ Ev (fun k => laws_markTempoMarkS.l0 k acc (m0 + 2 * i) i) (m0 + 2 * n, l') := by
  induction d with
  | zero =>
    intro i acc hi ha h
    obtain rfl : i = n := by omega
    refine ⟨acc, ha, h, ?_⟩
    refine Ev.shift ?_
    simp only [laws_markTempoMarkS.l0]
    exact Ev.neg (by omega) (Ev.now _)
  | succ d ih =>
    intro i acc hi ha h
    have g1 := getDsetTempoMark acc i i ⟨m0 + 2 * i, (acc.getD i z72).f1⟩ (by omega)
    rw [if_pos rfl] at g1
    have w1 : wrap64 (m0 + 2 * (i : Int) + 1) = m0 + 2 * i + 1 := wid (by omega)
    have w2 : wrap64 (m0 + 2 * (i : Int) + 1 + 1) = m0 + 2 * ((i + 1 : Nat) : Int) := by rw [wid (by omega)]; omega
    have w3 : wrap64 ((i : Int) + 1) = ((i + 1 : Nat) : Int) := by rw [wid (by omega)]; rfl
    obtain ⟨l', a1, a2, a3⟩ := ih (i + 1) (acc.set i ⟨m0 + 2 * i, m0 + 2 * i + 1⟩) (by omega) (by rw [List.length_set]; exact ha) (fun j hj => by
      rw [getDsetTempoMark acc i j _ (by omega)]
      split
      · rename_i e; rw [e]
      · exact h j (by omega))
    refine ⟨l', a1, a2, ?_⟩
    refine Ev.shift ?_
    simp only [laws_markTempoMarkS.l0]
    clear a1 a2 ih h
    have p1 : (i : Int) < (acc.length : Int) := by clear w1 w2 w3 g1; omega
    refine Ev.pos p1 (Ev.pos (Int.natCast_nonneg _) ?_)
    simp only [Option.bind_some, Int.toNat_natCast, rdMTempoMark, g1, w1, w2, w3, List.set_set]
    exact a3
theorem markTempoMark (l : List S72) (m : Int) (h0 : 0 ≤ m) (h1 : m + 2 * l.length ≤ 9000000000000000000) : ∃ l', l'.length = l.length ∧ (∀ j, j < l.length → l'.getD j z72 = ⟨m + 2 * j, m + 2 * j + 1⟩) ∧ Ev (fun k => laws_markTempoMarkS.f k l m) (m + 2 * l.length, l') := by
  obtain ⟨l', a1, a2, a3⟩ := markTempoMark_l0 m l.length h0 h1 l.length 0 l (by omega) rfl (fun j hj => by omega)
  refine ⟨l', a1, a2, ?_⟩
  have e : m + 2 * ((0 : Nat) : Int) = m := by omega
  rw [e] at a3
  exact a3
theorem sBeats_l0 (l : List S72) (v : tempoB l = true) (n m : Nat) (hm : m ≤ 2000) (d : Nat) : ∀ (i : Nat), n ≤ i → i + d = m + 1 → Ev (fun k => spec_BeatTimes.l0 k l (m : Int) (((timesL l m).drop n).take (i - n)) (i : Int)) ((timesL l m).drop n, 0) := by
  have hL := timesL_len l m
  induction d with
  | zero =>
    intro i h hi
    refine Ev.shift ?_
    simp only [spec_BeatTimes.l0]
    refine Ev.neg (by omega) ?_
    rw [List.take_of_length_le (by rw [List.length_drop]; omega)]
    exact Ev.now _
  | succ d ih =>
    intro i h hi
    have ht : ((timesL l m).drop n).take (i - n) ++ [timeV l i] = ((timesL l m).drop n).take (i + 1 - n) := by
      rw [show i + 1 - n = (i - n) + 1 by omega, List.take_add_one, List.getElem?_drop, show n + (i - n) = i by omega]
      congr 1
      simp [timesL, show i < m + 1 by omega]
    have hk : (((timesL l m).drop n).take (i - n)).length ≤ 3000 := by rw [List.length_take, List.length_drop]; omega
    refine Ev.shift ?_
    simp only [spec_BeatTimes.l0]
    refine Ev.pos (by omega) (Ev.bind (sTime l v i (by omega)) (Ev.pos (by omega) ?_))
    rw [ht, show wrap64 ((i : Int) + 1) = ((i + 1 : Nat) : Int) by rw [wid (by omega)]; rfl]
    exact ih (i + 1) (by omega) (by omega)
theorem beatTimes (l : List S72) (a b : Int) (hl : l.length ≤ 17592186044416) : ∃ r c, r.length ≤ 3000 ∧ Ev (fun k => spec_BeatTimes.f k l a b) (r, c) ∧ Ev (fun k => impl_BeatTimes.f k l a b) (r, c) := by
  unfold spec_BeatTimes.f impl_BeatTimes.f spec_l22Beat.f
  simp only [in_eq, Option.bind_some]
  have hc := iCode l a b hl
  have hs := sTempo l hl
  unfold tCode at hc
  cases v : tempoB l with
  | false =>
    rw [v] at hc hs
    rw [if_neg (show ¬ (false = true) by decide)] at hc
    exact ⟨[], 1, by simp, Ev.bind hs (Ev.neg (by decide) (Ev.now _)), Ev.bind hc (Ev.neg (by decide) (Ev.now _))⟩
  | true =>
    rw [v] at hc hs
    rw [if_pos rfl] at hc
    by_cases h : 0 ≤ a ∧ a ≤ 2000 ∧ a ≤ b ∧ b ≤ 2000
    · rw [if_pos h] at hc
      obtain ⟨n, rfl⟩ := Int.eq_ofNat_of_zero_le h.1
      obtain ⟨m, rfl⟩ := Int.eq_ofNat_of_zero_le (show 0 ≤ b by omega)
      have hm : m ≤ 2000 := by omega
      have e1 : wrap64 (wrap64 ((m : Int) - n) + 1) = (m : Int) - n + 1 := by rw [wid (x := (m : Int) - n) (by omega), wid (by omega)]
      have hd : decide ((0 : Int) ≤ n ∧ (n : Int) ≤ m) = true := decide_eq_true (by omega)
      have hlen := timesL_len l m
      have hdl : ((timesL l m).drop n).length ≤ 2001 := by rw [List.length_drop]; omega
      simp only [e1, hd]
      by_cases e : (m : Int) - n + 1 > 64
      · refine ⟨[], 5, by simp, Ev.bind hs (Ev.pos rfl (Ev.pos (decide_eq_true (by omega)) ?_)), Ev.bind hc (Ev.pos rfl (Ev.pos e (Ev.now _)))⟩
        refine Ev.shift ?_
        simp only [spec_BeatTimes.j0, e1]
        exact Ev.neg (by decide) (Ev.pos e (Ev.now _))
      · refine ⟨(timesL l m).drop n, 0, by omega, Ev.bind hs (Ev.pos rfl (Ev.pos (decide_eq_true (by omega)) ?_)), Ev.bind hc (Ev.pos rfl (Ev.neg e (Ev.bind (iTimes l v m hm) (Ev.pos (by omega) (Ev.pos (by omega) ?_)))))⟩
        · refine Ev.shift ?_
          simp only [spec_BeatTimes.j0, e1]
          refine Ev.neg (by decide) (Ev.neg e ?_)
          have := sBeats_l0 l v n m hm (m + 1 - n) n (Nat.le_refl _) (by omega)
          rw [Nat.sub_self, List.take_zero] at this
          exact this
        · rw [Int.toNat_natCast]
          unfold slices_Clone_int64_int64.f
          rw [if_pos (by omega)]
          exact Ev.now _
    · rw [if_neg h] at hc
      refine ⟨[], 2, by simp, Ev.bind hs (Ev.pos rfl ?_), Ev.bind hc (Ev.neg (by decide) (Ev.now _))⟩
      by_cases h1 : 0 ≤ b ∧ b ≤ 2000
      · refine Ev.pos (decide_eq_true h1) ?_
        rw [decide_eq_false (show ¬ (0 ≤ a ∧ a ≤ b) by omega)]
        refine Ev.shift ?_
        simp only [spec_BeatTimes.j0]
        exact Ev.pos (by decide) (Ev.now _)
      · refine Ev.neg (by rw [decide_eq_true_iff]; exact h1) ?_
        refine Ev.shift ?_
        simp only [spec_BeatTimes.j0]
        exact Ev.pos trivial (Ev.now _)
theorem FnExactBeatTimes : laws_FnExactBeatTimes.Pure := by
  intro l a b hm _ _
  refine Ev.rounds (g := fun k => laws_FnExactBeatTimes.f k l a b) ?_
  unfold laws_FnExactBeatTimes.f
  rw [szTempoMark l hm.1]
  simp only [Option.bind_some]
  by_cases hl : l.length ≤ 1048576
  · rw [if_pos hl]
    refine Ev.neg (by omega) ?_
    have hl' : l.length ≤ 17592186044416 := by omega
    have hc : (cpTempoMark l).length ≤ 17592186044416 := by rw [cpTempoMark_length]; exact hl'
    obtain ⟨r, c, hr0, hS, hI⟩ := beatTimes (cpTempoMark l) a b hc
    have hr : r.length ≤ 35184372088832 := by omega
    have hmk := markI r 1 (by omega) (by omega)
    have hhl := heldI r.length 1 (by omega) (by omega)
    obtain ⟨l', _, _, hmx⟩ := markTempoMark (cpTempoMark l) 1 (by omega) (by omega)
    repeat (first | exact Ev.now _ | refine Ev.bind hS ?_ | refine Ev.bind hI ?_ | refine Ev.bind (toTempoMark l hl') ?_ | refine Ev.bind (eqTempoMark _ hc) ?_ | refine Ev.bind (eqI _ (by assumption)) ?_ | refine Ev.bind hmk ?_ | refine Ev.bind hmx ?_ | refine Ev.bind hhl ?_ | refine Ev.pos (by with_reducible rfl) ?_ | refine Ev.neg (by omega) ?_ | refine Ev.neg (by simp; done) ?_ | refine Ev.pos (by omega) ?_ | (refine Ev.shift ?_; simp only [laws_FnExactBeatTimes.j0, laws_FnExactBeatTimes.j1, laws_FnExactBeatTimes.j2]))
  · rw [if_neg hl]
    exact Ev.pos (by omega) (Ev.now _)

end Go.Proofs.Ytjdmfkmagcnakaa.Pure
