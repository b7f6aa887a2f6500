/- The pure statement of the law FnTempo: what the Go functions compute, told by plain Lean functions, is what the law asks, for all arguments. No condition beyond the printed ones. -/
import Derived.Test.YtpekclmaikcehaaDoorPFnTempoxo
import Derived.Test.YtpekclmaikcehaaDoorXW
namespace Go.Proofs.YtpekclmaikcehaaDoor.Pure
open Go.RowKit Go.Proofs.YtpekclmaikcehaaDoor.PFnTempo Go.Proofs.YtpekclmaikcehaaDoorW.PrintWords Go.Proofs.YtpekclmaikcehaaDoorW.PrintLast Go.Proofs.YtpekclmaikcehaaDoorW.PrintMore Go.Proofs.YtpekclmaikcehaaDoorXW
set_option linter.unusedVariables false
set_option linter.unusedSimpArgs false
def risQ (l : List Int) (lo hi : Int) (j : Nat) : Bool := decide (lo ≤ l.getD j 0 ∧ l.getD j 0 ≤ hi) && (decide (j = 0) || decide (l.getD (j - 1) 0 < l.getD j 0))
theorem within_eq (a b c : Int) : impl_within.f a b c = some (decide (b ≤ a ∧ a ≤ c)) := by
  unfold impl_within.f; split <;> simp_all; omega
theorem mx_abs (a : Int) (h : -9223372036854775807 ≤ a ∧ a ≤ 9223372036854775807) : mx a (wrap64 (-a)) = (a.natAbs : Int) := by
  rw [wid (by omega)]; unfold mx; split <;> omega

theorem abs_i (a : Int) (h : -9223372036854775807 ≤ a ∧ a ≤ 9223372036854775807) : impl_abs.f a = some (a.natAbs : Int) := by
  unfold impl_abs.f; rw [mx_abs a h]
/-- the nearest quotient, for b > 0 -/
def dr (a b : Int) : Int := if a < 0 then -((b - 2 * a) / (2 * b)) else (2 * a + b) / (2 * b)

/-- quotients by cases of the remainder -/
theorem dr_pos (a b q r : Int) (ha : 0 ≤ a) (hb : 0 < b) (hq : a = b * q + r) (h0 : 0 ≤ r) (h1 : r < b) : dr a b = if r ≥ b - r then q + 1 else q := by
  unfold dr
  rw [if_neg (by omega)]
  split
  · rename_i h
    have e : 2 * a + b = (2 * r - b) + (2 * b) * (q + 1) := by rw [hq]; rw [Int.mul_add, Int.mul_add, Int.mul_assoc]; omega
    rw [e, Int.add_mul_ediv_left _ _ (by omega), Int.ediv_eq_zero_of_lt (by omega) (by omega)]; omega
  · rename_i h
    have e : 2 * a + b = (2 * r + b) + (2 * b) * q := by rw [hq]; rw [Int.mul_add, Int.mul_assoc]; omega
    rw [e, Int.add_mul_ediv_left _ _ (by omega), Int.ediv_eq_zero_of_lt (by omega) (by omega)]; omega
theorem dr_neg (a b : Int) (ha : a < 0) : dr a b = - dr (-a) b := by
  unfold dr
  rw [if_pos ha, if_neg (by omega), show b - 2 * a = 2 * -a + b by omega]

theorem dr_range (t : Int) (h : 10 ≤ t ∧ t ≤ 600) : 0 ≤ dr 60000 t ∧ dr 60000 t ≤ 6001 := by
  unfold dr
  rw [if_neg (by omega)]
  have h0 : 0 ≤ (2 * 60000 + t) / (2 * t) := Int.ediv_nonneg (by omega) (by omega)
  have h1 : (2 * 60000 + t) / (2 * t) < 6002 := Int.ediv_lt_of_lt_mul (by omega) (by omega)
  omega
theorem implDiv (a b : Int) (ha : -2000000000000000000 ≤ a ∧ a ≤ 2000000000000000000) (hb : 0 < b ∧ b ≤ 2000000000000000000) :
    impl_divRound.f a b = some (dr a b) := by
  unfold impl_divRound.f impl_abs.f
  have hb1 : (b.natAbs : Int) = b := by omega
  rw [if_neg (by omega : ¬ b = 0)]
  simp only [Option.bind_some]
  rw [mx_abs b (by omega), hb1]
  have hm0 : 0 ≤ (-a) % b := Int.emod_nonneg _ (by omega)
  have hm1 : (-a) % b < b := Int.emod_lt_of_pos _ (by omega)
  have hn0 : 0 ≤ a % b := Int.emod_nonneg _ (by omega)
  have hn1 : a % b < b := Int.emod_lt_of_pos _ (by omega)
  by_cases h : a < 0
  · have hd : Int.tdiv a b = - ((-a) / b) := by
      rw [show a = - (-a) by omega, Int.neg_tdiv, Int.tdiv_eq_ediv_of_nonneg (by omega)]; simp
    have hm : Int.tmod a b = - ((-a) % b) := by
      rw [show a = - (-a) by omega, Int.neg_tmod, Int.tmod_eq_emod_of_nonneg (by omega)]; simp
    have hq0 : 0 ≤ (-a) / b := Int.ediv_nonneg (by omega) (by omega)
    have hq1 : (-a) / b ≤ -a := Int.ediv_le_self _ (by omega)
    rw [hm, hd, mx_abs _ (by omega), dr_neg a b h, dr_pos (-a) b ((-a) / b) ((-a) % b) (by omega) hb.1 (by have := Int.mul_ediv_add_emod (-a) b; omega) hm0 hm1]
    rw [show ((-((-a) % b)).natAbs : Int) = (-a) % b by omega, wid (x := b - (-a) % b) (by omega), wid (x := -((-a) / b)) (by omega)]
    have e1 : decide (a < 0) = true := by simpa using h
    have e2 : decide (b < 0) = false := by simp; omega
    rw [e1, e2]
    split
    · rw [if_neg (by decide), wid (by omega)]; congr 1; omega
    · rfl
  · have hd : Int.tdiv a b = a / b := Int.tdiv_eq_ediv_of_nonneg (by omega)
    have hm : Int.tmod a b = a % b := Int.tmod_eq_emod_of_nonneg (by omega)
    have hq0 : 0 ≤ a / b := Int.ediv_nonneg (by omega) (by omega)
    have hq1 : a / b ≤ a := Int.ediv_le_self _ (by omega)
    rw [hm, hd, mx_abs _ (by omega), dr_pos a b (a / b) (a % b) (by omega) hb.1 (by have := Int.mul_ediv_add_emod a b; omega) hn0 hn1]
    rw [show ((a % b).natAbs : Int) = a % b by omega, wid (x := b - a % b) (by omega), wid (x := a / b) (by omega)]
    have e1 : decide (a < 0) = false := by simpa using h
    have e2 : decide (b < 0) = false := by simp; omega
    rw [e1, e2]
    split
    · rw [if_pos (by decide), wid (by omega)]
    · rfl
theorem beatTime_eq (t : Int) (h : 10 ≤ t ∧ t ≤ 600) : impl_beatTime.f t = some (dr 60000 t) := by
  unfold impl_beatTime.f; rw [implDiv _ _ (by omega) (by omega)]; rfl
theorem dr_low (t : Int) (h : 10 ≤ t ∧ t ≤ 600) : 100 ≤ dr 60000 t := by
  unfold dr
  rw [if_neg (by omega)]
  exact Int.le_ediv_of_mul_le (by omega) (by omega)
def tmQ (l : List S49) (j : Nat) : Bool := decide (0 ≤ (l.getD j z49).f0 ∧ (l.getD j z49).f0 ≤ 2000) && (decide (10 ≤ (l.getD j z49).f1 ∧ (l.getD j z49).f1 ≤ 600) && (decide (j = 0) || decide ((l.getD (j - 1) z49).f0 < (l.getD j z49).f0)))
def tempoB (l : List S49) : Bool := allF (tmQ l) l.length 0 && (decide (1 ≤ l.length ∧ l.length ≤ 16) && decide ((l.getD 0 z49).f0 = 0))
theorem rdTM (l : List S49) (i : Nat) : rd_T49 l (i : Int) = l.getD i z49 := by
  unfold rd_T49; rw [Int.toNat_natCast]
theorem tempoB_len {l : List S49} (h : tempoB l = true) : 1 ≤ l.length ∧ l.length ≤ 16 := by
  unfold tempoB at h; simp only [Bool.and_eq_true] at h; exact of_decide_eq_true h.2.1
theorem tempoB_zero {l : List S49} (h : tempoB l = true) : (l.getD 0 z49).f0 = 0 := by
  unfold tempoB at h; simp only [Bool.and_eq_true] at h; exact of_decide_eq_true h.2.2
theorem tempoB_get {l : List S49} (h : tempoB l = true) (j : Nat) (hj : j < l.length) : (0 ≤ (l.getD j z49).f0 ∧ (l.getD j z49).f0 ≤ 2000) ∧ 10 ≤ (l.getD j z49).f1 ∧ (l.getD j z49).f1 ≤ 600 := by
  unfold tempoB at h; simp only [Bool.and_eq_true] at h
  have := (allF_iff _).1 h.1 j hj (Nat.zero_le _)
  simp only [tmQ, Bool.and_eq_true] at this
  exact ⟨of_decide_eq_true this.1, of_decide_eq_true this.2.1⟩
theorem tempoB_lt {l : List S49} (h : tempoB l = true) (j : Nat) (hj : j + 1 < l.length) : (l.getD j z49).f0 < (l.getD (j + 1) z49).f0 := by
  unfold tempoB at h; simp only [Bool.and_eq_true] at h
  have := (allF_iff _).1 h.1 (j + 1) hj (Nat.zero_le _)
  simp only [tmQ, Bool.and_eq_true, Bool.or_eq_true, Nat.add_sub_cancel] at this
  rcases this.2.2 with e | e
  · exact absurd (of_decide_eq_true e) (by omega)
  · exact of_decide_eq_true e
theorem iTempo_l0 (l : List S49) (hl : l.length ≤ 17592186044416) (h0 : (l.getD 0 z49).f0 = 0) (d : Nat) : ∀ (i : Nat), i + d = l.length → (0 < i → 0 ≤ (l.getD (i - 1) z49).f0) → Ev (fun k => impl_ValidTempo.l0 k l l l.length i) (allF (tmQ l) l.length i) := by
  induction d with
  | zero =>
    intro i h1 _
    refine Ev.shift ?_
    simp only [impl_ValidTempo.l0]
    refine Ev.neg (by omega) (Ev.some ?_)
    rw [allF_end _ (by omega)]
  | succ d ih =>
    intro i h1 hp
    refine Ev.shift ?_
    simp only [impl_ValidTempo.l0, impl_tempoOk.f, within_eq, Option.bind_some]
    refine Ev.pos (by omega) (Ev.pos (by omega) (Ev.pos (by omega) ?_))
    rw [rdTM]
    by_cases ht : 10 ≤ (l.getD i z49).f1 ∧ (l.getD i z49).f1 ≤ 600
    · refine Ev.pos (decide_eq_true ht) ?_
      by_cases hb : (l.getD i z49).f0 > 2000
      · refine Ev.pos hb (Ev.some ?_)
        rw [allF_no _ (by omega) (by simp only [tmQ, decide_eq_false (show ¬ (0 ≤ (l.getD i z49).f0 ∧ (l.getD i z49).f0 ≤ 2000) by omega)]; simp)]
      · refine Ev.neg hb ?_
        cases i with
        | zero =>
          refine Ev.neg (by omega) ?_
          rw [wid (by omega), allF_yes _ (by simp only [tmQ, decide_eq_true (show 0 ≤ (l.getD 0 z49).f0 ∧ (l.getD 0 z49).f0 ≤ 2000 by omega), decide_eq_true ht]; rfl)]
          exact ih 1 (by omega) (fun _ => by simp only [Nat.sub_self]; omega)
        | succ i =>
          refine Ev.pos (by omega) ?_
          have e1 : wrap64 (((i + 1 : Nat) : Int) - 1) = (i : Int) := by rw [wid (by omega)]; omega
          rw [e1, rdTM]
          refine Ev.pos (by omega) (Ev.pos (by omega) ?_)
          have hq := hp (by omega)
          rw [Nat.add_sub_cancel] at hq
          by_cases hc : (l.getD i z49).f0 < (l.getD (i + 1) z49).f0
          · refine Ev.neg (by omega) ?_
            rw [wid (by omega), allF_yes _ (by simp only [tmQ, decide_eq_true (show 0 ≤ (l.getD (i + 1) z49).f0 ∧ (l.getD (i + 1) z49).f0 ≤ 2000 by omega), decide_eq_true ht, Nat.add_sub_cancel, decide_eq_true hc]; simp)]
            exact ih (i + 2) (by omega) (fun _ => by show 0 ≤ (l.getD (i + 1) z49).f0; omega)
          · refine Ev.pos (by omega) (Ev.some ?_)
            rw [allF_no _ (by omega) (by simp only [tmQ, Nat.add_sub_cancel, decide_eq_false hc]; simp)]
    · refine Ev.neg (by simpa using ht) (Ev.some ?_)
      rw [allF_no _ (by omega) (by simp only [tmQ, decide_eq_false ht]; simp)]
theorem iTempo (l : List S49) (hl : l.length ≤ 17592186044416) : Ev (fun k => impl_ValidTempo.f k l) (tempoB l) := by
  unfold impl_ValidTempo.f tempoB
  by_cases h1 : (l.length : Int) < 1
  · refine Ev.pos h1 (Ev.shift ?_)
    simp only [impl_ValidTempo.j0]
    refine Ev.some ?_
    simp [show ¬ (1 ≤ l.length) by omega]
  refine Ev.neg h1 ?_
  by_cases h2 : (l.length : Int) > 16
  · refine Ev.pos h2 (Ev.shift ?_)
    simp only [impl_ValidTempo.j0]
    refine Ev.some ?_
    simp [show ¬ (l.length ≤ 16) by omega]
  refine Ev.neg h2 (Ev.pos (by omega) (Ev.shift ?_))
  simp only [impl_ValidTempo.j0]
  have e := rdTM l 0
  simp only [Int.natCast_zero] at e
  rw [e]
  by_cases h0 : (l.getD 0 z49).f0 = 0
  · refine Ev.neg (by rw [h0]; decide) ?_
    rw [decide_eq_true h0, decide_eq_true (show 1 ≤ l.length ∧ l.length ≤ 16 by omega), Bool.and_true, Bool.and_true]
    exact iTempo_l0 l hl h0 l.length 0 (by omega) (by omega)
  · refine Ev.pos (by simpa using h0) (Ev.some ?_)
    rw [decide_eq_false h0, Bool.and_false, Bool.and_false]
/-- the value of a line -/
def lineV (x0 y0 x1 y1 x : Int) : Int := if x ≤ x0 ∨ x1 ≤ x0 then y0 else if x ≥ x1 then y1 else y0 + dr ((y1 - y0) * (x - x0)) (x1 - x0)
theorem dr_le (a b m : Int) (ha : 0 ≤ a) (hb : 0 < b) (hm : a ≤ b * m) : 0 ≤ dr a b ∧ dr a b ≤ m := by
  unfold dr
  rw [if_neg (by omega)]
  refine ⟨Int.ediv_nonneg (by omega) (by omega), ?_⟩
  have h1 : (2 * a + b) / (2 * b) < m + 1 := by
    refine Int.ediv_lt_of_lt_mul (by omega) ?_
    have e : (m + 1) * (2 * b) = 2 * (b * m) + 2 * b := by grind
    omega
  omega
theorem lineV_range (x0 y0 x1 y1 x lo hi : Int) (h0 : lo ≤ y0 ∧ y0 ≤ hi) (h1 : lo ≤ y1 ∧ y1 ≤ hi) : lo ≤ lineV x0 y0 x1 y1 x ∧ lineV x0 y0 x1 y1 x ≤ hi := by
  unfold lineV
  split
  · exact h0
  · rename_i c
    split
    · exact h1
    · rename_i c2
      have hx : 0 < x - x0 ∧ x - x0 ≤ x1 - x0 := by omega
      by_cases hy : y0 ≤ y1
      · have a0 : 0 ≤ (y1 - y0) * (x - x0) := Int.mul_nonneg (by omega) (by omega)
        have a1 : (y1 - y0) * (x - x0) ≤ (x1 - x0) * (y1 - y0) := by rw [Int.mul_comm (x1 - x0)]; exact Int.mul_le_mul_of_nonneg_left hx.2 (by omega)
        have := dr_le _ _ _ a0 (by omega) a1
        omega
      · have a0 : 0 ≤ (y0 - y1) * (x - x0) := Int.mul_nonneg (by omega) (by omega)
        have a1 : (y0 - y1) * (x - x0) ≤ (x1 - x0) * (y0 - y1) := by rw [Int.mul_comm (x1 - x0)]; exact Int.mul_le_mul_of_nonneg_left hx.2 (by omega)
        have h2 := dr_le _ _ _ a0 (by omega) a1
        have e : (y1 - y0) * (x - x0) = -((y0 - y1) * (x - x0)) := by grind
        by_cases hz : (y0 - y1) * (x - x0) = 0
        · rw [e, hz]
          have h4 := dr_le 0 (x1 - x0) 0 (by omega) (by omega) (by omega)
          rw [show (-0 : Int) = 0 from rfl]
          omega
        · have h3 := dr_neg ((y1 - y0) * (x - x0)) (x1 - x0) (by omega)
          rw [e, Int.neg_neg] at h3
          rw [e, h3]
          omega
/-- the tempo of a beat -/
def atV (beat : Int) : List S49 → Int
  | [] => 0
  | [a] => a.f1
  | a :: b :: l => if beat < b.f0 then lineV a.f0 a.f1 b.f0 b.f1 beat else atV beat (b :: l)
theorem drop_consT (l : List S49) (i : Nat) (h : i < l.length) : l.drop i = l.getD i z49 :: l.drop (i + 1) := by
  rw [List.drop_eq_getElem_cons h, List.getD_eq_getElem?_getD, List.getElem?_eq_getElem h, Option.getD_some]
theorem atV_range (beat : Int) (l : List S49) (h : ∀ x ∈ l, 10 ≤ x.f1 ∧ x.f1 ≤ 600) (hn : l ≠ []) : 10 ≤ atV beat l ∧ atV beat l ≤ 600 := by
  induction l with
  | nil => exact absurd rfl hn
  | cons a l ih =>
    cases l with
    | nil => exact h a (by simp)
    | cons b l =>
      rw [atV]
      split
      · exact lineV_range _ _ _ _ _ _ _ (h a (by simp)) (h b (by simp))
      · exact ih (fun x hx => h x (by simp only [List.mem_cons] at hx ⊢; exact Or.inr hx)) (by simp)
theorem tempoB_mem {l : List S49} (h : tempoB l = true) : ∀ x ∈ l, 10 ≤ x.f1 ∧ x.f1 ≤ 600 := by
  intro x hx
  obtain ⟨j, hj, rfl⟩ := List.getElem_of_mem hx
  have := (tempoB_get h j hj).2
  rwa [List.getD_eq_getElem?_getD, List.getElem?_eq_getElem hj, Option.getD_some] at this
theorem atV_tempo {l : List S49} (h : tempoB l = true) (beat : Int) : 10 ≤ atV beat l ∧ atV beat l ≤ 600 :=
  atV_range beat l (tempoB_mem h) (by intro e; have := tempoB_len h; rw [e] at this; simp at this)
theorem lineI (x0 y0 x1 y1 x : Int) (b0 : -1000000 ≤ x0 ∧ x0 ≤ 1000000) (b1 : -1000000 ≤ x1 ∧ x1 ≤ 1000000) (b2 : -1000000 ≤ y0 ∧ y0 ≤ 1000000) (b3 : -1000000 ≤ y1 ∧ y1 ≤ 1000000) : Ev (fun k => impl_blend.f k x0 y0 x1 y1 x) (lineV x0 y0 x1 y1 x) := by
  unfold impl_blend.f
  have hr := lineV_range x0 y0 x1 y1 x (-1000000) 1000000 b2 b3
  by_cases c1 : x ≤ x0
  · have e : lineV x0 y0 x1 y1 x = y0 := by unfold lineV; rw [if_pos (Or.inl c1)]
    rw [e]
    refine Ev.pos c1 (Ev.shift ?_)
    simp only [impl_blend.j0]; exact Ev.now _
  by_cases c2 : x1 ≤ x0
  · have e : lineV x0 y0 x1 y1 x = y0 := by unfold lineV; rw [if_pos (Or.inr c2)]
    rw [e]
    refine Ev.neg c1 (Ev.shift ?_)
    simp only [impl_blend.j0]; exact Ev.pos (decide_eq_true c2) (Ev.now _)
  by_cases c3 : x ≥ x1
  · have e : lineV x0 y0 x1 y1 x = y1 := by unfold lineV; rw [if_neg (by omega), if_pos c3]
    rw [e]
    refine Ev.neg c1 (Ev.shift ?_)
    simp only [impl_blend.j0]; exact Ev.neg (by simpa using c2) (Ev.pos c3 (Ev.now _))
  have e : lineV x0 y0 x1 y1 x = y0 + dr ((y1 - y0) * (x - x0)) (x1 - x0) := by unfold lineV; rw [if_neg (by omega), if_neg c3]
  have w1 : wrap64 (y1 - y0) = y1 - y0 := wid (by omega)
  have w2 : wrap64 (x - x0) = x - x0 := wid (by omega)
  have w3 : wrap64 (x1 - x0) = x1 - x0 := wid (by omega)
  have m1 : (y1 - y0) * (x - x0) ≤ 2000000 * 2000000 := by
    by_cases hy : 0 ≤ y1 - y0
    · exact Int.mul_le_mul (by omega) (by omega) (by omega) (by omega)
    · have := Int.mul_nonneg (show 0 ≤ y0 - y1 by omega) (show 0 ≤ x - x0 by omega)
      have e2 : (y1 - y0) * (x - x0) = -((y0 - y1) * (x - x0)) := by grind
      omega
  have m2 : -(2000000 * 2000000) ≤ (y1 - y0) * (x - x0) := by
    have e2 : (y1 - y0) * (x - x0) = -((y0 - y1) * (x - x0)) := by grind
    by_cases hy : 0 ≤ y0 - y1
    · have : (y0 - y1) * (x - x0) ≤ 2000000 * 2000000 := Int.mul_le_mul (by omega) (by omega) (by omega) (by omega)
      omega
    · have := Int.mul_nonneg (show 0 ≤ y1 - y0 by omega) (show 0 ≤ x - x0 by omega)
      omega
  have w4 : wrap64 ((y1 - y0) * (x - x0)) = (y1 - y0) * (x - x0) := wid (by omega)
  rw [e] at hr
  have w5 : wrap64 (y0 + dr ((y1 - y0) * (x - x0)) (x1 - x0)) = y0 + dr ((y1 - y0) * (x - x0)) (x1 - x0) := wid (by omega)
  rw [e]
  refine Ev.neg c1 (Ev.shift ?_)
  simp only [impl_blend.j0, w1, w2, w3, w4, implDiv _ (x1 - x0) (show -2000000000000000000 ≤ (y1 - y0) * (x - x0) ∧ (y1 - y0) * (x - x0) ≤ 2000000000000000000 by omega) (by omega), Option.bind_some, w5]
  exact Ev.neg (by simpa using c2) (Ev.neg c3 (Ev.now _))
theorem iAt_l0 (l : List S49) (v : tempoB l = true) (beat : Int) (d : Nat) : ∀ (i : Nat), i + 1 + d = l.length → Ev (fun k => impl_tempoAt.l0 k l beat i) (atV beat (l.drop i)) := by
  have hl := tempoB_len v
  induction d with
  | zero =>
    intro i h1
    refine Ev.shift ?_
    simp only [impl_tempoAt.l0]
    rw [wid (x := (l.length : Int) - 1) (by omega), show (l.length : Int) - 1 = (i : Int) by omega, rdTM]
    refine Ev.neg (by omega) (Ev.pos rfl (Ev.pos (by omega) (Ev.pos (by omega) (Ev.some ?_))))
    rw [drop_consT l i (by omega), List.drop_of_length_le (by omega), atV]
  | succ d ih =>
    intro i h1
    refine Ev.shift ?_
    simp only [impl_tempoAt.l0]
    rw [wid (x := (l.length : Int) - 1) (by omega), show wrap64 ((i : Int) + 1) = ((i + 1 : Nat) : Int) by rw [wid (by omega)]; rfl, rdTM, rdTM]
    refine Ev.pos (by omega) (Ev.pos (by omega) (Ev.pos (by omega) ?_))
    have g1 := tempoB_get v i (by omega)
    have g2 := tempoB_get v (i + 1) (by omega)
    rw [drop_consT l i (by omega), drop_consT l (i + 1) (by omega), atV, ← drop_consT l (i + 1) (by omega)]
    by_cases c : beat < (l.getD (i + 1) z49).f0
    · rw [if_pos c]
      exact Ev.neg (by omega) (Ev.neg (by omega) (Ev.pos (by omega) (Ev.pos (by omega) (Ev.bind (lineI _ _ _ _ _ (by omega) (by omega) (by omega) (by omega)) (Ev.now _)))))
    · rw [if_neg c]
      exact Ev.pos (by omega) (ih (i + 1) (by omega))
theorem iAt (l : List S49) (v : tempoB l = true) (beat : Int) : Ev (fun k => impl_tempoAt.f k l beat) (atV beat l) := by
  have hl := tempoB_len v
  unfold impl_tempoAt.f
  exact iAt_l0 l v beat (l.length - 1) 0 (by omega)
def tCode (l : List S49) (a b : Int) : Int := if tempoB l = true then (if 0 ≤ a ∧ a ≤ 2000 ∧ a ≤ b ∧ b ≤ 2000 then 0 else 2) else 1
theorem iCode (l : List S49) (a b : Int) (hl : l.length ≤ 17592186044416) : Ev (fun k => impl_tempoCode.f k l a b) (tCode l a b) := by
  unfold impl_tempoCode.f tCode
  simp only [within_eq, Option.bind_some]
  refine Ev.bind (iTempo l hl) ?_
  cases tempoB l with
  | false => simp only [Bool.false_eq_true, if_false]; exact Ev.now _
  | true =>
    simp only [if_true]
    by_cases h1 : 0 ≤ a ∧ a ≤ 2000
    · refine Ev.pos (decide_eq_true h1) ?_
      by_cases h2 : a ≤ b ∧ b ≤ 2000
      · rw [if_pos (show 0 ≤ a ∧ a ≤ 2000 ∧ a ≤ b ∧ b ≤ 2000 from ⟨h1.1, h1.2, h2.1, h2.2⟩)]; exact Ev.pos (decide_eq_true h2) (Ev.now _)
      · rw [if_neg (show ¬ (0 ≤ a ∧ a ≤ 2000 ∧ a ≤ b ∧ b ≤ 2000) by omega)]; exact Ev.neg (by rw [decide_eq_true_iff]; exact h2) (Ev.now _)
    · rw [if_neg (show ¬ (0 ≤ a ∧ a ≤ 2000 ∧ a ≤ b ∧ b ≤ 2000) by omega)]; exact Ev.neg (by rw [decide_eq_true_iff]; exact h1) (Ev.now _)
/-- the time of a beat -/
def timeV (l : List S49) : Nat → Int
  | 0 => 0
  | n + 1 => timeV l n + dr 60000 (atV (n : Int) l)
theorem timeV_step (l : List S49) (v : tempoB l = true) (n : Nat) : timeV l n ≤ timeV l (n + 1) ∧ timeV l (n + 1) ≤ timeV l n + 6001 := by
  have hr := dr_range _ (atV_tempo v (n : Int))
  have e : timeV l (n + 1) = timeV l n + dr 60000 (atV (n : Int) l) := rfl
  omega
theorem timeV_bd (l : List S49) (v : tempoB l = true) (n : Nat) : 0 ≤ timeV l n ∧ timeV l n ≤ 6001 * (n : Int) := by
  induction n with
  | zero => exact ⟨Int.le_refl _, Int.le_refl _⟩
  | succ n ih =>
    have := timeV_step l v n
    omega
theorem timeV_mono (l : List S49) (v : tempoB l = true) (i d : Nat) : timeV l i ≤ timeV l (i + d) := by
  induction d with
  | zero => exact Int.le_refl _
  | succ d ih => exact Int.le_trans ih (timeV_step l v (i + d)).1
def timesL (l : List S49) (n : Nat) : List Int := (List.range (n + 1)).map (timeV l)
theorem timesL_len (l : List S49) (n : Nat) : (timesL l n).length = n + 1 := by simp [timesL]
theorem timesL_succ (l : List S49) (n : Nat) : timesL l (n + 1) = timesL l n ++ [timeV l (n + 1)] := by
  unfold timesL
  rw [List.range_succ (n := n + 1), List.map_append]
  rfl
theorem rd_timesL (l : List S49) (n j : Nat) (h : j ≤ n) : rd (timesL l n) (j : Int) = timeV l j := by
  rw [rd_nat]
  simp [timesL, List.getD_eq_getElem?_getD, show j < n + 1 by omega]
theorem iTimes_l0 (l : List S49) (v : tempoB l = true) (n : Nat) (hn : n ≤ 2000) (d : Nat) : ∀ (i : Nat), i + d = n → Ev (fun k => impl_timesUpTo.l0 k l (timesL l i) (n : Int) (i : Int)) (timesL l n) := by
  induction d with
  | zero =>
    intro i hi
    obtain rfl : i = n := by omega
    refine Ev.shift ?_
    simp only [impl_timesUpTo.l0]
    exact Ev.neg (by omega) (Ev.now _)
  | succ d ih =>
    intro i hi
    have hb := timeV_bd l v i
    have hr := dr_range _ (atV_tempo v (i : Int))
    have hlen := timesL_len l i
    refine Ev.shift ?_
    simp only [impl_timesUpTo.l0]
    refine Ev.pos (by omega) ?_
    refine Ev.pos (by omega) ?_
    refine Ev.pos (by omega) ?_
    refine Ev.bind (iAt l v i) ?_
    simp only [beatTime_eq _ (atV_tempo v (i : Int)), Option.bind_some]
    refine Ev.pos (by omega) ?_
    have e1 : wrap64 (rd (timesL l i) (i : Int) + dr 60000 (atV (i : Int) l)) = timeV l (i + 1) := by rw [rd_timesL l i i (Nat.le_refl _), wid (by omega)]; rfl
    have e2 : wrap64 ((i : Int) + 1) = ((i + 1 : Nat) : Int) := by rw [wid (by omega)]; rfl
    simp only [e1, e2, ← timesL_succ]
    exact ih (i + 1) (by omega)
theorem iTimes (l : List S49) (v : tempoB l = true) (n : Nat) (hn : n ≤ 2000) : Ev (fun k => impl_timesUpTo.f k l (n : Int)) (timesL l n) :=
  iTimes_l0 l v n hn n 0 (by omega)
theorem timeV_lt (l : List S49) (v : tempoB l = true) (i j : Nat) (h : i < j) : timeV l i < timeV l j := by
  obtain ⟨d, rfl⟩ : ∃ d, j = i + d + 1 := ⟨j - i - 1, by omega⟩
  have h1 := timeV_mono l v i d
  have h2 := dr_low _ (atV_tempo v ((i + d : Nat) : Int))
  have e : timeV l (i + d + 1) = timeV l (i + d) + dr 60000 (atV ((i + d : Nat) : Int) l) := rfl
  omega
theorem and255 (x : Int) : 0 ≤ wrap64 (Go.bits .and .u64 x 255) ∧ wrap64 (Go.bits .and .u64 x 255) ≤ 255 := by
  have e : Go.bits .and .u64 x 255 = IntKind.u64.wrap ((BitVec.ofInt 64 x &&& BitVec.ofInt 64 255).toNat : Int) := rfl
  have h : (BitVec.ofInt 64 x &&& BitVec.ofInt 64 255).toNat ≤ 255 := by
    rw [BitVec.toNat_and]
    exact Nat.le_trans Nat.and_le_right (by decide)
  generalize (BitVec.ofInt 64 x &&& BitVec.ofInt 64 255).toNat = n at e h
  have e2 : IntKind.u64.wrap (n : Int) = n := by
    unfold IntKind.wrap
    simp [IntKind.bits, IntKind.signed]
    omega
  rw [e, e2, wid (by omega)]
  omega
def bytesB (l : List Int) : Prop := ∀ j, j < l.length → 0 ≤ l.getD j 0 ∧ l.getD j 0 ≤ 255
theorem next_ok (l : List Int) (hb : bytesB l) (a s : Int) (h0 : 0 ≤ a) (h1 : a ≤ 4000000000000000000) : ∃ v s', spec_l00Src_next.f l a s = some (v, a + 1, s') ∧ 0 ≤ v ∧ v ≤ 255 := by
  unfold spec_l00Src_next.f
  rw [wid (x := a + 1) (by omega)]
  by_cases c : a < (l.length : Int)
  · have q := hb a.toNat (by omega)
    have e : rd l a = l.getD a.toNat 0 := rfl
    rw [if_pos c, if_pos h0, if_pos (by omega), e, wid (x := l.getD a.toNat 0) (by omega)]
    exact ⟨_, _, rfl, q⟩
  · rw [if_neg c, if_neg (by omega)]
    exact ⟨_, _, rfl, and255 _⟩
theorem pick_ok (l : List Int) (hb : bytesB l) (a s n : Int) (h0 : 0 ≤ a) (h1 : a ≤ 3000000000000000000) (hn : n ≤ 1000000) : ∃ v a' s', spec_l00Src_pick.f l a s n = some (v, a', s') ∧ 0 ≤ v ∧ (v < n ∨ v = 0) ∧ a ≤ a' ∧ a' ≤ a + 2 := by
  unfold spec_l00Src_pick.f
  by_cases c : n ≤ 1
  · rw [if_pos c]; exact ⟨_, _, _, rfl, Int.le_refl _, .inr rfl, Int.le_refl _, by omega⟩
  rw [if_neg c]
  obtain ⟨v, s1, e1, v0, v1⟩ := next_ok l hb a s h0 (by omega)
  rw [e1]
  simp only [Option.bind_some]
  have tm : ∀ x : Int, 0 ≤ x → 0 ≤ Int.tmod x n ∧ Int.tmod x n < n := fun x hx => by
    rw [Int.tmod_eq_emod_of_nonneg hx]
    exact ⟨Int.emod_nonneg _ (by omega), Int.emod_lt_of_pos _ (by omega)⟩
  by_cases c2 : n > 200
  · rw [if_pos c2]
    obtain ⟨v', s2, e2, v0', v1'⟩ := next_ok l hb (a + 1) s1 (by omega) (by omega)
    rw [e2]
    simp only [Option.bind_some]
    rw [if_neg (by omega), wid (x := v * 256) (by omega), wid (x := v * 256 + v') (by omega)]
    have := tm (v * 256 + v') (by omega)
    exact ⟨_, _, _, rfl, this.1, .inl this.2, by omega, by omega⟩
  · rw [if_neg c2, if_neg (by omega)]
    have := tm v v0
    exact ⟨_, _, _, rfl, this.1, .inl this.2, by omega, by omega⟩
theorem among_ok (l : List Int) (hb : bytesB l) (a s : Int) (m : List Int) (h0 : 0 ≤ a) (h1 : a ≤ 3000000000000000000) (hm : 0 < m.length) (hm2 : m.length ≤ 1000000) : ∃ v a' s', spec_l00Src_among.f l a s m = some (v, a', s') ∧ v ∈ m ∧ a ≤ a' ∧ a' ≤ a + 2 := by
  unfold spec_l00Src_among.f
  obtain ⟨v, a', s', e, v0, v1, a0, a1⟩ := pick_ok l hb a s (m.length : Int) h0 h1 (by omega)
  rw [e]
  simp only [Option.bind_some]
  have hv : v < (m.length : Int) := by rcases v1 with h | h <;> omega
  rw [if_pos v0, if_pos hv]
  refine ⟨_, _, _, rfl, ?_, a0, a1⟩
  have : rd m v = m.getD v.toNat 0 := rfl
  rw [this, List.getD_eq_getElem?_getD, List.getElem?_eq_getElem (by omega)]
  exact List.getElem_mem _
theorem one_ok (l : List Int) (hb : bytesB l) (a s n : Int) (h0 : 0 ≤ a) (h1 : a ≤ 3000000000000000000) (hn : n ≤ 1000000) : ∃ v a' s', spec_l00Src_one.f l a s n = some (v, a', s') ∧ a ≤ a' ∧ a' ≤ a + 2 := by
  unfold spec_l00Src_one.f
  obtain ⟨v, a', s', e, v0, v1, a0, a1⟩ := pick_ok l hb a s n h0 h1 hn
  rw [e]
  exact ⟨_, _, _, rfl, a0, a1⟩
theorem drawOk22_l0 (l : List Int) (hb : bytesB l) (d : Nat) (hd : d ≤ 100) : ∀ (x : List S49) (t a s : Int), x.length ≤ 1000 - d → 0 ≤ a → a ≤ 2000000 - 4 * d → ∃ r a' s', r.length ≤ 1000 ∧ 0 < r.length + (if x = [] ∧ d = 0 then 1 else 0) ∧ 0 ≤ a' ∧ a' ≤ 2000000 ∧ Ev (fun k => spec_l22DrawOk.l0 k x t d l a s) (r, a', s') := by
  induction d with
  | zero =>
    intro x t a s h1 h2 h3
    refine ⟨x, a, s, by omega, by cases x <;> simp, h2, by omega, Ev.shift ?_⟩
    simp only [spec_l22DrawOk.l0]
    exact Ev.neg (by omega) (Ev.now _)
  | succ d ih =>
    intro x t a s h1 h2 h3
    obtain ⟨v, a1, s1, e1, _, _, b1, b2⟩ := pick_ok l hb a s 20 h2 (by omega) (by omega)
    obtain ⟨v2, a2, s2, e2, _, b3, b4⟩ := among_ok l hb a1 s1 [60, 90, 120, 10, 600, 240] (by omega) (by omega) (by simp) (by simp)
    obtain ⟨r, a', s', q1, q2, q3, q4, q5⟩ := ih (by omega) (x ++ [(⟨wrap64 (t + (wrap64 (1 + v))), v2⟩ : S49)]) (wrap64 (t + (wrap64 (1 + v)))) a2 s2 (by simp; omega) (by omega) (by omega)
    refine ⟨r, a', s', q1, by simp at q2 ⊢; omega, q3, q4, Ev.shift ?_⟩
    simp only [spec_l22DrawOk.l0, e1, Option.bind_some, e2]
    refine Ev.pos (by omega) (Ev.pos (by omega) ?_)
    rw [show wrap64 (((d + 1 : Nat) : Int) - 1) = (d : Int) by rw [wid (by omega)]; omega]
    exact q5
theorem draw22_l0 (l : List Int) (a s : Int) (n d : Nat) (hn : n ≤ 100) : ∀ (i : Nat) (x : List S49), i + d = n → x.length = i → ∃ r : List S49, r.length ≤ 1000 ∧ Ev (fun k => spec_l22Draw.l0 k x (n : Int) i l a s) (r, a, s) := by
  induction d with
  | zero =>
    intro i x h1 h2
    refine ⟨x, by omega, Ev.shift ?_⟩
    simp only [spec_l22Draw.l0]
    exact Ev.neg (by omega) (Ev.now _)
  | succ d ih =>
    intro i x h1 h2
    obtain ⟨r, q1, q2⟩ := ih (i + 1) (x ++ [(⟨wrap64 (3 * i), wrap64 (60 + i)⟩ : S49)]) (by omega) (by simp; omega)
    refine ⟨r, q1, Ev.shift ?_⟩
    simp only [spec_l22Draw.l0]
    refine Ev.pos (by omega) (Ev.pos (by omega) ?_)
    rw [wid (x := (i : Int) + 1) (by omega)]
    exact q2
theorem draw22 (l : List Int) (hb : bytesB l) (a s : Int) (h0 : 0 ≤ a) (h1 : a ≤ 1000) : ∃ (r : List S49) (a' s' : Int), r.length ≤ 2000 ∧ 0 ≤ a' ∧ a' ≤ 3000000 ∧ Ev (fun k => spec_l22Draw.f k l a s) (r, a', s') := by
  unfold spec_l22Draw.f spec_l22DrawOk.f
  obtain ⟨v, a1, s1, e1, _, _, b1, b2⟩ := pick_ok l hb a s 160 h0 (by omega) (by omega)
  obtain ⟨v2, a2, s2, e2, v20, v21, b3, b4⟩ := pick_ok l hb a1 s1 4 (by omega) (by omega) (by omega)
  obtain ⟨n, rfl⟩ := Int.eq_ofNat_of_zero_le v20
  have hn : n ≤ 4 := by rcases v21 with h | h <;> omega
  obtain ⟨r, a3, s3, r1, r2, b5, b6, ev⟩ := drawOk22_l0 l hb n (by omega) [(⟨0, wrap64 (40 + v)⟩ : S49)] 0 a2 s2 (by simp; omega) (by omega) (by omega)
  have hr : 0 < r.length := by simpa using r2
  obtain ⟨v4, a4, s4, e4, _, _, b7, b8⟩ := pick_ok l hb a3 s3 20 (by omega) (by omega) (by omega)
  simp only [e1, e2, Option.bind_some]
  by_cases c0 : v4 = 0
  · obtain ⟨v5, a5, s5, e5, _, b9, b10⟩ := among_ok l hb a4 s4 [1, -1] (by omega) (by omega) (by simp) (by simp)
    refine ⟨r.set (0 : Int).toNat (⟨v5, (rd_T49 r 0).f1⟩ : S49), a5, s5, by rw [List.length_set]; omega, by omega, by omega, Ev.bind ev ?_⟩
    simp only [e4, Option.bind_some]
    refine Ev.pos c0 ?_
    rw [e5]
    exact Ev.some (by simp only [Option.bind_some]; rw [if_pos (by omega)])
  by_cases c1 : v4 = 1
  · obtain ⟨v5, a5, s5, e5, _, b9, b10⟩ := among_ok l hb a4 s4 [9, 10, 600, 601] (by omega) (by omega) (by simp) (by simp)
    refine ⟨r.set (0 : Int).toNat (⟨(rd_T49 r 0).f0, v5⟩ : S49), a5, s5, by rw [List.length_set]; omega, by omega, by omega, Ev.bind ev ?_⟩
    simp only [e4, Option.bind_some]
    refine Ev.neg c0 (Ev.pos c1 ?_)
    rw [e5]
    exact Ev.some (by simp only [Option.bind_some]; rw [if_pos (by omega)])
  by_cases c2 : v4 = 2
  · obtain ⟨v5, a5, s5, e5, _, b9, b10⟩ := among_ok l hb a4 s4 [0, 2000, 2001] (by omega) (by omega) (by simp) (by simp)
    refine ⟨r ++ [(⟨v5, 60⟩ : S49)], a5, s5, by simp; omega, by omega, by omega, Ev.bind ev ?_⟩
    simp only [e4, Option.bind_some]
    refine Ev.neg c0 (Ev.neg c1 (Ev.pos c2 ?_))
    rw [e5]
    exact Ev.some (by simp only [Option.bind_some]; rw [if_pos (by omega)])
  by_cases c3 : v4 = 3
  · obtain ⟨v5, a5, s5, e5, hv5, b9, b10⟩ := among_ok l hb a4 s4 [16, 17] (by omega) (by omega) (by simp) (by simp)
    have h5 : 0 ≤ v5 ∧ v5 ≤ 17 := by simp at hv5; omega
    obtain ⟨m, rfl⟩ := Int.eq_ofNat_of_zero_le h5.1
    obtain ⟨r5, q1, q2⟩ := draw22_l0 l a5 s5 m m (by omega) 0 [] (by omega) rfl
    refine ⟨r5, a5, s5, by omega, by omega, by omega, Ev.bind ev ?_⟩
    simp only [e4, Option.bind_some]
    refine Ev.neg c0 (Ev.neg c1 (Ev.neg c2 (Ev.pos c3 ?_)))
    simp only [e5, Option.bind_some]
    exact q2
  by_cases c4 : v4 = 4
  · refine ⟨r.take (0 : Int).toNat, a4, s4, by simp, by omega, by omega, Ev.bind ev ?_⟩
    simp only [e4, Option.bind_some]
    exact Ev.neg c0 (Ev.neg c1 (Ev.neg c2 (Ev.neg c3 (Ev.pos c4 (Ev.pos (by omega) (Ev.now _))))))
  · refine ⟨r, a4, s4, by omega, by omega, by omega, Ev.bind ev ?_⟩
    simp only [e4, Option.bind_some]
    exact Ev.neg c0 (Ev.neg c1 (Ev.neg c2 (Ev.neg c3 (Ev.neg c4 (Ev.now _)))))
theorem drawBeat22 (l : List Int) (hb : bytesB l) (a s : Int) (h0 : 0 ≤ a) (h1 : a ≤ 4000000) : ∃ (v a' s' : Int), 0 ≤ a' ∧ a' ≤ a + 10 ∧ spec_l22DrawBeat.f l a s = some (v, a', s') := by
  unfold spec_l22DrawBeat.f
  obtain ⟨v, a1, s1, e1, b1, b2⟩ := one_ok l hb a s 8 h0 (by omega) (by omega)
  rw [e1]
  simp only [Option.bind_some]
  cases v with
  | true =>
    obtain ⟨v2, a2, s2, e2, _, b3, b4⟩ := among_ok l hb a1 s1 [-1, 0, 2000, 2001] (by omega) (by omega) (by simp) (by simp)
    rw [if_pos rfl, e2]
    exact ⟨v2, a2, s2, by omega, by omega, rfl⟩
  | false =>
    obtain ⟨v2, a2, s2, e2, _, _, b3, b4⟩ := pick_ok l hb a1 s1 60 (by omega) (by omega) (by omega)
    rw [if_neg (by simp), e2]
    exact ⟨v2, a2, s2, by omega, by omega, rfl⟩
def dgs (f : Nat) (m : Nat) : List Int := match f with
  | 0 => []
  | f + 1 => if m = 0 then [] else (48 + (m % 10 : Nat) : Int) :: dgs f (m / 10)
theorem dgs_len (f : Nat) : ∀ m, (dgs f m).length ≤ f := by
  induction f with
  | zero => intro m; simp [dgs]
  | succ f ih =>
    intro m
    simp only [dgs]
    split
    · simp
    · have := ih (m / 10); simp only [List.length_cons]; omega
theorem dgs_zero (f : Nat) : dgs f 0 = [] := by cases f <;> simp [dgs]
theorem dgs_dec (f : Nat) : ∀ m, m < 10 ^ f → 0 < m → ((dgs f m).reverse.map fun n => UInt8.ofNat n.toNat) = Lib.decDigits m := by
  induction f with
  | zero => intro m h1 h2; omega
  | succ f ih =>
    intro m h1 h2
    have e : (48 + ((m % 10 : Nat) : Int)).toNat = 48 + m % 10 := by omega
    simp only [dgs, if_neg (show ¬ m = 0 by omega), List.reverse_cons, List.map_append, List.map_cons, List.map_nil, e]
    by_cases h : m < 10
    · rw [show m / 10 = 0 by omega, dgs_zero, Lib.decDigits_one h, show m % 10 = m by omega]; rfl
    · rw [ih (m / 10) (by rw [Nat.pow_succ] at h1; omega) (by omega)]
      conv => rhs; rw [Lib.decDigits, dif_neg h]
def dec (n : Int) : ByteArray := ⟨(Lib.itoa n).toArray⟩
theorem iDec (n : Int) (h : 0 ≤ n ∧ n ≤ 9000000000000000000) : impl_Decimal.f n = some (dec n) := by
  unfold impl_Decimal.f strconv_FormatInt.f
  rw [if_pos ⟨rfl, by omega, by omega⟩]; rfl
theorem dec_size (n : Int) (h : 0 ≤ n ∧ n ≤ 9000000000000000000) : (dec n).size ≤ 20 := by
  obtain ⟨m, rfl⟩ := Int.eq_ofNat_of_zero_le h.1
  have e : (dec (m : Int)).size = (Lib.decDigits m).length := by
    unfold dec Lib.itoa
    rw [if_neg (by omega), Int.toNat_natCast]; rfl
  rw [e]
  by_cases h0 : m = 0
  · subst h0; rw [Lib.decDigits_one (by omega)]; simp
  · rw [← dgs_dec 19 m (by omega) (by omega), List.length_map, List.length_reverse]
    have := dgs_len 19 m; omega
def item (y : S49) : ByteArray := dec y.f0 ++ (⟨#[58]⟩ : ByteArray) ++ dec y.f1
def textOf (l : List S49) : ByteArray := ⟨(Lib.join ((l.map item).map (·.data.toList)) [32]).toArray⟩
theorem textOf_nil : textOf [] = (⟨#[]⟩ : ByteArray) := rfl
theorem textOf_one (y : S49) : textOf [y] = item y := by
  unfold textOf
  rw [List.map_cons, List.map_nil, List.map_cons, List.map_nil, Lib.join_one]
theorem textOf_snoc (l : List S49) (hl : l ≠ []) (y : S49) : textOf (l ++ [y]) = textOf l ++ (⟨#[32]⟩ : ByteArray) ++ item y := by
  cases l with
  | nil => exact absurd rfl hl
  | cons x r =>
    unfold textOf
    rw [List.cons_append, List.map_cons, List.map_cons, List.map_cons, List.map_cons, Lib.join_cons, Lib.join_cons]
    apply ByteArray.ext
    rw [ByteArray.data_append, ByteArray.data_append]
    apply Array.ext'
    simp [Lib.joinTail]
def okTM (y : S49) : Prop := (0 ≤ y.f0 ∧ y.f0 ≤ 9000000000000000000) ∧ 0 ≤ y.f1 ∧ y.f1 ≤ 9000000000000000000
theorem item_size (y : S49) (h : okTM y) : (item y).size ≤ 41 := by
  unfold item
  have h1 := dec_size y.f0 h.1
  have h2 := dec_size y.f1 h.2
  rw [ByteArray.size_append, ByteArray.size_append]
  have : (⟨#[58]⟩ : ByteArray).size = 1 := rfl
  omega
theorem take_snoc (l : List S49) (i : Nat) (h : i < l.length) : l.take (i + 1) = l.take i ++ [l.getD i z49] := by
  rw [List.take_add_one, List.getElem?_eq_getElem h, List.getD_eq_getElem?_getD, List.getElem?_eq_getElem h]; rfl
theorem txt_size (l : List S49) (h : ∀ j, j < l.length → okTM (l.getD j z49)) : ∀ i, i ≤ l.length → (textOf (l.take i)).size ≤ 42 * i := by
  intro i
  induction i with
  | zero => intro _; rw [List.take_zero, textOf_nil]; exact Nat.le_refl _
  | succ i ih =>
    intro hi
    have h1 := ih (by omega)
    have h2 := item_size _ (h i (by omega))
    rw [take_snoc l i (by omega)]
    by_cases h0 : i = 0
    · subst h0
      rw [List.take_zero, List.nil_append, textOf_one]; omega
    · rw [textOf_snoc _ (by intro e; have := congrArg List.length e; rw [List.length_take, List.length_nil] at this; omega), ByteArray.size_append, ByteArray.size_append]
      have : (⟨#[32]⟩ : ByteArray).size = 1 := rfl
      omega
theorem iText_l0 (l : List S49) (hl : l.length ≤ 1000) (h : ∀ j, j < l.length → okTM (l.getD j z49)) (d : Nat) : ∀ i : Nat, i + d = l.length → Ev (fun k => impl_TempoText.l0 k ((l.take i).map item) l (l.length : Int) (i : Int)) (textOf l) := by
  induction d with
  | zero =>
    intro i hi
    have hs := txt_size l h l.length (Nat.le_refl _)
    rw [List.take_of_length_le (Nat.le_refl _)] at hs
    have hj : (Lib.join ((l.map item).map (·.data.toList)) [32]).length ≤ 42 * l.length := hs
    refine Ev.shift ?_
    simp only [impl_TempoText.l0]
    rw [List.take_of_length_le (by omega)]
    refine Ev.neg (by omega) ?_
    unfold strings_Join.f
    rw [if_pos ⟨by rw [List.length_map]; omega, by show (Lib.join ((l.map item).map (·.data.toList)) [32]).length ≤ _; omega⟩]
    exact Ev.now _
  | succ d ih =>
    intro i hi
    have w1 : wrap64 ((i : Int) + 1) = ((i + 1 : Nat) : Int) := by rw [wid (by omega)]; rfl
    have hy := h i (by omega)
    have d0 := iDec _ hy.1
    have d1 := iDec _ hy.2
    have z0 := dec_size _ hy.1
    have z1 := dec_size _ hy.2
    have e58 : (⟨#[58]⟩ : ByteArray).size = 1 := rfl
    have ih' := ih (i + 1) (by omega)
    rw [take_snoc l i (by omega), List.map_append] at ih'
    refine Ev.shift ?_
    simp only [impl_TempoText.l0, rdTM, w1, d0, d1, Option.bind_some]
    clear w1
    exact Ev.pos (by omega) (Ev.pos (by omega) (Ev.pos (by omega) (Ev.pos (by omega) (Ev.pos (by rw [ByteArray.size_append]; omega) (Ev.pos (by rw [List.length_map, List.length_take]; omega) ih')))))
def digB (c : UInt8) : Bool := decide (48 ≤ c.toNat ∧ c.toNat ≤ 57)
def valD (acc : Nat) : List UInt8 → Nat
  | [] => acc
  | c :: r => valD (acc * 10 + (c.toNat - 48)) r
theorem digB_t {c : UInt8} (h : digB c = true) : 48 ≤ c.toNat ∧ c.toNat ≤ 57 := of_decide_eq_true h
theorem valD_snoc (t : List UInt8) (c : UInt8) : ∀ acc, valD acc (t ++ [c]) = valD acc t * 10 + (c.toNat - 48) := by
  induction t with
  | nil => intro acc; rfl
  | cons x r ih => intro acc; exact ih _
theorem valD_ge (t : List UInt8) : ∀ acc, acc ≤ valD acc t := by
  induction t with
  | nil => intro acc; exact Nat.le_refl _
  | cons x r ih =>
    intro acc
    have h1 := ih (acc * 10 + (x.toNat - 48))
    show acc ≤ valD (acc * 10 + (x.toNat - 48)) r
    generalize x.toNat - 48 = d at h1 ⊢
    omega
theorem valD_lt (t : List UInt8) (h : t.all digB = true) : ∀ acc k, acc < 10 ^ k → valD acc t < 10 ^ (k + t.length) := by
  induction t with
  | nil => intro acc k ha; exact ha
  | cons x r ih =>
    intro acc k ha
    simp only [List.all_cons, Bool.and_eq_true] at h
    have hx := digB_t h.1
    have := ih h.2 (acc * 10 + (x.toNat - 48)) (k + 1) (by rw [Nat.pow_succ]; omega)
    rw [List.length_cons, show k + (r.length + 1) = k + 1 + r.length by omega]
    exact this
theorem parseM_ok (M : Nat) (t : List UInt8) : ∀ acc u, Lib.parseUintM M acc t = .ok u → t.all digB = true ∧ u = valD acc t := by
  induction t with
  | nil =>
    intro acc u h
    simp only [Lib.parseUintM] at h
    exact ⟨rfl, (Lib.NumEnd.ok.inj h).symm⟩
  | cons x r ih =>
    intro acc u h
    simp only [Lib.parseUintM] at h
    split at h
    · rename_i hd
      split at h
      · cases h
      · split at h
        · cases h
        · obtain ⟨a, b⟩ := ih _ _ h
          exact ⟨by simp only [List.all_cons, Bool.and_eq_true]; exact ⟨decide_eq_true hd, a⟩, b⟩
    · cases h
theorem parseM_of (M : Nat) (t : List UInt8) (h : t.all digB = true) : ∀ acc, valD acc t ≤ M → valD acc t ≤ 1000000000000000000 → Lib.parseUintM M acc t = .ok (valD acc t) := by
  induction t with
  | nil => intro acc _ _; rfl
  | cons x r ih =>
    intro acc h1 h2
    simp only [List.all_cons, Bool.and_eq_true] at h
    have hx := digB_t h.1
    have hg := valD_ge r (acc * 10 + (x.toNat - 48))
    have h1' : valD (acc * 10 + (x.toNat - 48)) r ≤ M := h1
    have h2' : valD (acc * 10 + (x.toNat - 48)) r ≤ 1000000000000000000 := h2
    have e := ih h.2 _ h1' h2'
    show (if 48 ≤ x.toNat ∧ x.toNat ≤ 57 then _ else _) = Lib.NumEnd.ok (valD (acc * 10 + (x.toNat - 48)) r)
    rw [if_pos hx]
    generalize x.toNat - 48 = d at hg h1' h2' e ⊢
    clear h1 h2
    rw [if_neg (by omega), if_neg (by omega)]
    exact e
theorem dec_len (k : Nat) : ∀ n, n < 10 ^ (k + 1) → (Lib.decDigits n).length ≤ k + 1 := by
  induction k with
  | zero => intro n h; rw [Lib.decDigits_one (by omega)]; exact Nat.le_refl _
  | succ k ih =>
    intro n h
    by_cases c : n < 10
    · rw [Lib.decDigits_one c]; simp
    · rw [Lib.decDigits, dif_neg c, List.length_append]
      have := ih (n / 10) (by rw [Nat.pow_succ] at h; omega)
      simp only [List.length_cons, List.length_nil]
      omega
theorem dig_back {c : UInt8} (h : digB c = true) : UInt8.ofNat (48 + (c.toNat - 48)) = c := by
  have := digB_t h
  rw [show 48 + (c.toNat - 48) = c.toNat by omega]
  exact UInt8.ofNat_toNat
theorem valD_pos (t : List UInt8) (c : UInt8) (h : (c :: t).all digB = true) (hc : c.toNat ≠ 48) : 1 ≤ valD 0 (c :: t) := by
  simp only [List.all_cons, Bool.and_eq_true] at h
  have hx := digB_t h.1
  have := valD_ge t (0 * 10 + (c.toNat - 48))
  show 1 ≤ valD (0 * 10 + (c.toNat - 48)) t
  omega
/-- The numeral of what digits spell is these digits, where the first one is no zero. -/
theorem dec_val (c : UInt8) (hc : c.toNat ≠ 48) (n : Nat) : ∀ t : List UInt8, t.length = n → (c :: t).all digB = true → Lib.decDigits (valD 0 (c :: t)) = c :: t := by
  induction n with
  | zero =>
    intro t ht h
    obtain rfl := List.length_eq_zero_iff.1 ht
    simp only [List.all_cons, Bool.and_eq_true] at h
    have hx := digB_t h.1
    show Lib.decDigits (0 * 10 + (c.toNat - 48)) = [c]
    rw [Lib.decDigits_one (by omega), show 48 + (0 * 10 + (c.toNat - 48)) = 48 + (c.toNat - 48) by omega, dig_back h.1]
  | succ n ih =>
    intro t ht h
    have hne : t ≠ [] := by intro e; rw [e] at ht; simp at ht
    obtain ⟨t', x, rfl⟩ : ∃ t' x, t = t' ++ [x] := ⟨t.dropLast, t.getLast hne, (List.dropLast_concat_getLast hne).symm⟩
    have h' : (c :: t').all digB = true := by
      simp only [List.all_cons, List.all_append, Bool.and_eq_true] at h ⊢
      exact ⟨h.1, h.2.1⟩
    have hx : digB x = true := by
      simp only [List.all_cons, List.all_append, Bool.and_eq_true, List.all_nil, Bool.and_true] at h
      exact h.2.2
    have ih' := ih t' (by simpa using ht) h'
    have hp := valD_pos t' c h' hc
    have e : valD 0 (c :: (t' ++ [x])) = valD 0 (c :: t') * 10 + (x.toNat - 48) := valD_snoc (c :: t') x 0
    have hd := digB_t hx
    rw [e, Lib.decDigits, dif_neg (by omega), show (valD 0 (c :: t') * 10 + (x.toNat - 48)) / 10 = valD 0 (c :: t') by omega, show (valD 0 (c :: t') * 10 + (x.toNat - 48)) % 10 = x.toNat - 48 by omega, ih', dig_back hx]
    rfl
theorem dec_zero (c : UInt8) (hc : c.toNat = 48) (t : List UInt8) (h : (c :: t).all digB = true) : Lib.decDigits (valD 0 (c :: t)) = c :: t ↔ t = [] := by
  constructor
  · intro e
    cases t with
    | nil => rfl
    | cons x r =>
      simp only [List.all_cons, Bool.and_eq_true] at h
      have e1 : valD 0 (c :: x :: r) = valD 0 (x :: r) := by
        show valD (0 * 10 + (c.toNat - 48)) (x :: r) = _
        rw [hc]
      have hv := valD_lt (x :: r) (by simp only [List.all_cons, Bool.and_eq_true]; exact h.2) 0 0 (by decide)
      have hl := dec_len r.length (valD 0 (x :: r)) (by simpa using hv)
      rw [← e1, e] at hl
      simp only [List.length_cons] at hl
      omega
  · rintro rfl
    show Lib.decDigits (0 * 10 + (c.toNat - 48)) = [c]
    rw [hc, Lib.decDigits_one (by omega)]
    have : c = UInt8.ofNat 48 := by rw [← hc]; exact UInt8.ofNat_toNat.symm
    rw [this]
theorem dec_head (n : Nat) : ∀ c, c ∈ Lib.decDigits n → 48 ≤ c.toNat ∧ c.toNat ≤ 57 := by
  induction n using Nat.strongRecOn with
  | ind n ih =>
    intro c hc
    by_cases h : n < 10
    · rw [Lib.decDigits_one h] at hc
      obtain rfl := List.mem_singleton.1 hc
      rw [UInt8.toNat_ofNat', Nat.mod_eq_of_lt (by omega)]
      omega
    · rw [Lib.decDigits, dif_neg h] at hc
      rcases List.mem_append.1 hc with h1 | h1
      · exact ih (n / 10) (by omega) c h1
      · obtain rfl := List.mem_singleton.1 h1
        rw [UInt8.toNat_ofNat', Nat.mod_eq_of_lt (by omega)]
        omega
/-- The digits of a numeral, behind its sign. -/
def tailD (l : List UInt8) : List UInt8 := match l with
  | [] => []
  | c :: r => if c.toNat = 45 then r else c :: r
def negD (l : List UInt8) : Bool := match l with
  | [] => false
  | c :: _ => decide (c.toNat = 45)
def okNum (l : List UInt8) : Bool := !(tailD l).isEmpty && decide ((tailD l).length ≤ 18) && (tailD l).all digB && !(decide (((tailD l).headD 0).toNat = 48) && decide (1 < l.length))
theorem okNum_iff (l : List UInt8) : okNum l = true ↔ tailD l ≠ [] ∧ (tailD l).length ≤ 18 ∧ (tailD l).all digB = true ∧ ¬ (((tailD l).headD 0).toNat = 48 ∧ 1 < l.length) := by
  unfold okNum
  simp only [Bool.and_eq_true, Bool.not_eq_true', Bool.and_eq_false_iff, decide_eq_true_eq, decide_eq_false_iff_not, List.isEmpty_eq_false_iff]
  constructor
  · rintro ⟨⟨⟨a, b⟩, c⟩, d⟩
    exact ⟨a, b, c, fun q => d.elim (fun z => z q.1) (fun z => z q.2)⟩
  · rintro ⟨a, b, c, d⟩
    refine ⟨⟨⟨a, b⟩, c⟩, ?_⟩
    by_cases h : ((tailD l).headD 0).toNat = 48
    · exact .inr (fun q => d ⟨h, q⟩)
    · exact .inl h
def numOf (l : List UInt8) : Int × Bool := if okNum l = true then (if negD l = true then -((valD 0 (tailD l) : Nat) : Int) else ((valD 0 (tailD l) : Nat) : Int), true) else (0, false)
theorem ba_ext {a b : ByteArray} (h : a.data.toList = b.data.toList) : a = b := by apply ByteArray.ext; apply Array.ext'; exact h
theorem pow18 (t : List UInt8) (h : t.all digB = true) (hl : t.length ≤ 18) : valD 0 t < 1000000000000000000 := by
  have := valD_lt t h 0 0 (by decide)
  rw [Nat.zero_add] at this
  exact Nat.lt_of_lt_of_le this (Nat.pow_le_pow_right (by decide) hl)
theorem itoa_ne (c : UInt8) (r : List UInt8) (h1 : ¬ c.toNat = 45) (h2 : ¬ (48 ≤ c.toNat ∧ c.toNat ≤ 57)) (v : Int) : ¬ Lib.itoa v = c :: r := by
  intro h
  by_cases hv : v < 0
  · obtain ⟨u, hu⟩ := Int.eq_ofNat_of_zero_le (show 0 ≤ -v by omega)
    rw [show v = -(u : Int) by omega, Lib.itoa_neg u (by omega)] at h
    have := (List.cons.inj h).1
    exact h1 (by rw [← this]; rfl)
  · obtain ⟨u, hu⟩ := Int.eq_ofNat_of_zero_le (show 0 ≤ v by omega)
    rw [hu, Lib.itoa_nonneg u] at h
    have hh := dec_head u c (by rw [h]; simp)
    exact h2 hh
theorem numOf_bad {l : List UInt8} (h : ¬ (tailD l ≠ [] ∧ (tailD l).length ≤ 18 ∧ (tailD l).all digB = true ∧ ¬ (((tailD l).headD 0).toNat = 48 ∧ 1 < l.length))) : numOf l = (0, false) := by
  unfold numOf
  rw [if_neg (fun q => h ((okNum_iff l).1 q))]
theorem numOf_good {l : List UInt8} (h : tailD l ≠ [] ∧ (tailD l).length ≤ 18 ∧ (tailD l).all digB = true ∧ ¬ (((tailD l).headD 0).toNat = 48 ∧ 1 < l.length)) : numOf l = (if negD l = true then -((valD 0 (tailD l) : Nat) : Int) else ((valD 0 (tailD l) : Nat) : Int), true) := by
  unfold numOf
  rw [if_pos ((okNum_iff l).2 h)]
/-- What ReadDecimal tells, by lists. -/
def rdL (l : List UInt8) : Int × Bool := match Lib.parseIntB 64 l with
  | .ok v => if (Lib.trimPrefix l [45]).length ≤ 18 then (if Lib.itoa v = l then (v, true) else (0, false)) else (0, false)
  | _ => (0, false)
theorem rdL_ok {l : List UInt8} {v : Int} (h : Lib.parseIntB 64 l = .ok v) : rdL l = if (Lib.trimPrefix l [45]).length ≤ 18 then (if Lib.itoa v = l then (v, true) else (0, false)) else (0, false) := by
  unfold rdL; rw [h]
theorem rdL_no {l : List UInt8} (h : ∀ v, Lib.parseIntB 64 l ≠ .ok v) : rdL l = (0, false) := by
  unfold rdL
  cases hp : Lib.parseIntB 64 l with
  | ok v => exact absurd hp (h v)
  | «syntax» => rfl
  | range => rfl
theorem rdL_minus (r : List UInt8) : rdL (45 :: r) = numOf (45 :: r) := by
  have p63 : (2 : Nat) ^ (64 - 1) = 9223372036854775808 := by decide
  have p64 : (2 : Nat) ^ 64 - 1 = 18446744073709551615 := by decide
  have tl : tailD (45 :: r) = r := rfl
  have ng : negD (45 :: r) = true := rfl
  have tp : Lib.trimPrefix (45 :: r) [45] = r := by simp [Lib.trimPrefix, Lib.hasPrefix]
  have pe := Lib.parseIntB_minus 64 r
  rw [p63] at pe
  by_cases hr : r = []
  · subst hr
    rw [numOf_bad (fun q => q.1 tl), rdL_no (fun v => by rw [pe]; simp [Lib.parseUintB, Lib.signedC])]
  have pu : Lib.parseUintB 64 r = Lib.parseUintM 18446744073709551615 0 r := by unfold Lib.parseUintB; rw [if_neg hr, p64]
  rw [pu] at pe
  by_cases hd : r.all digB = true
  · by_cases h18 : r.length ≤ 18
    · have hv := pow18 _ hd h18
      rw [parseM_of _ _ hd 0 (by omega) (by omega)] at pe
      have pe' : Lib.parseIntB 64 (45 :: r) = .ok (-((valD 0 r : Nat) : Int)) := by
        rw [pe]; simp only [Lib.signedC]; rw [if_neg (by omega)]
      rw [rdL_ok pe', tp, if_pos h18]
      obtain ⟨x, q, rfl⟩ : ∃ x q, r = x :: q := List.exists_cons_of_ne_nil hr
      by_cases h48 : x.toNat = 48
      · rw [numOf_bad (l := 45 :: x :: q) (fun z => z.2.2.2 ⟨h48, by simp⟩), if_neg]
        intro h
        by_cases hz : valD 0 (x :: q) = 0
        · rw [hz, show (-((0 : Nat) : Int)) = ((0 : Nat) : Int) by omega, Lib.itoa_nonneg 0] at h
          exact absurd (dec_head 0 45 (by rw [h]; simp)) (by decide)
        · rw [Lib.itoa_neg _ (by omega)] at h
          have h3 := (dec_zero x h48 q hd).1 (List.cons.inj h).2
          subst h3
          apply hz
          show 0 * 10 + (x.toNat - 48) = 0
          rw [h48]
      · have hp := valD_pos q x hd h48
        rw [numOf_good (l := 45 :: x :: q) ⟨by rw [tl]; simp, by rw [tl]; exact h18, by rw [tl]; exact hd, fun z => h48 z.1⟩, Lib.itoa_neg _ hp, dec_val x h48 q.length q rfl hd, if_pos rfl, ng, if_pos rfl, tl]
    · rw [numOf_bad (fun z => h18 (by have := z.2.1; rwa [tl] at this))]
      cases hp : Lib.parseIntB 64 (45 :: r) with
      | ok v => rw [rdL_ok hp, tp, if_neg h18]
      | «syntax» => exact rdL_no (fun v => by rw [hp]; simp)
      | range => exact rdL_no (fun v => by rw [hp]; simp)
  · rw [numOf_bad (fun z => hd (by have := z.2.2.1; rwa [tl] at this)), rdL_no]
    intro v
    rw [pe]
    cases hu : Lib.parseUintM 18446744073709551615 0 r with
    | ok u => exact absurd (parseM_ok _ _ _ _ hu).1 hd
    | «syntax» => simp [Lib.signedC]
    | range => simp [Lib.signedC]
theorem rdL_plain (c : UInt8) (r : List UInt8) (c45 : ¬ c.toNat = 45) : rdL (c :: r) = numOf (c :: r) := by
  have p63 : (2 : Nat) ^ (64 - 1) = 9223372036854775808 := by decide
  have p64 : (2 : Nat) ^ 64 - 1 = 18446744073709551615 := by decide
  have tl : tailD (c :: r) = c :: r := by simp only [tailD]; rw [if_neg c45]
  have ng : negD (c :: r) = false := decide_eq_false c45
  have tp : Lib.trimPrefix (c :: r) [45] = c :: r := by
    have : Lib.hasPrefix (c :: r) [45] = false := by
      simp only [Lib.hasPrefix, List.isPrefixOf, Bool.and_true]
      exact beq_eq_false_iff_ne.2 (fun h => c45 (by rw [← h]; rfl))
    unfold Lib.trimPrefix
    rw [this]; rfl
  by_cases c43 : c.toNat = 43
  · have hnd : ¬ (c :: r).all digB = true := by
      rw [List.all_cons, show digB c = false from decide_eq_false (by rw [c43]; omega), Bool.false_and]
      decide
    rw [numOf_bad (fun z => hnd (by have := z.2.2.1; rwa [tl] at this))]
    cases hp : Lib.parseIntB 64 (c :: r) with
    | ok v =>
      rw [rdL_ok hp, if_neg (itoa_ne c r c45 (by rw [c43]; omega) v)]
      split <;> rfl
    | «syntax» => exact rdL_no (fun v => by rw [hp]; simp)
    | range => exact rdL_no (fun v => by rw [hp]; simp)
  have pe := Lib.parseIntB_plain 64 c r c43 c45
  have pu : Lib.parseUintB 64 (c :: r) = Lib.parseUintM 18446744073709551615 0 (c :: r) := by unfold Lib.parseUintB; rw [if_neg (by simp), p64]
  rw [p63, pu] at pe
  by_cases hd : (c :: r).all digB = true
  · by_cases h18 : (c :: r).length ≤ 18
    · have hv := pow18 _ hd h18
      rw [parseM_of _ _ hd 0 (by omega) (by omega)] at pe
      have pe' : Lib.parseIntB 64 (c :: r) = .ok ((valD 0 (c :: r) : Nat) : Int) := by
        rw [pe]; simp only [Lib.signlessC]; rw [if_neg (by omega)]
      rw [rdL_ok pe', tp, if_pos h18, Lib.itoa_nonneg]
      by_cases hz : c.toNat = 48 ∧ r ≠ []
      · have hlen : 1 < (c :: r).length := by
          obtain ⟨y, z, e⟩ := List.exists_cons_of_ne_nil hz.2
          rw [e]; simp
        rw [numOf_bad (fun q => q.2.2.2 ⟨by rw [tl]; exact hz.1, hlen⟩), if_neg (fun h => hz.2 ((dec_zero c hz.1 r hd).1 h))]
      · have hdec : Lib.decDigits (valD 0 (c :: r)) = c :: r := by
          by_cases h48 : c.toNat = 48
          · exact (dec_zero c h48 r hd).2 (by
              by_cases hr : r = []
              · exact hr
              · exact absurd ⟨h48, hr⟩ hz)
          · exact dec_val c h48 r.length r rfl hd
        rw [hdec, if_pos rfl, numOf_good ⟨by rw [tl]; simp, by rw [tl]; exact h18, by rw [tl]; exact hd, fun q => hz ⟨by have := q.1; rwa [tl] at this, fun e => by have := q.2; rw [e] at this; simp at this⟩⟩, ng, if_neg (by decide), tl]
    · rw [numOf_bad (fun z => h18 (by have := z.2.1; rwa [tl] at this))]
      cases hp : Lib.parseIntB 64 (c :: r) with
      | ok v => rw [rdL_ok hp, tp, if_neg h18]
      | «syntax» => exact rdL_no (fun v => by rw [hp]; simp)
      | range => exact rdL_no (fun v => by rw [hp]; simp)
  · rw [numOf_bad (fun z => hd (by have := z.2.2.1; rwa [tl] at this)), rdL_no]
    intro v
    rw [pe]
    cases hu : Lib.parseUintM 18446744073709551615 0 (c :: r) with
    | ok u => exact absurd (parseM_ok _ _ _ _ hu).1 hd
    | «syntax» => simp [Lib.signlessC]
    | range => simp [Lib.signlessC]
theorem rdDec_num (s : ByteArray) : rdDec s = numOf s.data.toList := by
  have e : rdDec s = rdL s.data.toList := by
    unfold rdDec rdL
    cases Lib.parseIntB 64 s.data.toList with
    | ok v =>
      simp only
      split
      · by_cases h : Lib.itoa v = s.data.toList
        · rw [if_pos h, if_pos (ba_ext h)]
        · rw [if_neg h, if_neg (fun q => h (by rw [← q]))]
      · rfl
    | «syntax» => rfl
    | range => rfl
  rw [e]
  cases hl : s.data.toList with
  | nil => rw [numOf_bad (fun q => q.1 rfl), rdL_no (fun v => by simp [Lib.parseIntB])]
  | cons c r =>
    by_cases c45 : c.toNat = 45
    · obtain rfl : c = 45 := by
        have : c = UInt8.ofNat 45 := by rw [← c45]; exact UInt8.ofNat_toNat.symm
        exact this
      exact rdL_minus r
    · exact rdL_plain c r c45
theorem ba_toL (s : ByteArray) : s.toList = s.data.toList := by
  obtain ⟨⟨l⟩⟩ := s
  simp
def glue (p : List UInt8) : List (List UInt8) → List (List UInt8)
  | [] => [p]
  | h :: t => (p ++ h) :: t
/-- A text in its pieces. -/
def spl (c : UInt8) : List UInt8 → List (List UInt8)
  | [] => [[]]
  | x :: r => if x = c then [] :: spl c r else glue [x] (spl c r)
theorem glue_len (p : List UInt8) (ps : List (List UInt8)) (h : ps ≠ []) : (glue p ps).length = ps.length := by
  cases ps with
  | nil => exact absurd rfl h
  | cons a t => rfl
theorem glue_ne (p : List UInt8) (ps : List (List UInt8)) : glue p ps ≠ [] := by cases ps <;> simp [glue]
theorem spl_ne (c : UInt8) (l : List UInt8) : spl c l ≠ [] := by
  cases l with
  | nil => simp [spl]
  | cons x r => simp only [spl]; split; simp; exact glue_ne _ _
theorem spl_len (c : UInt8) (l : List UInt8) : (spl c l).length ≤ l.length + 1 := by
  induction l with
  | nil => simp [spl]
  | cons x r ih =>
    simp only [spl]
    split
    · simp only [List.length_cons]; omega
    · rw [glue_len _ _ (spl_ne c r)]; simp only [List.length_cons]; omega
theorem glue_glue (p q : List UInt8) (ps : List (List UInt8)) (h : ps ≠ []) : glue p (glue q ps) = glue (p ++ q) ps := by
  cases ps with
  | nil => exact absurd rfl h
  | cons a t => simp [glue]
theorem glue_nil (ps : List (List UInt8)) (h : ps ≠ []) : glue [] ps = ps := by
  cases ps with
  | nil => exact absurd rfl h
  | cons a t => rfl
def baOf (l : List UInt8) : ByteArray := ⟨l.toArray⟩
def parts (s : ByteArray) (c : UInt8) : List ByteArray := (spl c s.data.toList).map baOf
theorem baOf_data (s : ByteArray) : baOf s.data.toList = s := ba_ext rfl
theorem sK_c (c : UInt8) (k : Nat) (r : List UInt8) : Lib.splitK [c] 0 (k + 1) (c :: r) = [] :: Lib.splitK [c] 0 k r := by
  have h : Lib.index (c :: r) [c] = 0 := by rw [Lib.index_one]; simp [Lib.indexByte]
  simp only [Lib.splitK, h]
  rw [if_neg (by decide)]
  rfl
theorem sK_cons (c x : UInt8) (hx : x ≠ c) (k : Nat) (r : List UInt8) : Lib.splitK [c] 0 (k + 1) (x :: r) = glue [x] (Lib.splitK [c] 0 (k + 1) r) := by
  simp only [Lib.splitK, Lib.index_one]
  have hb : (x == c) = false := beq_eq_false_iff_ne.2 hx
  have hg := Lib.indexByte_ge r c
  by_cases h : Lib.indexByte r c = -1
  · have e : Lib.indexByte (x :: r) c = -1 := by simp [Lib.indexByte, hb, h]
    rw [e, h, if_pos (by decide), if_pos (by decide)]
    rfl
  · have hn : (Lib.indexByte r c == -1) = false := beq_eq_false_iff_ne.2 h
    have e : Lib.indexByte (x :: r) c = Lib.indexByte r c + 1 := by simp [Lib.indexByte, hb, hn]
    obtain ⟨i, hi⟩ := Int.eq_ofNat_of_zero_le (show 0 ≤ Lib.indexByte r c by omega)
    rw [e, hi, if_neg (by rw [beq_iff_eq]; omega), if_neg (by rw [beq_iff_eq]; omega), show ((i : Int) + 1).toNat = i + 1 by omega, Int.toNat_natCast]
    rfl
theorem sK_all (c : UInt8) (l : List UInt8) : ∀ k, (spl c l).length ≤ k + 1 → Lib.splitK [c] 0 k l = spl c l := by
  induction l with
  | nil =>
    intro k _
    cases k with
    | zero => rfl
    | succ k => simp [Lib.splitK, Lib.index, spl]
  | cons x r ih =>
    intro k hk
    by_cases hx : x = c
    · subst hx
      simp only [spl] at hk ⊢
      rw [if_pos trivial] at hk ⊢
      have := List.length_pos_iff.2 (spl_ne x r)
      simp only [List.length_cons] at hk
      obtain ⟨k', rfl⟩ : ∃ k', k = k' + 1 := ⟨k - 1, by omega⟩
      rw [sK_c, ih k' (by omega)]
    · simp only [spl] at hk ⊢
      rw [if_neg hx] at hk ⊢
      rw [glue_len _ _ (spl_ne c r)] at hk
      cases k with
      | zero =>
        have := ih 0 hk
        rw [← this]
        rfl
      | succ k => rw [sK_cons c x hx, ih (k + 1) hk]
theorem sK_more (c : UInt8) (l : List UInt8) : ∀ k, k + 1 < (spl c l).length → ∃ p, p ∈ Lib.splitK [c] 0 k l ∧ c ∈ p := by
  induction l with
  | nil => intro k hk; simp [spl] at hk
  | cons x r ih =>
    intro k hk
    by_cases hx : x = c
    · subst hx
      simp only [spl] at hk
      rw [if_pos trivial] at hk
      simp only [List.length_cons] at hk
      cases k with
      | zero => exact ⟨x :: r, by simp [Lib.splitK], by simp⟩
      | succ k =>
        obtain ⟨p, hp, hc⟩ := ih k (by omega)
        exact ⟨p, by rw [sK_c]; exact List.mem_cons_of_mem _ hp, hc⟩
    · simp only [spl] at hk
      rw [if_neg hx, glue_len _ _ (spl_ne c r)] at hk
      obtain ⟨p, hp, hc⟩ := ih k hk
      cases k with
      | zero =>
        have : p = r := by simpa [Lib.splitK] using hp
        subst this
        exact ⟨x :: p, by simp [Lib.splitK], List.mem_cons_of_mem _ hc⟩
      | succ k =>
        rw [sK_cons c x hx]
        generalize Lib.splitK [c] 0 (k + 1) r = ps at hp
        cases ps with
        | nil => cases hp
        | cons a t =>
          rcases List.mem_cons.1 hp with rfl | h
          · exact ⟨x :: p, by simp [glue], List.mem_cons_of_mem _ hc⟩
          · exact ⟨p, by simp [glue, h], hc⟩
theorem splitB_small (sep : ByteArray) (k : Nat) : ∀ (s p : ByteArray), p ∈ Lib.splitB sep 0 k s → p.size ≤ s.size := by
  induction k with
  | zero =>
    intro s p hp
    obtain rfl := List.mem_singleton.1 hp
    exact Nat.le_refl _
  | succ k ih =>
    intro s p hp
    unfold Lib.splitB at hp
    split at hp
    · obtain rfl := List.mem_singleton.1 hp
      exact Nat.le_refl _
    · rcases List.mem_cons.1 hp with rfl | h
      · rw [ByteArray.size_extract]; omega
      · have := ih _ p h
        rw [ByteArray.size_extract] at this
        omega
/-- Pieces of a text, one more than asked for at most. -/
theorem iSplit (s : ByteArray) (c : UInt8) (n : Nat) (hs : s.size ≤ 2000000) (h1 : 1 ≤ n) (hn : n ≤ 1000000) : ∃ P : List ByteArray, strings_SplitN.f s ⟨#[c]⟩ (n : Int) = some P ∧ P.length ≤ n ∧ (∀ p ∈ P, p.size ≤ 281474976710656) ∧ ((parts s c).length ≤ n → P = parts s c) ∧ (n < (parts s c).length → ∃ p ∈ P, c ∈ p.data.toList) := by
  have hsz := Lib.size_eq s
  refine ⟨Lib.splitB ⟨#[c]⟩ 0 (min n (s.size + 1) - 1) s, ?_, ?_, ?_, ?_, ?_⟩
  · unfold strings_SplitN.f
    rw [if_pos ⟨by omega, by show 1 ≤ 1; omega, by omega, by omega⟩, Int.toNat_natCast]
  · have := Lib.splitB_length_le ⟨#[c]⟩ 0 (min n (s.size + 1) - 1) s
    omega
  · intro p hp
    have := splitB_small ⟨#[c]⟩ (min n (s.size + 1) - 1) s p hp
    omega
  · intro h
    have hl := spl_len c s.data.toList
    have e := Lib.splitB_data ⟨#[c]⟩ 0 (min n (s.size + 1) - 1) s
    have hp : (parts s c).length = (spl c s.data.toList).length := by unfold parts; rw [List.length_map]
    have e2 : Lib.splitK [c] 0 (min n (s.size + 1) - 1) s.data.toList = spl c s.data.toList := sK_all c _ _ (by omega)
    rw [show ((⟨#[c]⟩ : ByteArray).data.toList) = [c] from rfl, e2] at e
    unfold parts
    rw [← e, List.map_map]
    exact (List.map_id'' (fun p => baOf_data p) _).symm
  · intro h
    have hl := spl_len c s.data.toList
    have e := Lib.splitB_data ⟨#[c]⟩ 0 (min n (s.size + 1) - 1) s
    have hp : (parts s c).length = (spl c s.data.toList).length := by unfold parts; rw [List.length_map]
    obtain ⟨p, hp1, hc⟩ := sK_more c s.data.toList (min n (s.size + 1) - 1) (by omega)
    rw [show ((⟨#[c]⟩ : ByteArray).data.toList) = [c] from rfl] at e
    rw [← e] at hp1
    obtain ⟨q, hq, rfl⟩ := List.mem_map.1 hp1
    exact ⟨q, hq, hc⟩
theorem numOf_mem (l : List UInt8) (c : UInt8) (hc : c ∈ l) (h1 : c.toNat ≠ 45) (h2 : digB c = false) : (numOf l).2 = false := by
  rw [numOf_bad]
  rintro ⟨_, _, h3, _⟩
  have : c ∈ tailD l := by
    cases l with
    | nil => cases hc
    | cons x r =>
      simp only [tailD]
      split
      · rename_i h45
        rcases List.mem_cons.1 hc with rfl | h
        · exact absurd h45 h1
        · exact h
      · exact hc
  have := List.all_eq_true.1 h3 c this
  rw [h2] at this
  cases this
theorem numOf_itoa {l : List UInt8} (h : (numOf l).2 = true) : Lib.itoa (numOf l).1 = l ∧ -9223372036854775808 ≤ (numOf l).1 ∧ (numOf l).1 ≤ 9223372036854775807 := by
  have e : rdL l = numOf l := by
    have := rdDec_num (baOf l)
    rw [show (baOf l).data.toList = l from rfl] at this
    rw [← this]
    unfold rdDec rdL
    rw [show (baOf l).data.toList = l from rfl]
    cases Lib.parseIntB 64 l with
    | ok v =>
      simp only
      split
      · by_cases h : Lib.itoa v = l
        · rw [if_pos h, if_pos (ba_ext h)]
        · rw [if_neg h, if_neg (fun q => h (by have := congrArg (fun z : ByteArray => z.data.toList) q; exact this))]
      · rfl
    | «syntax» => rfl
    | range => rfl
  rw [← e] at h ⊢
  unfold rdL at h ⊢
  cases hp : Lib.parseIntB 64 l with
  | ok v =>
    rw [hp] at h
    simp only at h ⊢
    have hb := Lib.parseIntB_bounds hp
    rw [show ((2 ^ (64 - 1) : Nat) : Int) = 9223372036854775808 by decide] at hb
    by_cases h1 : (Lib.trimPrefix l [45]).length ≤ 18
    · rw [if_pos h1] at h ⊢
      by_cases h2 : Lib.itoa v = l
      · rw [if_pos h2] at h ⊢
        exact ⟨h2, by show -9223372036854775808 ≤ v; omega, by show v ≤ 9223372036854775807; omega⟩
      · rw [if_neg h2] at h; cases h
    · rw [if_neg h1] at h; cases h
  | «syntax» => rw [hp] at h; cases h
  | range => rw [hp] at h; cases h
theorem rdOf_get (P : List ByteArray) (i : Nat) (h : i < P.length) : rdOf ByteArray.empty P (i : Int) = P[i] := by
  unfold rdOf
  rw [Int.toNat_natCast, List.getD_eq_getElem?_getD, List.getElem?_eq_getElem h]; rfl
theorem join_spl (c : UInt8) (l : List UInt8) : Lib.join (spl c l) [c] = l := by
  have hg : ∀ (x : UInt8) (ps : List (List UInt8)), ps ≠ [] → Lib.join (glue [x] ps) [c] = x :: Lib.join ps [c] := by
    intro x ps h
    cases ps with
    | nil => exact absurd rfl h
    | cons a t => simp only [glue]; rw [Lib.join_cons, Lib.join_cons]; rfl
  induction l with
  | nil => rfl
  | cons x r ih =>
    simp only [spl]
    by_cases hx : x = c
    · rw [if_pos hx, Lib.join_cons]
      obtain ⟨a, t, e⟩ := List.exists_cons_of_ne_nil (spl_ne c r)
      rw [e] at ih ⊢
      rw [Lib.join_cons] at ih
      rw [List.nil_append]
      unfold Lib.joinTail at ih ⊢
      rw [List.map_cons, List.flatten_cons, List.append_assoc, ih, hx]
      rfl
    · rw [if_neg hx, hg x _ (spl_ne c r), ih]
theorem parts_small (s : ByteArray) (c : UInt8) : ∀ p ∈ parts s c, p.size ≤ s.size := by
  have key : ∀ l : List UInt8, ∀ q ∈ spl c l, q.length ≤ l.length := by
    intro l
    induction l with
    | nil => intro q hq; simp [spl] at hq; rw [hq]; exact Nat.le_refl _
    | cons x r ih =>
      intro q hq
      simp only [spl] at hq
      split at hq
      · rcases List.mem_cons.1 hq with rfl | h
        · simp
        · have := ih q h; simp only [List.length_cons]; omega
      · cases hs : spl c r with
        | nil => exact absurd hs (spl_ne c r)
        | cons a t =>
          rw [hs] at hq ih
          simp only [glue] at hq
          rcases List.mem_cons.1 hq with rfl | h
          · have := ih a (by simp); simp only [List.length_cons, List.length_append, List.length_nil]; omega
          · have := ih q (by simp [h]); simp only [List.length_cons]; omega
  intro p hp
  obtain ⟨q, hq, rfl⟩ := List.mem_map.1 hp
  have := key _ q hq
  rw [Lib.size_eq s]
  exact this
def ttR (l : List S49) : ByteArray := if tempoB l = true then textOf l else (⟨#[]⟩ : ByteArray)
theorem tempo_ok {l : List S49} (h : tempoB l = true) : l.length ≤ 1000 ∧ ∀ j, j < l.length → okTM (l.getD j z49) := by
  have h1 := tempoB_len h
  refine ⟨by omega, fun j hj => ?_⟩
  have h2 := tempoB_get h j hj
  exact ⟨by omega, by omega⟩
theorem ttI (l : List S49) (hl : l.length ≤ 17592186044416) : Ev (fun k => impl_TempoText.f k l) (ttR l) := by
  unfold impl_TempoText.f ttR
  refine Ev.bind (iTempo l hl) ?_
  by_cases h : tempoB l = true
  · obtain ⟨h1, h2⟩ := tempo_ok h
    rw [if_pos h]
    refine Ev.pos h ?_
    have := iText_l0 l h1 h2 l.length 0 (by omega)
    rw [List.take_zero, List.map_nil] at this
    exact this
  · rw [if_neg h]
    exact Ev.neg h (Ev.now _)
theorem cut_nil (c : UInt8) : Lib.cut [] [c] = ([], [], false) := by
  unfold Lib.cut
  rw [if_neg (by rw [Lib.index_one]; simp [Lib.indexByte])]
theorem cut_hit (c : UInt8) (r : List UInt8) : Lib.cut (c :: r) [c] = ([], r, true) := by
  have h : Lib.index (c :: r) [c] = 0 := by rw [Lib.index_one]; simp [Lib.indexByte]
  unfold Lib.cut
  rw [h, if_pos (by decide)]
  rfl
theorem cut_miss (c x : UInt8) (hx : x ≠ c) (r : List UInt8) : Lib.cut (x :: r) [c] = (x :: (Lib.cut r [c]).1, (Lib.cut r [c]).2.1, (Lib.cut r [c]).2.2) ∨ (Lib.cut (x :: r) [c] = (x :: r, [], false) ∧ Lib.cut r [c] = (r, [], false)) := by
  have hb : (x == c) = false := beq_eq_false_iff_ne.2 hx
  have hg := Lib.indexByte_ge r c
  unfold Lib.cut
  simp only [Lib.index_one]
  by_cases h : Lib.indexByte r c = -1
  · have e : Lib.indexByte (x :: r) c = -1 := by simp [Lib.indexByte, hb, h]
    right
    rw [e, h, if_neg (by decide), if_neg (by decide)]
    exact ⟨rfl, rfl⟩
  · have hn : (Lib.indexByte r c == -1) = false := beq_eq_false_iff_ne.2 h
    have e : Lib.indexByte (x :: r) c = Lib.indexByte r c + 1 := by simp [Lib.indexByte, hb, hn]
    obtain ⟨i, hi⟩ := Int.eq_ofNat_of_zero_le (show 0 ≤ Lib.indexByte r c by omega)
    left
    rw [e, hi, if_pos (by omega), if_pos (by omega), show ((i : Int) + 1).toNat = i + 1 by omega, Int.toNat_natCast]
    refine Prod.ext rfl (Prod.ext ?_ rfl)
    show List.drop (i + 1 + 1) (x :: r) = List.drop (i + 1) r
    rfl
theorem spl_cut (c : UInt8) (l : List UInt8) : ((Lib.cut l [c]).2.2 = true ∧ spl c l = (Lib.cut l [c]).1 :: spl c (Lib.cut l [c]).2.1) ∨ ((Lib.cut l [c]).2.1 = [] ∧ spl c l = [l]) := by
  induction l with
  | nil => right; rw [cut_nil]; exact ⟨rfl, rfl⟩
  | cons x r ih =>
    simp only [spl]
    by_cases hx : x = c
    · subst hx
      rw [if_pos rfl, cut_hit]; left; exact ⟨rfl, rfl⟩
    · rw [if_neg hx]
      rcases cut_miss c x hx r with e | ⟨e1, e2⟩
      · rw [e]
        rcases ih with ⟨h1, h2⟩ | ⟨h1, h2⟩
        · left; refine ⟨h1, ?_⟩; rw [h2]; rfl
        · right; refine ⟨h1, ?_⟩; rw [h2]; rfl
      · rw [e1]; rw [e2] at ih
        rcases ih with ⟨h1, h2⟩ | ⟨h1, h2⟩
        · cases h1
        · right; refine ⟨rfl, ?_⟩; rw [h2]; rfl
theorem spl_one (c : UInt8) (m : List UInt8) (h : c ∉ m) : spl c m = [m] := by
  induction m with
  | nil => rfl
  | cons x r ih =>
    simp only [spl]
    rw [if_neg (fun e => h (by rw [e]; exact List.mem_cons_self)), ih (fun q => h (List.mem_cons_of_mem _ q))]
    rfl
theorem spl_two (c : UInt8) (m : List UInt8) (h : c ∈ m) : 2 ≤ (spl c m).length := by
  induction m with
  | nil => cases h
  | cons x r ih =>
    simp only [spl]
    by_cases hx : x = c
    · rw [if_pos hx, List.length_cons]
      have := List.length_pos_iff.2 (spl_ne c r); omega
    · rw [if_neg hx, glue_len _ _ (spl_ne c r)]
      rcases List.mem_cons.1 h with e | e
      · exact absurd e.symm hx
      · exact ih e
def cA (p : ByteArray) : List UInt8 := (Lib.cut p.data.toList [58]).1
def cB (p : ByteArray) : List UInt8 := (Lib.cut p.data.toList [58]).2.1
def mkT (p : ByteArray) : S49 := ⟨(numOf (cA p)).1, (numOf (cB p)).1⟩
def okT (p : ByteArray) : Bool := (numOf (cA p)).2 && (numOf (cB p)).2
theorem two_spl (p : ByteArray) (h : (spl 58 p.data.toList).length = 2) : spl 58 p.data.toList = [cA p, cB p] := by
  rcases spl_cut 58 p.data.toList with ⟨_, h2⟩ | ⟨_, h2⟩
  · have h3 := h
    rw [h2, List.length_cons] at h3
    rw [h2]
    by_cases hm : 58 ∈ (Lib.cut p.data.toList [58]).2.1
    · have := spl_two 58 _ hm; omega
    · rw [spl_one 58 _ hm]; rfl
  · rw [h2, List.length_singleton] at h; omega
theorem okT_spl (p : ByteArray) (h : okT p = true) : spl 58 p.data.toList = [cA p, cB p] := by
  unfold okT at h
  rw [Bool.and_eq_true] at h
  rcases spl_cut 58 p.data.toList with ⟨_, h2⟩ | ⟨h1, _⟩
  · rw [h2]
    by_cases hm : 58 ∈ (Lib.cut p.data.toList [58]).2.1
    · have := numOf_mem (cB p) 58 hm (by decide) (by decide)
      rw [this] at h; cases h.2
    · rw [spl_one 58 _ hm]; rfl
  · have h2 := h.2
    have e : cB p = [] := h1
    rw [e] at h2
    exact absurd h2 (by decide)
theorem cut_small (p : ByteArray) : (cA p).length ≤ p.size ∧ (cB p).length ≤ p.size := by
  have := Lib.size_eq p
  unfold cA cB Lib.cut
  split
  · simp only [List.length_take, List.length_drop]; omega
  · simp only [List.length_nil]; omega
def marksP (P : List ByteArray) : List S49 := P.map mkT
def okTP (P : List ByteArray) : Bool := P.all okT
def rdTm (s : ByteArray) : List S49 × Bool := if okTP (parts s 32) = true ∧ tempoB (marksP (parts s 32)) = true then (marksP (parts s 32), true) else ([], false)
theorem item_back (p : ByteArray) (h : okT p = true) : item (mkT p) = p := by
  have hs := okT_spl p h
  have hj := join_spl 58 p.data.toList
  rw [hs] at hj
  unfold okT at h
  rw [Bool.and_eq_true] at h
  have e1 := (numOf_itoa h.1).1
  have e2 := (numOf_itoa h.2).1
  apply ba_ext
  have e : (item (mkT p)).data.toList = Lib.itoa (numOf (cA p)).1 ++ [58] ++ Lib.itoa (numOf (cB p)).1 := by
    unfold item dec
    simp [mkT, ByteArray.data_append]
  rw [e, e1, e2, ← hj]
  simp [Lib.join_cons, Lib.joinTail]
theorem text_back (s : ByteArray) (h : okTP (parts s 32) = true) : textOf (marksP (parts s 32)) = s := by
  apply ba_ext
  unfold textOf
  have e : ((marksP (parts s 32)).map item).map (fun z => z.data.toList) = spl 32 s.data.toList := by
    unfold marksP parts
    rw [List.map_map, List.map_map, List.map_map]
    refine (List.map_congr_left fun p hp => ?_).trans (List.map_id _)
    have := List.all_eq_true.1 h (baOf p) (List.mem_map.2 ⟨p, hp, rfl⟩)
    exact congrArg (fun z : ByteArray => z.data.toList) (item_back _ this)
  show Lib.join _ [32] = _
  rw [e]
  exact join_spl 32 _
theorem marksP_take (P : List ByteArray) (i : Nat) (h : i < P.length) : (marksP P).take (i + 1) = (marksP P).take i ++ [mkT (P[i])] := by
  unfold marksP
  rw [List.take_add_one, List.getElem?_map, List.getElem?_eq_getElem h]; rfl
theorem okTP_drop (P : List ByteArray) (i : Nat) (h : i < P.length) : okTP (P.drop i) = (okT (P[i]) && okTP (P.drop (i + 1))) := by
  rw [List.drop_eq_getElem_cons h]; rfl
theorem splitN_small {s sep : ByteArray} {n : Int} {P : List ByteArray} (h : strings_SplitN.f s sep n = some P) : ∀ p ∈ P, p.size ≤ s.size := by
  unfold strings_SplitN.f at h
  split at h
  · obtain rfl := Option.some.inj h
    intro p hp
    exact splitB_small _ _ s p hp
  · cases h
theorem iRT_l0 (s : ByteArray) (P : List ByteArray) (hP : P.length ≤ 1000) (hsz : ∀ p ∈ P, p.size ≤ 2000000) (R : List S49 × Bool) (hfin : okTP P = true → Ev (fun k => (impl_TempoText.f k (marksP P)).bind fun t => if t.toList = s.toList then some (marksP P, true) else some (([] : List S49), false)) R) (hbad : okTP P = false → R = ([], false)) (d : Nat) : ∀ i, i + d = P.length → okTP (P.take i) = true → Ev (fun k => impl_ReadTempo.l0 k s ((marksP P).take i) P (P.length : Int) (i : Int)) R := by
  have hlen : (marksP P).length = P.length := by unfold marksP; rw [List.length_map]
  have hall : ∀ i, okTP P = (okTP (P.take i) && okTP (P.drop i)) := fun i => by
    unfold okTP
    rw [← List.all_append, List.take_append_drop]
  induction d with
  | zero =>
    intro i hi hok
    have hokP : okTP P = true := by rwa [List.take_of_length_le (by omega)] at hok
    refine Ev.shift ?_
    simp only [impl_ReadTempo.l0]
    rw [List.take_of_length_le (by omega)]
    exact Ev.neg (by omega) (hfin hokP)
  | succ d ih =>
    intro i hi hok
    have hil : i < P.length := by omega
    have w1 : wrap64 ((i : Int) + 1) = ((i + 1 : Nat) : Int) := by rw [wid (by omega)]; rfl
    have hps := hsz _ (List.getElem_mem hil)
    have hcs := cut_small (P[i])
    have hc : strings_Cut.f (P[i]) (⟨#[58]⟩ : ByteArray) = some (baOf (cA (P[i])), baOf (cB (P[i])), (Lib.cut (P[i]).data.toList [58]).2.2) := by
      unfold strings_Cut.f
      rw [if_pos (by omega)]; rfl
    have hr1 : impl_ReadDecimal.f (baOf (cA (P[i]))) = some (numOf (cA (P[i]))) := by
      unfold impl_ReadDecimal.f
      rw [if_pos (by rw [Lib.size_eq]; show (cA (P[i])).length ≤ _; omega), rdDec_num]; rfl
    have hr2 : impl_ReadDecimal.f (baOf (cB (P[i]))) = some (numOf (cB (P[i]))) := by
      unfold impl_ReadDecimal.f
      rw [if_pos (by rw [Lib.size_eq]; show (cB (P[i])).length ≤ _; omega), rdDec_num]; rfl
    refine Ev.shift ?_
    simp only [impl_ReadTempo.l0, w1, rdOf_get P i hil, hc, hr1, hr2, Option.bind_some]
    clear w1 hr1 hr2 hc
    refine Ev.pos (by omega) (Ev.pos (by omega) (Ev.pos (by omega) ?_))
    have bad : okT (P[i]) = false → R = ([], false) := fun h => hbad (by rw [hall i, okTP_drop P i hil, h, Bool.false_and, Bool.and_false])
    by_cases ha : (numOf (cA (P[i]))).2 = true
    · refine Ev.pos ha ?_
      by_cases hb : (numOf (cB (P[i]))).2 = true
      · have h2 : okT (P[i]) = true := by unfold okT; rw [ha, hb]; rfl
        have := ih (i + 1) (by omega) (by
          unfold okTP at hok ⊢
          rw [List.take_add_one, List.getElem?_eq_getElem hil, List.all_append, hok, Bool.true_and]
          simp [h2])
        rw [marksP_take P i hil] at this
        exact Ev.pos hb (Ev.pos (by rw [List.length_take]; omega) this)
      · rw [bad (by unfold okT; simp [hb])]
        exact Ev.neg hb (Ev.now _)
    · rw [bad (by unfold okT; simp [ha])]
      exact Ev.neg ha (Ev.now _)
theorem iReadT (s : ByteArray) (hs : s.size ≤ 2000000) : Ev (fun k => impl_ReadTempo.f k s) (rdTm s) := by
  unfold impl_ReadTempo.f rdTm
  obtain ⟨P, hP, hlen, _, hall, hmore⟩ := iSplit s 32 17 hs (by omega) (by omega)
  rw [show ((17 : Nat) : Int) = 17 from rfl] at hP
  have hsz := splitN_small hP
  rw [hP]
  simp only [Option.bind_some]
  have fin : ∀ R, (okTP P = true → Ev (fun k => (impl_TempoText.f k (marksP P)).bind fun t => if t.toList = s.toList then some (marksP P, true) else some (([] : List S49), false)) R) → (okTP P = false → R = ([], false)) → Ev (fun k => impl_ReadTempo.l0 k s [] P (P.length : Int) 0) R := fun R h1 h2 => by
    have := iRT_l0 s P (by omega) (fun p hp => by have := hsz p hp; omega) R h1 h2 P.length 0 (by omega) rfl
    rwa [List.take_zero] at this
  have hempty : ∀ (h : okTP (parts s 32) = true), ¬ ((⟨#[]⟩ : ByteArray).toList = s.toList) := by
    intro h e
    rw [ba_toL, ba_toL] at e
    have hn : s.data.toList = [] := e.symm
    unfold parts at h
    rw [hn] at h
    exact absurd h (by decide)
  by_cases h17 : (parts s 32).length ≤ 17
  · have eP := hall h17
    rw [eP] at fin ⊢
    have hlenN : (marksP (parts s 32)).length = (parts s 32).length := by unfold marksP; rw [List.length_map]
    refine fin _ (fun hok => ?_) (fun hno => ?_)
    · have hL := ttI (marksP (parts s 32)) (by omega)
      unfold ttR at hL
      by_cases hc : tempoB (marksP (parts s 32)) = true
      · rw [if_pos hc, text_back s hok] at hL
        refine Ev.same (Ev.bind hL (Ev.pos rfl (Ev.now _))) ?_
        rw [if_pos ⟨hok, hc⟩]
      · rw [if_neg hc] at hL
        refine Ev.same (Ev.bind hL (Ev.neg (hempty hok) (Ev.now _))) ?_
        rw [if_neg (fun q => hc q.2)]
    · rw [if_neg (fun q => by have q1 := q.1; rw [hno] at q1; cases q1)]
  · have hbad : okTP P = false := by
      obtain ⟨p, hp, hc⟩ := hmore (by omega)
      cases h : okTP P with
      | false => rfl
      | true =>
        have h2 := List.all_eq_true.1 h p hp
        have hj := join_spl 58 p.data.toList
        rw [okT_spl p h2] at hj
        rw [← hj] at hc
        have h3 : 32 ∈ cA p ∨ 32 ∈ cB p := by simpa [Lib.join_cons, Lib.joinTail] using hc
        unfold okT at h2
        rw [Bool.and_eq_true] at h2
        rcases h3 with h3 | h3
        · rw [numOf_mem _ 32 h3 (by decide) (by decide)] at h2; cases h2.1
        · rw [numOf_mem _ 32 h3 (by decide) (by decide)] at h2; cases h2.2
    have hlong : ¬ tempoB (marksP (parts s 32)) = true := fun q => by
      have := (tempoB_len q).2
      unfold marksP at this
      rw [List.length_map] at this
      omega
    rw [if_neg (fun q => hlong q.2)]
    exact fin _ (fun hok => by rw [hbad] at hok; cases hok) (fun _ => rfl)
theorem rdTm_len (s : ByteArray) : (rdTm s).1.length ≤ 16 := by
  unfold rdTm
  split
  · rename_i h
    exact (tempoB_len h.2).2
  · simp
theorem numB : ((List.range 2001).all fun n => decide (numOf (Lib.itoa (n : Int)) = ((n : Int), true))) = true := by decide +kernel
theorem chB : ((List.range 2001).all fun n => (Lib.itoa (n : Int)).all fun c => decide (c ≠ 32 ∧ c ≠ 58)) = true := by decide +kernel
theorem num_itoa (x : Int) (h : 0 ≤ x ∧ x ≤ 2000) : numOf (Lib.itoa x) = (x, true) := by
  obtain ⟨n, rfl⟩ := Int.eq_ofNat_of_zero_le h.1
  exact of_decide_eq_true (List.all_eq_true.1 numB n (List.mem_range.2 (by omega)))
theorem ch_itoa (x : Int) (h : 0 ≤ x ∧ x ≤ 2000) : ∀ c ∈ Lib.itoa x, c ≠ 32 ∧ c ≠ 58 := by
  obtain ⟨n, rfl⟩ := Int.eq_ofNat_of_zero_le h.1
  intro c hc
  exact of_decide_eq_true (List.all_eq_true.1 (List.all_eq_true.1 chB n (List.mem_range.2 (by omega))) c hc)
theorem cut_join (c : UInt8) (b : List UInt8) (a : List UInt8) (h : c ∉ a) : Lib.cut (a ++ c :: b) [c] = (a, b, true) := by
  induction a with
  | nil => exact cut_hit c b
  | cons x a ih =>
    have hx : x ≠ c := fun e => h (by rw [e]; exact List.mem_cons_self)
    have i := ih (fun q => h (List.mem_cons_of_mem _ q))
    rcases cut_miss c x hx (a ++ c :: b) with e | ⟨_, e⟩
    · rw [List.cons_append, e, i]
    · rw [i] at e
      exact absurd (congrArg (fun z => z.2.2) e) (by simp)
theorem spl_app (c : UInt8) (r : List UInt8) (a : List UInt8) (h : c ∉ a) : spl c (a ++ c :: r) = a :: spl c r := by
  induction a with
  | nil => simp [spl]
  | cons x a ih =>
    rw [List.cons_append]
    simp only [spl]
    rw [if_neg (fun e => h (by rw [e]; exact List.mem_cons_self)), ih (fun q => h (List.mem_cons_of_mem _ q))]
    rfl
theorem spl_join (c : UInt8) (L : List (List UInt8)) (hn : L ≠ []) (h : ∀ p ∈ L, c ∉ p) : spl c (Lib.join L [c]) = L := by
  induction L with
  | nil => exact absurd rfl hn
  | cons a t ih =>
    cases t with
    | nil => rw [Lib.join_one]; exact spl_one c a (h a (by simp))
    | cons b t =>
      have i := ih (by simp) (fun p hp => h p (List.mem_cons_of_mem _ hp))
      have e : Lib.join (a :: b :: t) [c] = a ++ c :: Lib.join (b :: t) [c] := by
        rw [Lib.join_cons, Lib.join_cons]
        simp [Lib.joinTail]
      rw [e, spl_app c _ a (h a (by simp)), i]
def okM (y : S49) : Prop := (0 ≤ y.f0 ∧ y.f0 ≤ 2000) ∧ 0 ≤ y.f1 ∧ y.f1 ≤ 2000
theorem item_data (y : S49) : (item y).data.toList = Lib.itoa y.f0 ++ 58 :: Lib.itoa y.f1 := by
  unfold item dec
  simp [ByteArray.data_append]
theorem item_mk (y : S49) (h : okM y) : mkT (item y) = y ∧ okT (item y) = true ∧ 32 ∉ (item y).data.toList := by
  have c := cut_join 58 (Lib.itoa y.f1) (Lib.itoa y.f0) (fun q => (ch_itoa _ h.1 _ q).2 rfl)
  have a : cA (item y) = Lib.itoa y.f0 := by unfold cA; rw [item_data, c]
  have b : cB (item y) = Lib.itoa y.f1 := by unfold cB; rw [item_data, c]
  refine ⟨?_, ?_, ?_⟩
  · unfold mkT; rw [a, b, num_itoa _ h.1, num_itoa _ h.2]
  · unfold okT; rw [a, b, num_itoa _ h.1, num_itoa _ h.2]; rfl
  · rw [item_data]
    intro q
    rcases List.mem_append.1 q with q | q
    · exact (ch_itoa _ h.1 _ q).1 rfl
    · rcases List.mem_cons.1 q with q | q
      · exact absurd q (by decide)
      · exact (ch_itoa _ h.2 _ q).1 rfl
theorem rd_text (l : List S49) (v : tempoB l = true) : rdTm (textOf l) = (l, true) := by
  have hm : ∀ y ∈ l, okM y := fun y hy => by
    obtain ⟨j, hj, rfl⟩ := List.getElem_of_mem hy
    have := tempoB_get v j hj
    rw [List.getD_eq_getElem?_getD, List.getElem?_eq_getElem hj, Option.getD_some] at this
    exact ⟨this.1, by omega⟩
  have hne : l ≠ [] := by intro e; have := tempoB_len v; rw [e] at this; simp at this
  have hp : parts (textOf l) 32 = l.map item := by
    unfold parts
    have e : (textOf l).data.toList = Lib.join ((l.map item).map (·.data.toList)) [32] := rfl
    rw [e, spl_join 32 _ (by simpa using hne) (fun p hp => by
      obtain ⟨q, hq, rfl⟩ := List.mem_map.1 hp
      obtain ⟨y, hy, rfl⟩ := List.mem_map.1 hq
      exact (item_mk y (hm y hy)).2.2), List.map_map]
    exact List.map_id'' (fun p => baOf_data p) _
  have hmk : marksP (parts (textOf l) 32) = l := by
    rw [hp]; unfold marksP
    rw [List.map_map]
    exact (List.map_congr_left fun y hy => (item_mk y (hm y hy)).1).trans (List.map_id _)
  have hok : okTP (parts (textOf l) 32) = true := by
    rw [hp]; unfold okTP
    rw [List.all_eq_true]
    intro p hq
    obtain ⟨y, hy, rfl⟩ := List.mem_map.1 hq
    exact (item_mk y (hm y hy)).2.1
  unfold rdTm
  rw [hmk, if_pos ⟨hok, v⟩]
theorem atV_rangeG (beat lo hi : Int) (l : List S49) (h : ∀ x ∈ l, lo ≤ x.f1 ∧ x.f1 ≤ hi) (hn : l ≠ []) : lo ≤ atV beat l ∧ atV beat l ≤ hi := by
  induction l with
  | nil => exact absurd rfl hn
  | cons a l ih =>
    cases l with
    | nil => exact h a (by simp)
    | cons b l =>
      rw [atV]
      split
      · exact lineV_range _ _ _ _ _ _ _ (h a (by simp)) (h b (by simp))
      · exact ih (fun x hx => h x (by simp only [List.mem_cons] at hx ⊢; exact Or.inr hx)) (by simp)
theorem dr_anti (a b : Int) (ha : 10 ≤ a) (hab : a ≤ b) (hb : b ≤ 600) : dr 60000 b ≤ dr 60000 a := by
  have h1 := dr_low b (by omega)
  unfold dr at h1 ⊢
  rw [if_neg (by omega)] at h1 ⊢
  rw [if_neg (by omega)]
  have hq : (2 * 60000 + b) / (2 * b) * (2 * b) ≤ 2 * 60000 + b := Int.ediv_mul_le _ (by omega)
  generalize (2 * 60000 + b) / (2 * b) = q at h1 hq
  obtain ⟨e, rfl⟩ : ∃ e, b = a + e := ⟨b - a, by omega⟩
  refine Int.le_ediv_of_mul_le (by omega) ?_
  have m := Int.mul_nonneg (show 0 ≤ q - 1 by omega) (show 0 ≤ e by omega)
  have e1 : (q - 1) * e = q * e - e := by rw [Int.sub_mul, Int.one_mul]
  have e2 : q * (2 * (a + e)) = q * (2 * a) + 2 * (q * e) := by grind
  omega
theorem time_between (l : List S49) (lo hi : Int) (h10 : 10 ≤ lo) (h600 : hi ≤ 600) (h : ∀ x ∈ l, lo ≤ x.f1 ∧ x.f1 ≤ hi) (hn : l ≠ []) (n d : Nat) : (d : Int) * dr 60000 hi ≤ timeV l (n + d) - timeV l n ∧ timeV l (n + d) - timeV l n ≤ (d : Int) * dr 60000 lo := by
  induction d with
  | zero => simp
  | succ d ih =>
    have r := atV_rangeG ((n + d : Nat) : Int) lo hi l h hn
    have e : timeV l (n + (d + 1)) = timeV l (n + d) + dr 60000 (atV ((n + d : Nat) : Int) l) := rfl
    have a1 := dr_anti lo _ h10 r.1 (by omega)
    have a2 := dr_anti _ hi (by omega) r.2 h600
    have e1 : ((d + 1 : Nat) : Int) * dr 60000 hi = (d : Int) * dr 60000 hi + dr 60000 hi := by rw [Int.natCast_succ, Int.add_mul, Int.one_mul]
    have e2 : ((d + 1 : Nat) : Int) * dr 60000 lo = (d : Int) * dr 60000 lo + dr 60000 lo := by rw [Int.natCast_succ, Int.add_mul, Int.one_mul]
    rw [e1, e2, e]
    omega
theorem mean_between (D T slow fast : Int) (hD : 0 < D) (hT : 0 < T) (hf : 0 < fast) (h1 : D * fast ≤ T) (h2 : T ≤ D * slow) : 60000 - slow ≤ dr (60000 * D) T * slow ∧ dr (60000 * D) T * fast ≤ 60000 + fast ∧ 0 ≤ dr (60000 * D) T := by
  unfold dr
  rw [if_neg (by omega)]
  have q0 : 0 ≤ (2 * (60000 * D) + T) / (2 * T) := Int.ediv_nonneg (by omega) (by omega)
  have q1 : (2 * (60000 * D) + T) / (2 * T) * (2 * T) ≤ 2 * (60000 * D) + T := Int.ediv_mul_le _ (by omega)
  have q2 : 2 * (60000 * D) + T < ((2 * (60000 * D) + T) / (2 * T) + 1) * (2 * T) := Int.lt_ediv_add_one_mul_self _ (by omega)
  generalize (2 * (60000 * D) + T) / (2 * T) = q at q0 q1 q2
  refine ⟨?_, ?_, q0⟩
  · have m := Int.mul_le_mul_of_nonneg_left h2 q0
    have e1 : (q + 1) * (2 * T) = 2 * (q * T) + 2 * T := by grind
    have e2 : q * (D * slow) = D * (q * slow) := by grind
    have k : D * (120000 - slow) ≤ D * (2 * (q * slow)) := by
      have e3 : D * (120000 - slow) = 120000 * D - D * slow := by grind
      have e4 : D * (2 * (q * slow)) = 2 * (D * (q * slow)) := by grind
      omega
    have := Int.le_of_mul_le_mul_left k hD
    have hs : 0 ≤ slow := by
      by_cases c : 0 ≤ slow
      · exact c
      · have := Int.mul_neg_of_pos_of_neg hD (show slow < 0 by omega); omega
    omega
  · by_cases z : q = 0
    · rw [z]; omega
    · have m := Int.mul_le_mul_of_nonneg_left h1 (show 0 ≤ 2 * q - 1 by omega)
      have e1 : (2 * q - 1) * T = q * (2 * T) - T := by grind
      have e2 : (2 * q - 1) * (D * fast) = D * ((2 * q - 1) * fast) := by grind
      have k : D * ((2 * q - 1) * fast) ≤ D * 120000 := by omega
      have := Int.le_of_mul_le_mul_left k hD
      have e3 : (2 * q - 1) * fast = 2 * (q * fast) - fast := by grind
      omega
theorem iBeat (t : Int) (h : 10 ≤ t ∧ t ≤ 600) : impl_BeatTime.f t = some (dr 60000 t, 0) := by
  unfold impl_BeatTime.f impl_tempoOk.f
  rw [within_eq]
  simp only [Option.bind_some]
  rw [if_pos (decide_eq_true h), beatTime_eq t h]; rfl
theorem iBA_l0 (l : List S49) (t : Int) (r : Nat) (h2 : timeV l r ≤ t) (h3 : ∀ j, r < j → j ≤ 2000 → t < timeV l j) (d : Nat) : ∀ (i : Nat), i = r + d → i ≤ 2000 → Ev (fun k => impl_BeatAtTime.l0 k t (timesL l 2000) (i : Int)) ((r : Int), 0) := by
  have hlen := timesL_len l 2000
  induction d with
  | zero =>
    intro i hi hN
    obtain rfl : i = r := by omega
    refine Ev.shift ?_
    simp only [impl_BeatAtTime.l0]
    rw [rd_timesL l 2000 i hN]
    exact Ev.pos (by omega) (Ev.pos (by omega) (Ev.neg (by omega) (Ev.now _)))
  | succ d ih =>
    intro i hi hN
    have h4 := h3 i (by omega) hN
    refine Ev.shift ?_
    simp only [impl_BeatAtTime.l0]
    rw [rd_timesL l 2000 i hN]
    refine Ev.pos (by omega) (Ev.pos (by omega) (Ev.pos (by omega) ?_))
    rw [show wrap64 ((i : Int) - 1) = ((i - 1 : Nat) : Int) by rw [wid (by omega)]; omega]
    exact ih (i - 1) (by omega) (by omega)
theorem iBA (l : List S49) (v : tempoB l = true) (n : Nat) (hn : n ≤ 2000) : Ev (fun k => impl_BeatAtTime.f k l (timeV l n)) ((n : Int), 0) := by
  have hc := iTempo l (by have := tempoB_len v; omega)
  rw [v] at hc
  have hb := timeV_bd l v n
  unfold impl_BeatAtTime.f
  refine Ev.bind hc (Ev.pos rfl ?_)
  rw [within_eq]
  simp only [Option.bind_some]
  refine Ev.pos (decide_eq_true (by omega)) (Ev.bind (iTimes l v 2000 (Nat.le_refl _)) ?_)
  exact iBA_l0 l _ n (Int.le_refl _) (fun j hj _ => timeV_lt l v n j hj) (2000 - n) 2000 (by omega) (Nat.le_refl _)
theorem iTOB (l : List S49) (b : Int) (hl : l.length ≤ 17592186044416) : ∃ q, Ev (fun k => impl_TimeOfBeat.f k l b) q ∧ (q.2 = 0 → tempoB l = true ∧ ∃ n : Nat, b = n ∧ n ≤ 2000 ∧ q.1 = timeV l n) := by
  unfold impl_TimeOfBeat.f
  have hc := iCode l b b hl
  unfold tCode at hc
  cases v : tempoB l with
  | false =>
    rw [v, if_neg (show ¬ (false = true) by decide)] at hc
    exact ⟨(0, 1), Ev.bind hc (Ev.neg (by decide) (Ev.now _)), fun h => by cases h⟩
  | true =>
    rw [v, if_pos rfl] at hc
    by_cases h : 0 ≤ b ∧ b ≤ 2000
    · rw [if_pos (by omega)] at hc
      obtain ⟨n, rfl⟩ := Int.eq_ofNat_of_zero_le h.1
      have hn : n ≤ 2000 := by omega
      have hlen := timesL_len l n
      refine ⟨(timeV l n, 0), Ev.bind hc (Ev.pos rfl (Ev.bind (iTimes l v n hn) ?_)), fun _ => ⟨by first | rfl | trivial, n, rfl, hn, rfl⟩⟩
      refine Ev.pos (by omega) (Ev.pos (by omega) ?_)
      rw [rd_timesL l n n (Nat.le_refl _)]
      exact Ev.now _
    · rw [if_neg (by omega)] at hc
      exact ⟨(0, 2), Ev.bind hc (Ev.neg (by decide) (Ev.now _)), fun h => by cases h⟩
theorem iAtV (l : List S49) (v : tempoB l = true) (b : Int) (hb : 0 ≤ b ∧ b ≤ 2000) : Ev (fun k => impl_TempoAt.f k l b) (atV b l, 0) := by
  unfold impl_TempoAt.f
  have hl := tempoB_len v
  have hc := iCode l b b (by omega)
  unfold tCode at hc
  rw [v, if_pos rfl, if_pos (by omega)] at hc
  exact Ev.bind hc (Ev.pos rfl (Ev.bind (iAt l v b) (Ev.now _)))
theorem iMean (l : List S49) (a b : Int) (hl : l.length ≤ 17592186044416) : ∃ q, Ev (fun k => impl_MeanTempo.f k l a b) q ∧ (q.2 ≠ 0 → q.1 = 0) ∧ (q.2 = 0 → tempoB l = true ∧ ∃ n m : Nat, n < m ∧ m ≤ 2000 ∧ q.1 = dr (60000 * ((m : Int) - n)) (timeV l m - timeV l n)) := by
  unfold impl_MeanTempo.f
  have hc := iCode l a b hl
  unfold tCode at hc
  cases v : tempoB l with
  | false =>
    rw [v, if_neg (show ¬ (false = true) by decide)] at hc
    exact ⟨(0, 1), Ev.bind hc (Ev.neg (by decide) (Ev.now _)), fun _ => rfl, fun h => by cases h⟩
  | true =>
    rw [v, if_pos rfl] at hc
    by_cases h : 0 ≤ a ∧ a ≤ 2000 ∧ a ≤ b ∧ b ≤ 2000
    · rw [if_pos h] at hc
      obtain ⟨n, rfl⟩ := Int.eq_ofNat_of_zero_le h.1
      obtain ⟨m, rfl⟩ := Int.eq_ofNat_of_zero_le (show 0 ≤ b by omega)
      have hn : n ≤ 2000 := by omega
      have hm : m ≤ 2000 := by omega
      by_cases e : (n : Int) = (m : Int)
      · exact ⟨(0, 6), Ev.bind hc (Ev.pos rfl (Ev.pos e (Ev.now _))), fun _ => rfl, fun h => by cases h⟩
      · have hlt := timeV_lt l v n m (by omega)
        have hb1 := timeV_bd l v n
        have hb2 := timeV_bd l v m
        have e1 : wrap64 (60000 * wrap64 ((m : Int) - n)) = 60000 * ((m : Int) - n) := by rw [wid (x := (m : Int) - n) (by omega), wid (by omega)]
        have e2 : wrap64 (timeV l m - timeV l n) = timeV l m - timeV l n := wid (by omega)
        have hlen := timesL_len l m
        refine ⟨(dr (60000 * ((m : Int) - n)) (timeV l m - timeV l n), 0), Ev.bind hc (Ev.pos rfl (Ev.neg e (Ev.bind (iTimes l v m hm) ?_))), fun h => absurd rfl h, fun _ => ⟨by first | rfl | trivial, n, m, by omega, hm, rfl⟩⟩
        refine Ev.pos (by omega) (Ev.pos (by omega) (Ev.pos (by omega) (Ev.pos (by omega) ?_)))
        rw [rd_timesL l m m (Nat.le_refl _), rd_timesL l m n (by omega), e1, e2, implDiv _ _ (by omega) (by omega)]
        exact Ev.now _
    · rw [if_neg h] at hc
      exact ⟨(0, 2), Ev.bind hc (Ev.neg (by decide) (Ev.now _)), fun _ => rfl, fun h => by cases h⟩
theorem law_l1 (l : List S49) (v : tempoB l = true) (n m : Nat) (hnm : n < m) (hm : m ≤ 2000) (d : Nat) : ∀ (i : Nat) (lo hi : Int), i + d = l.length → 10 ≤ lo ∧ lo ≤ 600 → 10 ≤ hi ∧ hi ≤ 600 → (∀ j, j < i → lo ≤ (l.getD j z49).f1 ∧ (l.getD j z49).f1 ≤ hi) → Ev (fun k => laws_FnTempo.l1 k l (dr (60000 * ((m : Int) - n)) (timeV l m - timeV l n)) lo hi (i : Int)) true := by
  have hl16 := tempoB_len v
  induction d with
  | zero =>
    intro i lo hi h1 h2 h3 h4
    have hne : l ≠ [] := by intro e; rw [e] at hl16; simp at hl16
    have hx : ∀ x ∈ l, lo ≤ x.f1 ∧ x.f1 ≤ hi := fun x hx => by
      obtain ⟨j, hj, rfl⟩ := List.getElem_of_mem hx
      have := h4 j (by omega)
      rwa [List.getD_eq_getElem?_getD, List.getElem?_eq_getElem hj, Option.getD_some] at this
    have tb := time_between l lo hi h2.1 h3.2 hx hne n (m - n)
    rw [show n + (m - n) = m by omega, show ((m - n : Nat) : Int) = (m : Int) - n by omega] at tb
    have hT := timeV_lt l v n m hnm
    have f1 := dr_low hi h3
    have f2 := dr_range hi h3
    have s1 := dr_low lo h2
    have s2 := dr_range lo h2
    obtain ⟨r1, r2, r3⟩ := mean_between ((m : Int) - n) (timeV l m - timeV l n) (dr 60000 lo) (dr 60000 hi) (by omega) (by omega) (by omega) tb.1 tb.2
    refine Ev.shift ?_
    simp only [laws_FnTempo.l1, iBeat lo h2, iBeat hi h3, Option.bind_some]
    generalize dr (60000 * ((m : Int) - n)) (timeV l m - timeV l n) = q at r1 r2 r3
    have qb : q ≤ 60000 + 6001 := by
      have := Int.mul_le_mul_of_nonneg_left f1 r3
      omega
    have b1 : 0 ≤ q * dr 60000 lo := Int.mul_nonneg r3 (by omega)
    have b2 : q * dr 60000 lo ≤ 66001 * 6001 := Int.mul_le_mul qb s2.2 s2.1 (by omega)
    have b3 : 0 ≤ q * dr 60000 hi := Int.mul_nonneg r3 (by omega)
    have b4 : q * dr 60000 hi ≤ 66001 * 6001 := Int.mul_le_mul qb f2.2 f2.1 (by omega)
    have w1 : wrap64 (q * dr 60000 lo) = q * dr 60000 lo := wid (by omega)
    have w2 : wrap64 (q * dr 60000 hi) = q * dr 60000 hi := wid (by omega)
    have w3 : wrap64 (60000 - dr 60000 lo) = 60000 - dr 60000 lo := wid (by omega)
    have w4 : wrap64 (60000 + dr 60000 hi) = 60000 + dr 60000 hi := wid (by omega)
    rw [w1, w2, w3, w4]
    clear w1 w2 w3 w4
    refine Ev.neg (by omega) (Ev.pos (by trivial) (Ev.pos (by trivial) (Ev.pos r1 (Ev.some ?_))))
    rw [decide_eq_true r2]
  | succ d ih =>
    intro i lo hi h1 h2 h3 h4
    have g := (tempoB_get v i (by omega)).2
    have w1 : wrap64 ((i : Int) + 1) = ((i + 1 : Nat) : Int) := by rw [wid (by omega)]; rfl
    refine Ev.shift ?_
    simp only [laws_FnTempo.l1, rdTM, w1]
    clear w1
    refine Ev.pos (by omega) (Ev.pos (by omega) ?_)
    refine ih (i + 1) _ _ (by omega) (by unfold mn; split <;> omega) (by unfold mx; split <;> omega) (fun j hj => ?_)
    by_cases e : j = i
    · subst e
      unfold mn mx
      constructor <;> split <;> omega
    · have := h4 j (by omega)
      unfold mn mx
      constructor <;> split <;> omega
theorem law_j4 (x1 : List Int) (hb : bytesB x1) : Ev (fun k => laws_FnTempo.j4 k x1) true := by
  obtain ⟨m, a1, s1, m1, b1, b2, ev1⟩ := draw22 x1 hb 0 0 (by omega) (by omega)
  obtain ⟨from_, a2, s2, b3, b4, ev2⟩ := drawBeat22 x1 hb a1 s1 (by omega) (by omega)
  obtain ⟨w, a3, s3, ev3, b5, b6⟩ := one_ok x1 hb a2 s2 6 (by omega) (by omega) (by omega)
  have hd : ∃ until_, Ev (fun k => spec_DrawMeanTempo.f k x1) (m, from_, until_) := by
    cases w with
    | true =>
      obtain ⟨u, a4, s4, _, _, ev4⟩ := drawBeat22 x1 hb a3 s3 (by omega) (by omega)
      refine ⟨u, ?_⟩
      unfold spec_DrawMeanTempo.f spec_l00From.f
      simp only [Option.bind_some]
      refine Ev.bind ev1 ?_
      simp only [ev2, Option.bind_some, ev3, if_true, ev4]
      exact Ev.now _
    | false =>
      obtain ⟨u, a4, s4, ev4, _⟩ := pick_ok x1 hb a3 s3 30 (by omega) (by omega) (by omega)
      refine ⟨wrap64 (from_ + u), ?_⟩
      unfold spec_DrawMeanTempo.f spec_l00From.f
      simp only [Option.bind_some]
      refine Ev.bind ev1 ?_
      simp only [ev2, Option.bind_some, ev3, Bool.false_eq_true, if_false, ev4]
      exact Ev.now _
  obtain ⟨until_, hd⟩ := hd
  obtain ⟨q, hq, hne, hz⟩ := iMean m from_ until_ (by omega)
  refine Ev.shift ?_
  simp only [laws_FnTempo.j4]
  refine Ev.bind hd (Ev.bind hq ?_)
  by_cases c : q.2 = 0
  · obtain ⟨v, n, mm, hnm, hm, e⟩ := hz c
    refine Ev.pos c ?_
    rw [e]
    exact law_l1 m v n mm hnm hm m.length 0 600 10 (by omega) (by omega) (by omega) (fun j hj => by omega)
  · rw [hne c]
    exact Ev.neg c (Ev.some (by simp))
theorem law_l0 (x1 : List Int) (hb : bytesB x1) (l : List S49) (hl : l.length ≤ 1000) (d : Nat) : ∀ i : Nat, i + d = l.length → Ev (fun k => laws_FnTempo.l0 k x1 l l (i : Int)) true := by
  induction d with
  | zero =>
    intro i h
    refine Ev.shift ?_
    simp only [laws_FnTempo.l0]
    exact Ev.neg (by omega) (law_j4 x1 hb)
  | succ d ih =>
    intro i h
    have w1 : wrap64 ((i : Int) + 1) = ((i + 1 : Nat) : Int) := by rw [wid (by omega)]; rfl
    refine Ev.shift ?_
    simp only [laws_FnTempo.l0, w1]
    clear w1
    exact Ev.pos (by omega) (Ev.pos (by omega) (Ev.pos (by omega) (Ev.neg (by simp) (ih (i + 1) (by omega)))))
theorem law_j1 (x1 : List Int) (hb : bytesB x1) (l : List S49) (v : tempoB l = true) : Ev (fun k => laws_FnTempo.j1 k x1 l false) true := by
  have hl := tempoB_len v
  have ht := ttI l (by omega)
  unfold ttR at ht
  rw [if_pos v] at ht
  have hs := txt_size l (tempo_ok v).2 l.length (Nat.le_refl _)
  rw [List.take_of_length_le (Nat.le_refl _)] at hs
  have hr := iReadT (textOf l) (by omega)
  rw [rd_text l v] at hr
  refine Ev.shift ?_
  simp only [laws_FnTempo.j1]
  refine Ev.neg (by decide) (Ev.bind ht (Ev.bind hr (Ev.pos rfl (Ev.shift ?_))))
  simp only [laws_FnTempo.j2]
  exact Ev.neg (by simp) (law_l0 x1 hb l (by omega) l.length 0 (by omega))
theorem law_jf (x0 x1 : List Int) (h0 : bytesB x0) (h1 : bytesB x1) : Ev (fun k => laws_FnTempo.j0 k x0 x1 false) true := by
  obtain ⟨m, a1, s1, m1, b1, b2, ev1⟩ := draw22 x0 h0 0 0 (by omega) (by omega)
  obtain ⟨beat, a2, s2, b3, b4, ev2⟩ := drawBeat22 x0 h0 a1 s1 (by omega) (by omega)
  have hd : Ev (fun k => spec_DrawTimeOfBeat.f k x0) (m, beat) := by
    unfold spec_DrawTimeOfBeat.f spec_l00From.f
    simp only [Option.bind_some]
    refine Ev.bind ev1 ?_
    simp only [ev2, Option.bind_some]
    exact Ev.now _
  obtain ⟨q, hq, hz⟩ := iTOB m beat (by omega)
  refine Ev.shift ?_
  simp only [laws_FnTempo.j0]
  refine Ev.neg (by decide) (Ev.bind hd (Ev.bind hq ?_))
  by_cases c : q.2 = 0
  · obtain ⟨v, n, rfl, hn, e⟩ := hz c
    have hA := iBA m v n hn
    rw [← e] at hA
    have w1 : wrap64 ((n : Int) + 1) = ((n + 1 : Nat) : Int) := by rw [wid (by omega)]; rfl
    obtain ⟨q2, hq2, hz2⟩ := iTOB m ((n + 1 : Nat) : Int) (by omega)
    have hT := iAtV m v (n : Int) (by omega)
    have hBT := iBeat (atV (n : Int) m) (atV_tempo v _)
    have tb := timeV_bd m v n
    have hj := law_j1 x1 h1 m v
    refine Ev.pos c (Ev.bind hA ?_)
    simp only [w1]
    refine Ev.bind hq2 (Ev.bind hT ?_)
    simp only [hBT, Option.bind_some]
    refine Ev.neg (by rw [e]; omega) (Ev.pos trivial (Ev.pos trivial (Ev.pos trivial (Ev.pos trivial ?_))))
    by_cases c2 : q2.2 = 0
    · obtain ⟨_, n2, e2, _, e3⟩ := hz2 c2
      obtain rfl : n2 = n + 1 := by omega
      have hr := dr_range _ (atV_tempo v (n : Int))
      have e4 : q2.1 = wrap64 (q.1 + dr 60000 (atV (n : Int) m)) := by
        rw [e3, e, wid (by omega)]; rfl
      refine Ev.pos c2 ?_
      rw [e4]
      simp only [bne_self_eq_false]
      exact hj
    · exact Ev.neg c2 hj
  · exact Ev.neg c (law_j4 x1 h1)
theorem FnTempo : laws_FnTempo.Pure := by
  intro x0 x1 hx0 hx1
  have hb : ∀ l : List Int, (∀ x ∈ l, (Lit.int .u8 x).wf = true) → bytesB l := fun l hl j hj => by
    have h := hl _ (List.getElem_mem hj)
    rw [List.getD_eq_getElem?_getD, List.getElem?_eq_getElem hj, Option.getD_some]
    simp [Lit.wf, IntKind.min, IntKind.max, IntKind.signed, IntKind.bits] at h
    omega
  have h0 := hb x0 hx0.2
  have h1 := hb x1 hx1.2
  refine Ev.rounds (g := fun k => laws_FnTempo.f k x0 x1) ?_
  unfold laws_FnTempo.f laws_b10Long.f
  simp only [Option.bind_some]
  have jt : Ev (fun k => laws_FnTempo.j0 k x0 x1 true) true := by
    refine Ev.shift ?_
    simp only [laws_FnTempo.j0]
    exact Ev.pos trivial (Ev.now _)
  have jf := law_jf x0 x1 h0 h1
  by_cases c : (x0.length : Int) > 1048576
  · exact Ev.pos (decide_eq_true c) jt
  · refine Ev.neg (by simpa using c) ?_
    by_cases c1 : (x1.length : Int) > 1048576
    · rw [decide_eq_true c1]; exact jt
    · rw [decide_eq_false c1]; exact jf

end Go.Proofs.YtpekclmaikcehaaDoor.Pure
