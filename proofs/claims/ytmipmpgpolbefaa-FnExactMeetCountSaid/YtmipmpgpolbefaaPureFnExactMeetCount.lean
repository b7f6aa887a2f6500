/- The pure statement of the law FnExactMeetCount: what the Go functions compute, told by plain Lean functions, is what the law asks, for all arguments. No condition beyond the printed ones. -/
import Derived.Test.YtmipmpgpolbefaaPFnExactMeetCountxo
import Derived.Test.YtmipmpgpolbefaaXW
namespace Go.Proofs.Ytmipmpgpolbefaa.Pure
open Go.RowKit Go.Proofs.Ytmipmpgpolbefaa.PFnExactMeetCount Go.Proofs.YtmipmpgpolbefaaW.PrintWords Go.Proofs.YtmipmpgpolbefaaW.PrintLast Go.Proofs.YtmipmpgpolbefaaW.PrintMore Go.Proofs.YtmipmpgpolbefaaXW
set_option linter.unusedVariables false
set_option linter.unusedSimpArgs false
theorem in_eq (a b c : Int) : spec_l00In.f a b c = some (decide (b ≤ a ∧ a ≤ c)) := by
  unfold spec_l00In.f; split <;> simp_all; omega
theorem within_eq (a b c : Int) : impl_within.f a b c = some (decide (b ≤ a ∧ a ≤ c)) := by
  unfold impl_within.f; split <;> simp_all; omega
def layB (h b : Int) : Bool := decide (1 ≤ h ∧ h ≤ 32) && decide (1 ≤ b ∧ b ≤ 32)
theorem one_eq (h b : Int) : spec_l21One.f h b = some (layB h b, h, b) := by
  unfold spec_l21One.f layB
  simp only [in_eq, Option.bind_some]
  by_cases c : 1 ≤ h ∧ h ≤ 32
  · rw [decide_eq_true c]; rfl
  · rw [decide_eq_false c]; rfl
theorem layB_iff {h b : Int} : layB h b = true ↔ (1 ≤ h ∧ h ≤ 32) ∧ 1 ≤ b ∧ b ≤ 32 := by
  unfold layB; simp
theorem iLay (h b : Int) : impl_ValidLayer.f h b = some (layB h b) := by
  unfold impl_ValidLayer.f layB
  simp only [within_eq, Option.bind_some]
  by_cases c : 1 ≤ h ∧ h ≤ 32
  · rw [decide_eq_true c]; rfl
  · rw [decide_eq_false c]; rfl
theorem sGcd_l0 (b : Nat) : ∀ a : Nat, Ev (fun k => spec_l17Gcd.l0 k a b) ((Nat.gcd a b : Nat) : Int) := by
  induction b using Nat.strongRecOn with
  | ind b ih =>
    intro a
    refine Ev.shift ?_
    simp only [spec_l17Gcd.l0]
    by_cases h : b = 0
    · subst h
      exact Ev.neg (by omega) (Ev.some (by simp))
    · refine Ev.pos (by omega) (Ev.neg (by omega) ?_)
      have e : Int.tmod (a : Int) (b : Int) = ((a % b : Nat) : Int) := by rw [Int.tmod_eq_emod_of_nonneg (by omega)]; rfl
      rw [e]
      refine Ev.same (ih (a % b) (Nat.mod_lt _ (by omega)) b) ?_
      rw [Nat.gcd_comm a b, Nat.gcd_rec b a, Nat.gcd_comm b (a % b)]
theorem sGcd (a b : Int) (ha : 0 ≤ a) (hb : 0 ≤ b) : Ev (fun k => spec_l17Gcd.f k a b) ((Nat.gcd a.toNat b.toNat : Nat) : Int) := by
  unfold spec_l17Gcd.f
  have := sGcd_l0 b.toNat a.toNat
  rwa [Int.toNat_of_nonneg ha, Int.toNat_of_nonneg hb] at this
/-- ticks that a layer needs -/
def need (h b : Int) : Int := h / ((Nat.gcd h.toNat b.toNat : Nat) : Int)
theorem gcd_pos (h b : Int) (hh : 1 ≤ h) : 1 ≤ ((Nat.gcd h.toNat b.toNat : Nat) : Int) := by
  have := Nat.gcd_pos_of_pos_left (m := h.toNat) b.toNat (by omega)
  omega
theorem gcd_le (h b : Int) (hh : 1 ≤ h) : ((Nat.gcd h.toNat b.toNat : Nat) : Int) ≤ h := by
  have := Nat.le_of_dvd (by omega) (Nat.gcd_dvd_left h.toNat b.toNat)
  omega
theorem need_range (h b : Int) (hh : 1 ≤ h) : 1 ≤ need h b ∧ need h b ≤ h := by
  unfold need
  have h1 := gcd_pos h b hh
  have h2 := gcd_le h b hh
  refine ⟨?_, Int.ediv_le_self _ (by omega)⟩
  have := (Int.le_ediv_iff_mul_le (c := ((Nat.gcd h.toNat b.toNat : Nat) : Int)) (a := 1) (b := h) (by omega)).2 (by omega)
  exact this
theorem need_mul (h b : Int) (hh : 1 ≤ h) : need h b * ((Nat.gcd h.toNat b.toNat : Nat) : Int) = h := by
  unfold need
  refine Int.ediv_mul_cancel ?_
  obtain ⟨c, hc⟩ := Nat.gcd_dvd_left h.toNat b.toNat
  exact ⟨c, by have : (h.toNat : Int) = h := Int.toNat_of_nonneg (by omega); rw [← this]; exact_mod_cast hc⟩
theorem sNeed (h b : Int) (hh : 1 ≤ h ∧ h ≤ 32) (hb : 1 ≤ b ∧ b ≤ 32) : Ev (fun k => spec_l21Need.f k h b) (need h b, h, b) := by
  unfold spec_l21Need.f
  refine Ev.bind (sGcd h b (by omega) (by omega)) ?_
  have h1 := gcd_pos h b hh.1
  have h2 := need_range h b hh.1
  refine Ev.neg (by omega) (Ev.some ?_)
  rw [Int.tdiv_eq_ediv_of_nonneg (by omega)]
  show some (wrap64 (need h b), h, b) = _
  rw [wid (by omega)]
theorem sNeedAt (h b : Int) (hh : 1 ≤ h ∧ h ≤ 32) (hb : 1 ≤ b ∧ b ≤ 32) : Ev (fun k => spec_l21Need_at.f k h b) (need h b) := by
  unfold spec_l21Need_at.f
  refine Ev.bind (sGcd h b (by omega) (by omega)) ?_
  have h1 := gcd_pos h b hh.1
  have h2 := need_range h b hh.1
  refine Ev.neg (by omega) (Ev.some ?_)
  rw [Int.tdiv_eq_ediv_of_nonneg (by omega)]
  show some (wrap64 (need h b)) = _
  rw [wid (by omega)]
/-- the ticks of a layer's hits from the i-th on -/
def hitsL (h b t : Int) (i : Nat) : Nat → List Int
  | 0 => []
  | n + 1 => (i * b * t / h) :: hitsL h b t (i + 1) n
theorem hitsL_length (h b t : Int) (n : Nat) : ∀ i, (hitsL h b t i n).length = n := by
  induction n with
  | zero => intro i; rfl
  | succ n ih => intro i; simp [hitsL, ih]
theorem hitsL_get (h b t : Int) (n : Nat) : ∀ (i j : Nat) (hj : j < (hitsL h b t i n).length), (hitsL h b t i n)[j] = ((i + j : Nat) : Int) * b * t / h := by
  induction n with
  | zero => intro i j hj; simp [hitsL] at hj
  | succ n ih =>
    intro i j hj
    cases j with
    | zero => simp [hitsL]
    | succ j => simp only [hitsL, List.getElem_cons_succ]; rw [ih]; congr 3; omega
theorem hit_val (h b t : Int) (hh : 1 ≤ h ∧ h ≤ 32) (hb : 1 ≤ b ∧ b ≤ 32) (ht : 1 ≤ t ∧ t ≤ 1000000000) (i : Nat) (hi : (i : Int) < h) : wrap64 (Int.tdiv (wrap64 ((wrap64 ((i : Int) * b)) * t)) h) = i * b * t / h ∧ 0 ≤ i * b * t / h := by
  have h1 : 0 ≤ (i : Int) * b := Int.mul_nonneg (by omega) (by omega)
  have h2 : (i : Int) * b ≤ 32 * 32 := Int.mul_le_mul (by omega) (by omega) (by omega) (by omega)
  have h3 : 0 ≤ (i : Int) * b * t := Int.mul_nonneg h1 (by omega)
  have h4 : (i : Int) * b * t ≤ 1024 * 1000000000 := Int.mul_le_mul (by omega) (by omega) (by omega) (by omega)
  rw [wid (x := (i : Int) * b) (by omega), wid (x := (i : Int) * b * t) (by omega), Int.tdiv_eq_ediv_of_nonneg h3]
  have h5 : 0 ≤ (i : Int) * b * t / h := Int.ediv_nonneg h3 (by omega)
  have h6 : (i : Int) * b * t / h ≤ (i : Int) * b * t := Int.ediv_le_self _ h3
  exact ⟨wid (by omega), h5⟩
theorem sHits_l0 (h b t : Int) (hh : 1 ≤ h ∧ h ≤ 32) (hb : 1 ≤ b ∧ b ≤ 32) (ht : 1 ≤ t ∧ t ≤ 1000000000) (d : Nat) : ∀ (i : Nat) (acc : List Int), (i : Int) + d = h → acc.length = i → Ev (fun k => spec_l21Hits.l0 k t acc i h b) (acc ++ hitsL h b t i d, h, b) := by
  induction d with
  | zero =>
    intro i acc h1 h2
    refine Ev.shift ?_
    simp only [spec_l21Hits.l0]
    exact Ev.neg (by omega) (Ev.some (by simp [hitsL]))
  | succ d ih =>
    intro i acc h1 h2
    refine Ev.shift ?_
    simp only [spec_l21Hits.l0]
    refine Ev.pos (by omega) (Ev.neg (by omega) (Ev.pos (by omega) ?_))
    rw [(hit_val h b t hh hb ht i (by omega)).1, wid (x := (i : Int) + 1) (by omega)]
    exact Ev.same (ih (i + 1) (acc ++ [(i : Int) * b * t / h]) (by omega) (by rw [List.length_append, List.length_singleton, h2])) (by simp [hitsL])
theorem sHits (h b t : Int) (hh : 1 ≤ h ∧ h ≤ 32) (hb : 1 ≤ b ∧ b ≤ 32) (ht : 1 ≤ t ∧ t ≤ 1000000000) : Ev (fun k => spec_l21Hits.f k h b t) (hitsL h b t 0 h.toNat, h, b) := by
  unfold spec_l21Hits.f
  exact sHits_l0 h b t hh hb ht h.toNat 0 [] (by omega) rfl
theorem sHas_l0 (l : List Int) (n : Int) (hl : l.length ≤ 35184372088832) (d : Nat) : ∀ (i : Nat), i + d = l.length → Ev (fun k => spec_l00Has.l0 k l n i) (decide (n ∈ l.drop i)) := by
  induction d with
  | zero =>
    intro i h1
    refine Ev.shift ?_
    simp only [spec_l00Has.l0]
    refine Ev.neg (by omega) (Ev.some ?_)
    rw [List.drop_of_length_le (by omega)]; simp
  | succ d ih =>
    intro i h1
    refine Ev.shift ?_
    simp only [spec_l00Has.l0]
    refine Ev.pos (by omega) (Ev.pos (by omega) ?_)
    rw [rd_get l i (by omega), List.drop_eq_getElem_cons (by omega)]
    by_cases h : l[i] = n
    · exact Ev.pos h (Ev.some (by rw [h]; simp))
    · refine Ev.neg h ?_
      rw [wid (by omega)]
      refine Ev.same (ih (i + 1) (by omega)) ?_
      rw [decide_eq_decide, List.mem_cons]
      exact ⟨fun h2 => Or.inr h2, fun h2 => h2.elim (fun e => absurd e.symm h) id⟩
theorem sHas (l : List Int) (n : Int) (hl : l.length ≤ 35184372088832) : Ev (fun k => spec_l00Has.f k l n) (decide (n ∈ l)) := by
  unfold spec_l00Has.f
  have := sHas_l0 l n hl l.length 0 (by omega)
  simpa using this
/-- the least ticks of two -/
def lcmI (a b : Int) : Int := a / ((Nat.gcd a.toNat b.toNat : Nat) : Int) * b
theorem lcmI_dvd (a b : Int) (ha : 1 ≤ a) (hb : 1 ≤ b) : (∃ c, lcmI a b = a * c) ∧ (∃ c, lcmI a b = b * c) ∧ 1 ≤ lcmI a b ∧ lcmI a b ≤ a * b := by
  unfold lcmI
  have g1 := gcd_pos a b ha
  have g2 := need_mul a b ha
  have g3 := need_range a b ha
  unfold need at g2 g3
  obtain ⟨c, hc⟩ := Nat.gcd_dvd_right a.toNat b.toNat
  have hb2 : b = ((Nat.gcd a.toNat b.toNat : Nat) : Int) * (c : Int) := by
    have : (b.toNat : Int) = b := Int.toNat_of_nonneg (by omega)
    rw [← this]; exact_mod_cast hc
  refine ⟨⟨c, ?_⟩, ⟨a / ((Nat.gcd a.toNat b.toNat : Nat) : Int), Int.mul_comm _ _⟩, ?_, ?_⟩
  · generalize ((Nat.gcd a.toNat b.toNat : Nat) : Int) = g at *
    generalize a / g = q at *
    grind
  · have := Int.mul_le_mul g3.1 hb (by omega) (by omega)
    omega
  · exact Int.mul_le_mul_of_nonneg_right g3.2 (by omega)
theorem sTicks_step (l : List S25) (hl : l.length ≤ 35184372088) (i : Nat) (hi : i < l.length) (t : Int) (ht : 1 ≤ t ∧ t ≤ 1000000000000000) (hv : layB (l.getD i z25).f0 (l.getD i z25).f1 = true) (r : Int)
    (h : Ev (fun k => spec_l21Ticks.l0 k l (lcmI t (need (l.getD i z25).f0 (l.getD i z25).f1)) ((i + 1 : Nat) : Int)) r) : Ev (fun k => spec_l21Ticks.l0 k l t i) r := by
  obtain ⟨hh, hb⟩ := layB_iff.1 hv
  have hn := need_range (l.getD i z25).f0 (l.getD i z25).f1 hh.1
  have hg := gcd_pos t (need (l.getD i z25).f0 (l.getD i z25).f1) ht.1
  have hq := need_range t (need (l.getD i z25).f0 (l.getD i z25).f1) ht.1
  have hm := (lcmI_dvd t (need (l.getD i z25).f0 (l.getD i z25).f1) ht.1 hn.1).2.2
  have hm2 : t * need (l.getD i z25).f0 (l.getD i z25).f1 ≤ 1000000000000000 * 32 := Int.mul_le_mul ht.2 (by omega) (by omega) (by omega)
  refine Ev.shift ?_
  simp only [spec_l21Ticks.l0]
  refine Ev.pos (by omega) (Ev.pos (by omega) ?_)
  have e : rd_T25 l (i : Int) = l.getD i z25 := by unfold rd_T25; rw [Int.toNat_natCast]
  rw [e]
  refine Ev.bind (sNeedAt _ _ hh hb) (Ev.bind (sGcd t _ (by omega) (by omega)) (Ev.neg (by omega) ?_))
  rw [Int.tdiv_eq_ediv_of_nonneg (by omega), wid (x := (i : Int) + 1) (by omega)]
  unfold need at hq
  rw [wid (x := t / _) (by unfold need at *; omega)]
  unfold lcmI at h hm
  rw [wid (by omega)]
  exact h
theorem meet_iff (h1 b1 h2 b2 t : Int) (hh1 : 1 ≤ h1 ∧ h1 ≤ 32) (hb1 : 1 ≤ b1 ∧ b1 ≤ 32) (hh2 : 1 ≤ h2 ∧ h2 ≤ 32) (hb2 : 1 ≤ b2 ∧ b2 ≤ 32) (ht : 1 ≤ t) (q1 q2 : Int) (e1 : b1 * t = h1 * q1) (e2 : b2 * t = h2 * q2) (k : Int) (hk : 0 ≤ k) :
    (∃ j : Nat, (j : Int) < h2 ∧ (j : Int) * b2 * t / h2 = k * b1 * t / h1) ↔ ((k * b1 * h2) % (h1 * b2) = 0 ∧ (k * b1 * h2) / (h1 * b2) < h2) := by
  have v1 : k * b1 * t / h1 = k * q1 := by
    rw [Int.mul_assoc, e1, show k * (h1 * q1) = h1 * (k * q1) by grind, Int.mul_ediv_cancel_left _ (by omega)]
  have v2 : ∀ j : Int, j * b2 * t / h2 = j * q2 := by
    intro j
    rw [Int.mul_assoc, e2, show j * (h2 * q2) = h2 * (j * q2) by grind, Int.mul_ediv_cancel_left _ (by omega)]
  have hd : 1 ≤ h1 * b2 := by have := Int.mul_le_mul hh1.1 hb2.1 (by omega) (by omega); omega
  have key : ∀ j : Int, j * q2 = k * q1 ↔ k * b1 * h2 = (h1 * b2) * j := by
    intro j
    constructor
    · intro h
      have : t * (k * b1 * h2) = t * ((h1 * b2) * j) := by grind
      exact Int.eq_of_mul_eq_mul_left (by omega) this
    · intro h
      have : (h1 * h2) * (j * q2) = (h1 * h2) * (k * q1) := by grind
      have hp : 1 ≤ h1 * h2 := by have := Int.mul_le_mul hh1.1 hh2.1 (by omega) (by omega); omega
      exact Int.eq_of_mul_eq_mul_left (by omega) this
  rw [v1]
  constructor
  · rintro ⟨j, hj, h⟩
    rw [v2] at h
    have := (key j).1 h
    rw [this]
    refine ⟨Int.mul_emod_right _ _, ?_⟩
    rw [Int.mul_ediv_cancel_left _ (by omega)]; exact hj
  · rintro ⟨h, hlt⟩
    have hn : 0 ≤ k * b1 * h2 := Int.mul_nonneg (Int.mul_nonneg hk (by omega)) (by omega)
    have h3 := Int.mul_ediv_add_emod (k * b1 * h2) (h1 * b2)
    have h4 : 0 ≤ (k * b1 * h2) / (h1 * b2) := Int.ediv_nonneg hn (by omega)
    refine ⟨((k * b1 * h2) / (h1 * b2)).toNat, by omega, ?_⟩
    rw [Int.toNat_of_nonneg h4, v2]
    refine (key _).2 ?_
    omega
theorem need_times (h b t c : Int) (hh : 1 ≤ h ∧ h ≤ 32) (hb : 1 ≤ b ∧ b ≤ 32) (ht : t = need h b * c) : ∃ q, b * t = h * q := by
  have e := need_mul h b hh.1
  obtain ⟨d, hd⟩ := Nat.gcd_dvd_right h.toNat b.toNat
  have hb2 : b = ((Nat.gcd h.toNat b.toNat : Nat) : Int) * (d : Int) := by
    have : (b.toNat : Int) = b := Int.toNat_of_nonneg (by omega)
    rw [← this]; exact_mod_cast hd
  refine ⟨d * c, ?_⟩
  generalize ((Nat.gcd h.toNat b.toNat : Nat) : Int) = g at *
  generalize need h b = n at *
  grind
theorem meet_loops (h1 b1 h2 b2 t : Int) (hh1 : 1 ≤ h1 ∧ h1 ≤ 32) (hb1 : 1 ≤ b1 ∧ b1 ≤ 32) (hh2 : 1 ≤ h2 ∧ h2 ≤ 32) (hb2 : 1 ≤ b2 ∧ b2 ≤ 32) (ht : 1 ≤ t) (q1 q2 : Int) (E1 : Aside0 (b1 * t = h1 * q1)) (E2 : Aside0 (b2 * t = h2 * q2)) (d : Nat) :
    ∀ (i : Nat) (c : Int), (i : Int) + d = h1 → 0 ≤ c → c ≤ i → ∃ r, Ev (fun k => spec_MeetCount.l0 k (hitsL h1 b1 t 0 h1.toNat) (hitsL h2 b2 t 0 h2.toNat) c i) r ∧ Ev (fun k => impl_MeetCount.l0 k c h1 i h1 b1 h2 b2) r := by
  induction d with
  | zero =>
    intro i c h3 h4 h5
    refine ⟨(c, 0), Ev.shift ?_, Ev.shift ?_⟩
    · simp only [spec_MeetCount.l0, hitsL_length]
      exact Ev.neg (by omega) (Ev.now _)
    · simp only [impl_MeetCount.l0]
      exact Ev.neg (by omega) (Ev.now _)
  | succ d ih =>
    intro i c h3 h4 h5
    have w1 : wrap64 ((i : Int) + 1) = ((i + 1 : Nat) : Int) := by rw [wid (by omega)]; rfl
    have w2 : wrap64 (c + 1) = c + 1 := wid (by omega)
    have m1 : 1 ≤ h1 * b2 := by have := Int.mul_le_mul hh1.1 hb2.1 (by omega) (by omega); omega
    have m2 : h1 * b2 ≤ 32 * 32 := Int.mul_le_mul hh1.2 hb2.2 (by omega) (by omega)
    have m3 : 0 ≤ (i : Int) * b1 := Int.mul_nonneg (by omega) (by omega)
    have m4 : (i : Int) * b1 ≤ 32 * 32 := Int.mul_le_mul (by omega) hb1.2 (by omega) (by omega)
    have m5 : 0 ≤ (i : Int) * b1 * h2 := Int.mul_nonneg m3 (by omega)
    have m6 : (i : Int) * b1 * h2 ≤ 1024 * 32 := Int.mul_le_mul (by omega) hh2.2 (by omega) (by omega)
    have m7 : 0 ≤ (i : Int) * b1 * h2 / (h1 * b2) := Int.ediv_nonneg m5 (by omega)
    have m8 : (i : Int) * b1 * h2 / (h1 * b2) ≤ (i : Int) * b1 * h2 := Int.ediv_le_self _ m5
    have hx : rd (hitsL h1 b1 t 0 h1.toNat) (i : Int) = (i : Int) * b1 * t / h1 := by
      rw [rd_get _ _ (by rw [hitsL_length]; omega), hitsL_get, Nat.zero_add]
    have hmem : (i : Int) * b1 * t / h1 ∈ hitsL h2 b2 t 0 h2.toNat ↔ ∃ j : Nat, (j : Int) < h2 ∧ (j : Int) * b2 * t / h2 = (i : Int) * b1 * t / h1 := by
      rw [List.mem_iff_getElem]
      constructor
      · rintro ⟨j, hj, e⟩
        have hj2 := hj
        rw [hitsL_length] at hj2
        rw [hitsL_get, Nat.zero_add] at e
        exact ⟨j, by omega, e⟩
      · rintro ⟨j, hj, e⟩
        refine ⟨j, by rw [hitsL_length]; omega, ?_⟩
        rw [hitsL_get, Nat.zero_add]; exact e
    have hiff := hmem.trans (meet_iff h1 b1 h2 b2 t hh1 hb1 hh2 hb2 ht q1 q2 E1.out E2.out i (by omega))
    have hH := sHas (hitsL h2 b2 t 0 h2.toNat) ((i : Int) * b1 * t / h1) (by rw [hitsL_length]; omega)
    by_cases hc : ((i : Int) * b1 * h2) % (h1 * b2) = 0 ∧ ((i : Int) * b1 * h2) / (h1 * b2) < h2
    · obtain ⟨r, x, y⟩ := ih (i + 1) (c + 1) (by omega) (by omega) (by omega)
      refine ⟨r, Ev.shift ?_, Ev.shift ?_⟩
      · simp only [spec_MeetCount.l0, hitsL_length, hx, w1, w2]
        refine Ev.pos (by omega) (Ev.pos (by omega) (Ev.bind hH ?_))
        rw [decide_eq_true (hiff.2 hc)]
        exact Ev.pos rfl x
      · simp only [impl_MeetCount.l0]
        rw [w1, w2, wid (x := h1 * b2) (by omega), wid (x := (i : Int) * b1) (by omega), wid (x := (i : Int) * b1 * h2) (by omega), Int.tmod_eq_emod_of_nonneg m5, Int.tdiv_eq_ediv_of_nonneg m5, wid (x := (i : Int) * b1 * h2 / (h1 * b2)) (by omega)]
        exact Ev.pos (by omega) (Ev.neg (by omega) (Ev.pos hc.1 (Ev.pos hc.2 y)))
    · obtain ⟨r, x, y⟩ := ih (i + 1) c (by omega) (by omega) (by omega)
      refine ⟨r, Ev.shift ?_, Ev.shift ?_⟩
      · simp only [spec_MeetCount.l0, hitsL_length, hx, w1, w2]
        refine Ev.pos (by omega) (Ev.pos (by omega) (Ev.bind hH ?_))
        rw [decide_eq_false (fun h => hc (hiff.1 h))]
        exact Ev.neg (by decide) x
      · simp only [impl_MeetCount.l0]
        rw [w1, w2, wid (x := h1 * b2) (by omega), wid (x := (i : Int) * b1) (by omega), wid (x := (i : Int) * b1 * h2) (by omega), Int.tmod_eq_emod_of_nonneg m5, Int.tdiv_eq_ediv_of_nonneg m5, wid (x := (i : Int) * b1 * h2 / (h1 * b2)) (by omega)]
        refine Ev.pos (by omega) (Ev.neg (by omega) ?_)
        by_cases hm : ((i : Int) * b1 * h2) % (h1 * b2) = 0
        · exact Ev.pos hm (Ev.neg (fun h => hc ⟨hm, h⟩) y)
        · exact Ev.neg hm y
theorem meet (h1 b1 h2 b2 : Int) : ∃ r, Ev (fun k => spec_MeetCount.f k h1 b1 h2 b2) r ∧ Ev (fun k => impl_MeetCount.f k h1 b1 h2 b2) r := by
  unfold spec_MeetCount.f impl_MeetCount.f
  simp only [one_eq, iLay, Option.bind_some]
  cases l1 : layB h1 b1 with
  | false =>
    refine ⟨(0, 1), Ev.neg (by decide) (Ev.shift ?_), Ev.neg (by decide) (Ev.shift ?_)⟩
    · simp only [spec_MeetCount.j0]; exact Ev.now _
    · simp only [impl_MeetCount.j0]; exact Ev.now _
  | true =>
    cases l2 : layB h2 b2 with
    | false =>
      refine ⟨(0, 1), Ev.pos rfl (Ev.shift ?_), Ev.pos rfl (Ev.shift ?_)⟩
      · simp only [spec_MeetCount.j0]; exact Ev.now _
      · simp only [impl_MeetCount.j0]; exact Ev.now _
    | true =>
      obtain ⟨hh1, hb1⟩ := layB_iff.1 l1
      obtain ⟨hh2, hb2⟩ := layB_iff.1 l2
      have n1 := need_range h1 b1 hh1.1
      have n2 := need_range h2 b2 hh2.1
      have eg : lcmI 1 (need h1 b1) = need h1 b1 := by unfold lcmI; simp
      obtain ⟨⟨c1, d1⟩, ⟨c2, d2⟩, p1, p2⟩ := lcmI_dvd (need h1 b1) (need h2 b2) n1.1 n2.1
      have p3 : need h1 b1 * need h2 b2 ≤ 32 * 32 := Int.mul_le_mul (by omega) (by omega) (by omega) (by omega)
      obtain ⟨q1, e1⟩ := need_times h1 b1 _ c1 hh1 hb1 d1
      obtain ⟨q2, e2⟩ := need_times h2 b2 _ c2 hh2 hb2 d2
      obtain ⟨r, x, y⟩ := meet_loops h1 b1 h2 b2 (lcmI (need h1 b1) (need h2 b2)) hh1 hb1 hh2 hb2 p1 q1 q2 ⟨e1⟩ ⟨e2⟩ h1.toNat 0 0 (by omega) (by omega) (by omega)
      refine ⟨r, Ev.pos rfl (Ev.shift ?_), Ev.pos rfl (Ev.shift ?_)⟩
      · simp only [spec_MeetCount.j0]
        refine Ev.neg (by decide) ?_
        have hT : Ev (fun k => spec_l21Ticks.f k ([(⟨h1, b1⟩ : S25), (⟨h2, b2⟩ : S25)])) (lcmI (need h1 b1) (need h2 b2)) := by
          unfold spec_l21Ticks.f
          refine sTicks_step [(⟨h1, b1⟩ : S25), (⟨h2, b2⟩ : S25)] (by simp) 0 (by simp) 1 (by omega) l1 _ ?_
          show Ev (fun k => spec_l21Ticks.l0 k _ (lcmI 1 (need h1 b1)) ((0 + 1 : Nat) : Int)) _
          rw [eg]
          refine sTicks_step [(⟨h1, b1⟩ : S25), (⟨h2, b2⟩ : S25)] (by simp) 1 (by simp) (need h1 b1) (by omega) l2 _ ?_
          refine Ev.shift ?_
          simp only [spec_l21Ticks.l0]
          exact Ev.neg (by simp) (Ev.now _)
        exact Ev.bind hT (Ev.bind (sHits h1 b1 _ hh1 hb1 (by omega)) (Ev.bind (sHits h2 b2 _ hh2 hb2 (by omega)) x))
      · simp only [impl_MeetCount.j0]
        exact Ev.neg (by decide) y
theorem FnExactMeetCount : laws_FnExactMeetCount.Pure := by
  intro x y _ _
  refine Ev.rounds (g := fun k => laws_FnExactMeetCount.f k x.f0 x.f1 y.f0 y.f1) ?_
  unfold laws_FnExactMeetCount.f
  simp only [laws_toLayer.f, Option.bind_some]
  obtain ⟨⟨r, c⟩, hS, hI⟩ := meet x.f0 x.f1 y.f0 y.f1
  exact Ev.bind hS (Ev.bind hI (Ev.pos rfl (Ev.pos rfl (Ev.now _))))

end Go.Proofs.Ytmipmpgpolbefaa.Pure
