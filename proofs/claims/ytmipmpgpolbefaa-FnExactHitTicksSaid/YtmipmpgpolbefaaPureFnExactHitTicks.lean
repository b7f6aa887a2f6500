/- The pure statement of the law FnExactHitTicks: what the Go functions compute, told by plain Lean functions, is what the law asks, for all arguments. No condition beyond the printed ones. -/
import Derived.Test.YtmipmpgpolbefaaPFnExactHitTicksxo
import Derived.Test.YtmipmpgpolbefaaXW
namespace Go.Proofs.Ytmipmpgpolbefaa.Pure
open Go.RowKit Go.Proofs.Ytmipmpgpolbefaa.PFnExactHitTicks Go.Proofs.YtmipmpgpolbefaaW.PrintWords Go.Proofs.YtmipmpgpolbefaaW.PrintLast Go.Proofs.YtmipmpgpolbefaaW.PrintMore Go.Proofs.YtmipmpgpolbefaaXW
set_option linter.unusedVariables false
set_option linter.unusedSimpArgs false
theorem eqI_l0 (l : List Int) (hl : l.length ≤ 35184372088832) (d : Nat) : ∀ (i : Nat), i + d = l.length → Ev (fun k => laws_eqInt64S.l0 k l l i) true := by
  induction d with
  | zero =>
    intro i h1
    refine Ev.shift ?_
    simp only [laws_eqInt64S.l0]
    exact Ev.neg (by omega) (Ev.now _)
  | succ d ih =>
    intro i h1
    refine Ev.shift ?_
    simp only [laws_eqInt64S.l0]
    refine Ev.pos (by omega) (Ev.pos (by omega) (Ev.pos (by omega) (Ev.pos (by trivial) ?_)))
    rw [wid (by omega)]
    exact ih (i + 1) (by omega)
theorem eqI (l : List Int) (hl : l.length ≤ 35184372088832) : Ev (fun k => laws_eqInt64S.f k l l) true := by
  unfold laws_eqInt64S.f
  exact Ev.pos rfl (eqI_l0 l hl l.length 0 (by omega))
/-- what marks leave: from m on, one by one -/
def marks (m : Int) : Nat → List Int
  | 0 => []
  | n + 1 => m :: marks (m + 1) n
theorem marks_length (n : Nat) : ∀ m, (marks m n).length = n := by
  induction n with
  | zero => intro m; rfl
  | succ n ih => intro m; simp [marks, ih]
theorem marks_get (n : Nat) : ∀ (m : Int) (i : Nat) (h : i < (marks m n).length), (marks m n)[i] = m + i := by
  induction n with
  | zero => intro m i h; simp [marks] at h
  | succ n ih =>
    intro m i h
    cases i with
    | zero => simp [marks]
    | succ i => simp only [marks, List.getElem_cons_succ]; rw [ih]; omega
theorem marks_snoc (n : Nat) : ∀ m, marks m (n + 1) = marks m n ++ [m + n] := by
  induction n with
  | zero => intro m; simp [marks]
  | succ n ih =>
    intro m
    rw [marks, ih, marks, List.cons_append]
    congr 3
    simp; omega
theorem markI_l0 (m0 : Int) (n : Nat) (h0 : 0 ≤ m0) (h1 : m0 + n ≤ 9000000000000000000) (d : Nat) : ∀ (i : Nat) (acc : List Int), i + d = n → acc.length = n → acc.take i = marks m0 i → Ev (fun k => laws_markInt64S.l0 k acc (m0 + i) i) (m0 + n, marks m0 n) := by
  induction d with
  | zero =>
    intro i acc h2 h3 h4
    refine Ev.shift ?_
    simp only [laws_markInt64S.l0]
    refine Ev.neg (by omega) (Ev.some ?_)
    rw [List.take_of_length_le (by omega)] at h4
    rw [h4, show i = n by omega]
  | succ d ih =>
    intro i acc h2 h3 h4
    refine Ev.shift ?_
    simp only [laws_markInt64S.l0]
    refine Ev.pos (by omega) (Ev.pos (by omega) ?_)
    rw [wid (x := m0 + i + 1) (by omega), wid (x := (i : Int) + 1) (by omega), Int.toNat_natCast, show m0 + (i : Int) + 1 = m0 + ((i + 1 : Nat) : Int) by omega]
    refine ih (i + 1) _ (by omega) (by rw [List.length_set, h3]) ?_
    rw [List.take_succ_eq_append_getElem (by rw [List.length_set]; omega), List.take_set_of_le (by omega), List.getElem_set_self, h4, marks_snoc]
theorem markI (l : List Int) (m : Int) (h0 : 0 ≤ m) (h1 : m + l.length ≤ 9000000000000000000) : Ev (fun k => laws_markInt64S.f k l m) (m + l.length, marks m l.length) := by
  unfold laws_markInt64S.f
  have := markI_l0 m l.length h0 h1 l.length 0 l (by omega) rfl (by simp [marks])
  simpa using this
theorem heldI_l0 (m0 : Int) (n : Nat) (h0 : 0 ≤ m0) (h1 : m0 + n ≤ 9000000000000000000) (d : Nat) : ∀ (i : Nat), i + d = n → Ev (fun k => laws_heldInt64S.l0 k (marks m0 n) (m0 + i) i) (m0 + n) := by
  induction d with
  | zero =>
    intro i h2
    refine Ev.shift ?_
    simp only [laws_heldInt64S.l0, marks_length]
    exact Ev.neg (by omega) (Ev.some (by rw [show i = n by omega]))
  | succ d ih =>
    intro i h2
    refine Ev.shift ?_
    simp only [laws_heldInt64S.l0, marks_length]
    refine Ev.pos (by omega) (Ev.pos (by omega) (Ev.pos (by rw [rd_get _ _ (by rw [marks_length]; omega), marks_get]) ?_))
    rw [wid (x := m0 + i + 1) (by omega), wid (x := (i : Int) + 1) (by omega), show m0 + (i : Int) + 1 = m0 + ((i + 1 : Nat) : Int) by omega]
    exact ih (i + 1) (by omega)
theorem heldI (n : Nat) (m : Int) (h0 : 0 ≤ m) (h1 : m + n ≤ 9000000000000000000) : Ev (fun k => laws_heldInt64S.f k (marks m n) m) (m + n) := by
  unfold laws_heldInt64S.f
  have := heldI_l0 m n h0 h1 n 0 (by omega)
  simpa using this
theorem in_eq (a b c : Int) : spec_l00In.f a b c = some (decide (b ≤ a ∧ a ≤ c)) := by
  unfold spec_l00In.f; split <;> simp_all; omega
theorem within_eq (a b c : Int) : impl_within.f a b c = some (decide (b ≤ a ∧ a ≤ c)) := by
  unfold impl_within.f; split <;> simp_all; omega
def layB (h b : Int) : Bool := decide (1 ≤ h ∧ h ≤ 32) && decide (1 ≤ b ∧ b ≤ 32)
theorem one_eq (h b : Int) : spec_l21One.f h b = some (layB h b, h, b) := by
  unfold spec_l21One.f layB
  simp only [in_eq, Option.bind_some]
  by_cases c : 1 ≤ h ∧ h ≤ 32
  · rw [decide_eq_true c]; rfl
  · rw [decide_eq_false c]; rfl
theorem layB_iff {h b : Int} : layB h b = true ↔ (1 ≤ h ∧ h ≤ 32) ∧ 1 ≤ b ∧ b ≤ 32 := by
  unfold layB; simp
theorem iLay (h b : Int) : impl_ValidLayer.f h b = some (layB h b) := by
  unfold impl_ValidLayer.f layB
  simp only [within_eq, Option.bind_some]
  by_cases c : 1 ≤ h ∧ h ≤ 32
  · rw [decide_eq_true c]; rfl
  · rw [decide_eq_false c]; rfl
theorem sGcd_l0 (b : Nat) : ∀ a : Nat, Ev (fun k => spec_l17Gcd.l0 k a b) ((Nat.gcd a b : Nat) : Int) := by
  induction b using Nat.strongRecOn with
  | ind b ih =>
    intro a
    refine Ev.shift ?_
    simp only [spec_l17Gcd.l0]
    by_cases h : b = 0
    · subst h
      exact Ev.neg (by omega) (Ev.some (by simp))
    · refine Ev.pos (by omega) (Ev.neg (by omega) ?_)
      have e : Int.tmod (a : Int) (b : Int) = ((a % b : Nat) : Int) := by rw [Int.tmod_eq_emod_of_nonneg (by omega)]; rfl
      rw [e]
      refine Ev.same (ih (a % b) (Nat.mod_lt _ (by omega)) b) ?_
      rw [Nat.gcd_comm a b, Nat.gcd_rec b a, Nat.gcd_comm b (a % b)]
theorem sGcd (a b : Int) (ha : 0 ≤ a) (hb : 0 ≤ b) : Ev (fun k => spec_l17Gcd.f k a b) ((Nat.gcd a.toNat b.toNat : Nat) : Int) := by
  unfold spec_l17Gcd.f
  have := sGcd_l0 b.toNat a.toNat
  rwa [Int.toNat_of_nonneg ha, Int.toNat_of_nonneg hb] at this
theorem iGcd_l0 (b : Nat) : ∀ a : Nat, Ev (fun k => impl_commonDivisor.l0 k a b) ((Nat.gcd a b : Nat) : Int) := by
  induction b using Nat.strongRecOn with
  | ind b ih =>
    intro a
    refine Ev.shift ?_
    simp only [impl_commonDivisor.l0]
    by_cases h : b = 0
    · subst h
      exact Ev.pos (by omega) (Ev.some (by simp))
    · refine Ev.neg (by omega) ?_
      have e : Int.tmod (a : Int) (b : Int) = ((a % b : Nat) : Int) := by rw [Int.tmod_eq_emod_of_nonneg (by omega)]; rfl
      rw [e]
      refine Ev.same (ih (a % b) (Nat.mod_lt _ (by omega)) b) ?_
      rw [Nat.gcd_comm a b, Nat.gcd_rec b a, Nat.gcd_comm b (a % b)]
theorem iGcd (a b : Int) (ha : 0 ≤ a) (hb : 0 ≤ b) : Ev (fun k => impl_commonDivisor.f k a b) ((Nat.gcd a.toNat b.toNat : Nat) : Int) := by
  unfold impl_commonDivisor.f
  have := iGcd_l0 b.toNat a.toNat
  rwa [Int.toNat_of_nonneg ha, Int.toNat_of_nonneg hb] at this
/-- ticks that a layer needs -/
def need (h b : Int) : Int := h / ((Nat.gcd h.toNat b.toNat : Nat) : Int)
theorem gcd_pos (h b : Int) (hh : 1 ≤ h) : 1 ≤ ((Nat.gcd h.toNat b.toNat : Nat) : Int) := by
  have := Nat.gcd_pos_of_pos_left (m := h.toNat) b.toNat (by omega)
  omega
theorem gcd_le (h b : Int) (hh : 1 ≤ h) : ((Nat.gcd h.toNat b.toNat : Nat) : Int) ≤ h := by
  have := Nat.le_of_dvd (by omega) (Nat.gcd_dvd_left h.toNat b.toNat)
  omega
theorem need_range (h b : Int) (hh : 1 ≤ h) : 1 ≤ need h b ∧ need h b ≤ h := by
  unfold need
  have h1 := gcd_pos h b hh
  have h2 := gcd_le h b hh
  refine ⟨?_, Int.ediv_le_self _ (by omega)⟩
  have := (Int.le_ediv_iff_mul_le (c := ((Nat.gcd h.toNat b.toNat : Nat) : Int)) (a := 1) (b := h) (by omega)).2 (by omega)
  exact this
theorem need_mul (h b : Int) (hh : 1 ≤ h) : need h b * ((Nat.gcd h.toNat b.toNat : Nat) : Int) = h := by
  unfold need
  refine Int.ediv_mul_cancel ?_
  obtain ⟨c, hc⟩ := Nat.gcd_dvd_left h.toNat b.toNat
  exact ⟨c, by have : (h.toNat : Int) = h := Int.toNat_of_nonneg (by omega); rw [← this]; exact_mod_cast hc⟩
theorem sNeed (h b : Int) (hh : 1 ≤ h ∧ h ≤ 32) (hb : 1 ≤ b ∧ b ≤ 32) : Ev (fun k => spec_l21Need.f k h b) (need h b, h, b) := by
  unfold spec_l21Need.f
  refine Ev.bind (sGcd h b (by omega) (by omega)) ?_
  have h1 := gcd_pos h b hh.1
  have h2 := need_range h b hh.1
  refine Ev.neg (by omega) (Ev.some ?_)
  rw [Int.tdiv_eq_ediv_of_nonneg (by omega)]
  show some (wrap64 (need h b), h, b) = _
  rw [wid (by omega)]
theorem sNeedAt (h b : Int) (hh : 1 ≤ h ∧ h ≤ 32) (hb : 1 ≤ b ∧ b ≤ 32) : Ev (fun k => spec_l21Need_at.f k h b) (need h b) := by
  unfold spec_l21Need_at.f
  refine Ev.bind (sGcd h b (by omega) (by omega)) ?_
  have h1 := gcd_pos h b hh.1
  have h2 := need_range h b hh.1
  refine Ev.neg (by omega) (Ev.some ?_)
  rw [Int.tdiv_eq_ediv_of_nonneg (by omega)]
  show some (wrap64 (need h b)) = _
  rw [wid (by omega)]
theorem iNeed (h b : Int) (hh : 1 ≤ h ∧ h ≤ 32) (hb : 1 ≤ b ∧ b ≤ 32) : Ev (fun k => impl_Layer_ticks.f k h b) (need h b) := by
  unfold impl_Layer_ticks.f
  refine Ev.bind (iGcd h b (by omega) (by omega)) ?_
  have h1 := gcd_pos h b hh.1
  have h2 := need_range h b hh.1
  refine Ev.neg (by omega) (Ev.some ?_)
  rw [Int.tdiv_eq_ediv_of_nonneg (by omega)]
  show some (wrap64 (need h b)) = _
  rw [wid (by omega)]
/-- the ticks of a layer's hits from the i-th on -/
def hitsL (h b t : Int) (i : Nat) : Nat → List Int
  | 0 => []
  | n + 1 => (i * b * t / h) :: hitsL h b t (i + 1) n
theorem hitsL_length (h b t : Int) (n : Nat) : ∀ i, (hitsL h b t i n).length = n := by
  induction n with
  | zero => intro i; rfl
  | succ n ih => intro i; simp [hitsL, ih]
theorem hitsL_get (h b t : Int) (n : Nat) : ∀ (i j : Nat) (hj : j < (hitsL h b t i n).length), (hitsL h b t i n)[j] = ((i + j : Nat) : Int) * b * t / h := by
  induction n with
  | zero => intro i j hj; simp [hitsL] at hj
  | succ n ih =>
    intro i j hj
    cases j with
    | zero => simp [hitsL]
    | succ j => simp only [hitsL, List.getElem_cons_succ]; rw [ih]; congr 3; omega
theorem hit_val (h b t : Int) (hh : 1 ≤ h ∧ h ≤ 32) (hb : 1 ≤ b ∧ b ≤ 32) (ht : 1 ≤ t ∧ t ≤ 1000000000) (i : Nat) (hi : (i : Int) < h) : wrap64 (Int.tdiv (wrap64 ((wrap64 ((i : Int) * b)) * t)) h) = i * b * t / h ∧ 0 ≤ i * b * t / h := by
  have h1 : 0 ≤ (i : Int) * b := Int.mul_nonneg (by omega) (by omega)
  have h2 : (i : Int) * b ≤ 32 * 32 := Int.mul_le_mul (by omega) (by omega) (by omega) (by omega)
  have h3 : 0 ≤ (i : Int) * b * t := Int.mul_nonneg h1 (by omega)
  have h4 : (i : Int) * b * t ≤ 1024 * 1000000000 := Int.mul_le_mul (by omega) (by omega) (by omega) (by omega)
  rw [wid (x := (i : Int) * b) (by omega), wid (x := (i : Int) * b * t) (by omega), Int.tdiv_eq_ediv_of_nonneg h3]
  have h5 : 0 ≤ (i : Int) * b * t / h := Int.ediv_nonneg h3 (by omega)
  have h6 : (i : Int) * b * t / h ≤ (i : Int) * b * t := Int.ediv_le_self _ h3
  exact ⟨wid (by omega), h5⟩
theorem sHits_l0 (h b t : Int) (hh : 1 ≤ h ∧ h ≤ 32) (hb : 1 ≤ b ∧ b ≤ 32) (ht : 1 ≤ t ∧ t ≤ 1000000000) (d : Nat) : ∀ (i : Nat) (acc : List Int), (i : Int) + d = h → acc.length = i → Ev (fun k => spec_l21Hits.l0 k t acc i h b) (acc ++ hitsL h b t i d, h, b) := by
  induction d with
  | zero =>
    intro i acc h1 h2
    refine Ev.shift ?_
    simp only [spec_l21Hits.l0]
    exact Ev.neg (by omega) (Ev.some (by simp [hitsL]))
  | succ d ih =>
    intro i acc h1 h2
    refine Ev.shift ?_
    simp only [spec_l21Hits.l0]
    refine Ev.pos (by omega) (Ev.neg (by omega) (Ev.pos (by omega) ?_))
    rw [(hit_val h b t hh hb ht i (by omega)).1, wid (x := (i : Int) + 1) (by omega)]
    exact Ev.same (ih (i + 1) (acc ++ [(i : Int) * b * t / h]) (by omega) (by rw [List.length_append, List.length_singleton, h2])) (by simp [hitsL])
theorem sHits (h b t : Int) (hh : 1 ≤ h ∧ h ≤ 32) (hb : 1 ≤ b ∧ b ≤ 32) (ht : 1 ≤ t ∧ t ≤ 1000000000) : Ev (fun k => spec_l21Hits.f k h b t) (hitsL h b t 0 h.toNat, h, b) := by
  unfold spec_l21Hits.f
  exact sHits_l0 h b t hh hb ht h.toNat 0 [] (by omega) rfl
theorem iHits_l0 (h b t : Int) (hh : 1 ≤ h ∧ h ≤ 32) (hb : 1 ≤ b ∧ b ≤ 32) (ht : 1 ≤ t ∧ t ≤ 1000000000) (d : Nat) : ∀ (i : Nat) (acc : List Int), (i : Int) + d = h → acc.length = i → Ev (fun k => impl_Layer_hitTicks.l0 k t acc h i h b) (acc ++ hitsL h b t i d) := by
  induction d with
  | zero =>
    intro i acc h1 h2
    refine Ev.shift ?_
    simp only [impl_Layer_hitTicks.l0]
    exact Ev.neg (by omega) (Ev.some (by simp [hitsL]))
  | succ d ih =>
    intro i acc h1 h2
    refine Ev.shift ?_
    simp only [impl_Layer_hitTicks.l0]
    refine Ev.pos (by omega) (Ev.neg (by omega) (Ev.pos (by omega) ?_))
    rw [(hit_val h b t hh hb ht i (by omega)).1, wid (x := (i : Int) + 1) (by omega)]
    exact Ev.same (ih (i + 1) (acc ++ [(i : Int) * b * t / h]) (by omega) (by rw [List.length_append, List.length_singleton, h2])) (by simp [hitsL])
theorem iHits (h b t : Int) (hh : 1 ≤ h ∧ h ≤ 32) (hb : 1 ≤ b ∧ b ≤ 32) (ht : 1 ≤ t ∧ t ≤ 1000000000) : Ev (fun k => impl_Layer_hitTicks.f k h b t) (hitsL h b t 0 h.toNat) := by
  unfold impl_Layer_hitTicks.f
  exact iHits_l0 h b t hh hb ht h.toNat 0 [] (by omega) rfl
theorem hits (h b t : Int) : ∃ r c, r.length ≤ 32 ∧ Ev (fun k => spec_HitTicks.f k h b t) (r, c) ∧ Ev (fun k => impl_HitTicks.f k h b t) (r, c) := by
  unfold spec_HitTicks.f impl_HitTicks.f
  simp only [one_eq, iLay, in_eq, within_eq, Option.bind_some]
  cases hl : layB h b with
  | false => exact ⟨[], 1, by simp, Ev.neg (by decide) (Ev.now _), Ev.neg (by decide) (Ev.now _)⟩
  | true =>
    obtain ⟨hh, hb⟩ := layB_iff.1 hl
    by_cases ht : 1 ≤ t ∧ t ≤ 5040
    · have hn := need_range h b hh.1
      by_cases hm : Int.tmod t (need h b) = 0
      · refine ⟨hitsL h b t 0 h.toNat, 0, by rw [hitsL_length]; omega, ?_, ?_⟩
        · refine Ev.pos rfl (Ev.pos (by simpa using ht) (Ev.bind (sNeed h b hh hb) (Ev.neg (by simp only; omega) (Ev.pos hm (Ev.bind (sHits h b t hh hb (by omega)) (Ev.now _))))))
        · refine Ev.pos rfl (Ev.pos (by simpa using ht) (Ev.bind (iNeed h b hh hb) (Ev.neg (by omega) (Ev.pos hm (Ev.bind (iHits h b t hh hb (by omega)) (Ev.now _))))))
      · refine ⟨[], 6, by simp, ?_, ?_⟩
        · refine Ev.pos rfl (Ev.pos (by simpa using ht) (Ev.bind (sNeed h b hh hb) (Ev.neg (by simp only; omega) (Ev.neg hm (Ev.now _)))))
        · refine Ev.pos rfl (Ev.pos (by simpa using ht) (Ev.bind (iNeed h b hh hb) (Ev.neg (by omega) (Ev.neg hm (Ev.now _)))))
    · exact ⟨[], 2, by simp, Ev.pos rfl (Ev.neg (by simp; omega) (Ev.now _)), Ev.pos rfl (Ev.neg (by simp; omega) (Ev.now _))⟩
theorem FnExactHitTicks : laws_FnExactHitTicks.Pure := by
  intro x t _ _
  refine Ev.rounds (g := fun k => laws_FnExactHitTicks.f k x.f0 x.f1 t) ?_
  unfold laws_FnExactHitTicks.f
  simp only [laws_toLayer.f, Option.bind_some]
  obtain ⟨r, c, hr0, hS, hI⟩ := hits x.f0 x.f1 t
  have hr : r.length ≤ 35184372088832 := by omega
  have hmk := markI r 1 (by omega) (by omega)
  have hhl := heldI r.length 1 (by omega) (by omega)
  repeat (first | exact Ev.now _ | refine Ev.bind hS ?_ | refine Ev.bind hI ?_ | refine Ev.bind (eqI _ (by assumption)) ?_ | refine Ev.bind hmk ?_ | refine Ev.bind hhl ?_ | refine Ev.pos (by with_reducible rfl) ?_ | refine Ev.neg (by omega) ?_ | refine Ev.neg (by simp; done) ?_ | refine Ev.pos (by omega) ?_ | (refine Ev.shift ?_; simp only [laws_FnExactHitTicks.j0, laws_FnExactHitTicks.j1, laws_toLayer.f, Option.bind_some]))

end Go.Proofs.Ytmipmpgpolbefaa.Pure
