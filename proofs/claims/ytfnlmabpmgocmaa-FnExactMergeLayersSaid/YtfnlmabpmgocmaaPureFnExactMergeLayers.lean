/- The pure statement of the law FnExactMergeLayers: what the Go functions compute, told by plain Lean functions, is what the law asks, for all arguments. No condition beyond the printed ones. -/
import Derived.Test.YtfnlmabpmgocmaaPFnExactMergeLayersxo
import Derived.Test.YtfnlmabpmgocmaaXW
namespace Go.Proofs.Ytfnlmabpmgocmaa.Pure
open Go.RowKit Go.Proofs.Ytfnlmabpmgocmaa.PFnExactMergeLayers Go.Proofs.YtfnlmabpmgocmaaW.PrintWords Go.Proofs.YtfnlmabpmgocmaaW.PrintLast Go.Proofs.YtfnlmabpmgocmaaW.PrintMore Go.Proofs.YtfnlmabpmgocmaaXW
set_option linter.unusedVariables false
set_option linter.unusedSimpArgs false
theorem eqI_l0 (l : List Int) (hl : l.length ≤ 35184372088832) (d : Nat) : ∀ (i : Nat), i + d = l.length → Ev (fun k => laws_eqInt64S.l0 k l l i) true := by
  induction d with
  | zero =>
    intro i h1
    refine Ev.shift ?_
    simp only [laws_eqInt64S.l0]
    exact Ev.neg (by omega) (Ev.now _)
  | succ d ih =>
    intro i h1
    refine Ev.shift ?_
    simp only [laws_eqInt64S.l0]
    refine Ev.pos (by omega) (Ev.pos (by omega) (Ev.pos (by omega) (Ev.pos (by trivial) ?_)))
    rw [wid (by omega)]
    exact ih (i + 1) (by omega)
theorem eqI (l : List Int) (hl : l.length ≤ 35184372088832) : Ev (fun k => laws_eqInt64S.f k l l) true := by
  unfold laws_eqInt64S.f
  exact Ev.pos rfl (eqI_l0 l hl l.length 0 (by omega))
/-- what marks leave: from m on, one by one -/
def marks (m : Int) : Nat → List Int
  | 0 => []
  | n + 1 => m :: marks (m + 1) n
theorem marks_length (n : Nat) : ∀ m, (marks m n).length = n := by
  induction n with
  | zero => intro m; rfl
  | succ n ih => intro m; simp [marks, ih]
theorem marks_get (n : Nat) : ∀ (m : Int) (i : Nat) (h : i < (marks m n).length), (marks m n)[i] = m + i := by
  induction n with
  | zero => intro m i h; simp [marks] at h
  | succ n ih =>
    intro m i h
    cases i with
    | zero => simp [marks]
    | succ i => simp only [marks, List.getElem_cons_succ]; rw [ih]; omega
theorem marks_snoc (n : Nat) : ∀ m, marks m (n + 1) = marks m n ++ [m + n] := by
  induction n with
  | zero => intro m; simp [marks]
  | succ n ih =>
    intro m
    rw [marks, ih, marks, List.cons_append]
    congr 3
    simp; omega
theorem markI_l0 (m0 : Int) (n : Nat) (h0 : 0 ≤ m0) (h1 : m0 + n ≤ 9000000000000000000) (d : Nat) : ∀ (i : Nat) (acc : List Int), i + d = n → acc.length = n → acc.take i = marks m0 i → Ev (fun k => laws_markInt64S.l0 k acc (m0 + i) i) (m0 + n, marks m0 n) := by
  induction d with
  | zero =>
    intro i acc h2 h3 h4
    refine Ev.shift ?_
    simp only [laws_markInt64S.l0]
    refine Ev.neg (by omega) (Ev.some ?_)
    rw [List.take_of_length_le (by omega)] at h4
    rw [h4, show i = n by omega]
  | succ d ih =>
    intro i acc h2 h3 h4
    refine Ev.shift ?_
    simp only [laws_markInt64S.l0]
    refine Ev.pos (by omega) (Ev.pos (by omega) ?_)
    rw [wid (x := m0 + i + 1) (by omega), wid (x := (i : Int) + 1) (by omega), Int.toNat_natCast, show m0 + (i : Int) + 1 = m0 + ((i + 1 : Nat) : Int) by omega]
    refine ih (i + 1) _ (by omega) (by rw [List.length_set, h3]) ?_
    rw [List.take_succ_eq_append_getElem (by rw [List.length_set]; omega), List.take_set_of_le (by omega), List.getElem_set_self, h4, marks_snoc]
theorem markI (l : List Int) (m : Int) (h0 : 0 ≤ m) (h1 : m + l.length ≤ 9000000000000000000) : Ev (fun k => laws_markInt64S.f k l m) (m + l.length, marks m l.length) := by
  unfold laws_markInt64S.f
  have := markI_l0 m l.length h0 h1 l.length 0 l (by omega) rfl (by simp [marks])
  simpa using this
theorem heldI_l0 (m0 : Int) (n : Nat) (h0 : 0 ≤ m0) (h1 : m0 + n ≤ 9000000000000000000) (d : Nat) : ∀ (i : Nat), i + d = n → Ev (fun k => laws_heldInt64S.l0 k (marks m0 n) (m0 + i) i) (m0 + n) := by
  induction d with
  | zero =>
    intro i h2
    refine Ev.shift ?_
    simp only [laws_heldInt64S.l0, marks_length]
    exact Ev.neg (by omega) (Ev.some (by rw [show i = n by omega]))
  | succ d ih =>
    intro i h2
    refine Ev.shift ?_
    simp only [laws_heldInt64S.l0, marks_length]
    refine Ev.pos (by omega) (Ev.pos (by omega) (Ev.pos (by rw [rd_get _ _ (by rw [marks_length]; omega), marks_get]) ?_))
    rw [wid (x := m0 + i + 1) (by omega), wid (x := (i : Int) + 1) (by omega), show m0 + (i : Int) + 1 = m0 + ((i + 1 : Nat) : Int) by omega]
    exact ih (i + 1) (by omega)
theorem heldI (n : Nat) (m : Int) (h0 : 0 ≤ m) (h1 : m + n ≤ 9000000000000000000) : Ev (fun k => laws_heldInt64S.f k (marks m n) m) (m + n) := by
  unfold laws_heldInt64S.f
  have := heldI_l0 m n h0 h1 n 0 (by omega)
  simpa using this
def risQ (l : List Int) (lo hi : Int) (j : Nat) : Bool := decide (lo ≤ l.getD j 0 ∧ l.getD j 0 ≤ hi) && (decide (j = 0) || decide (l.getD (j - 1) 0 < l.getD j 0))
theorem in_eq (a b c : Int) : spec_l00In.f a b c = some (decide (b ≤ a ∧ a ≤ c)) := by
  unfold spec_l00In.f; split <;> simp_all; omega
theorem within_eq (a b c : Int) : impl_within.f a b c = some (decide (b ≤ a ∧ a ≤ c)) := by
  unfold impl_within.f; split <;> simp_all; omega
def cpLayer (l : List S61) : List S26 := l.map fun x => ⟨x.f0, x.f1⟩
theorem toLayer_l0 (l : List S61) (hl : l.length ≤ 17592186044416) (d : Nat) : ∀ (i : Nat) (acc : List S26), i + d = l.length → acc.length = l.length → acc.take i = (cpLayer l).take i → Ev (fun k => laws_toLayerS.l0 k l acc i) (cpLayer l) := by
  have hc : (cpLayer l).length = l.length := List.length_map _
  induction d with
  | zero =>
    intro i acc h1 h2 h3
    refine Ev.shift ?_
    simp only [laws_toLayerS.l0]
    refine Ev.neg (by omega) (Ev.some ?_)
    rw [List.take_of_length_le (by omega), List.take_of_length_le (by omega)] at h3
    rw [h3]
  | succ d ih =>
    intro i acc h1 h2 h3
    refine Ev.shift ?_
    simp only [laws_toLayerS.l0, laws_toLayer.f, Option.bind_some]
    refine Ev.pos (by omega) (Ev.pos (by omega) (Ev.pos (by omega) ?_))
    rw [wid (by omega), Int.toNat_natCast]
    refine ih (i + 1) _ (by omega) (by rw [List.length_set, h2]) ?_
    rw [List.take_succ_eq_append_getElem (by rw [List.length_set]; omega), List.take_succ_eq_append_getElem (by omega), List.take_set_of_le (by omega), List.getElem_set_self, h3]
    have e : rd_T61 l (i : Int) = l[i] := by
      unfold rd_T61
      rw [Int.toNat_natCast, List.getD_eq_getElem?_getD, List.getElem?_eq_getElem (by omega), Option.getD_some]
    simp only [cpLayer, List.getElem_map, e]
theorem toLayer (l : List S61) (hl : l.length ≤ 17592186044416) : Ev (fun k => laws_toLayerS.f k l) (cpLayer l) := by
  unfold laws_toLayerS.f
  refine Ev.pos (by omega) (Ev.pos (by omega) ?_)
  rw [Int.toNat_natCast]
  exact toLayer_l0 l hl l.length 0 _ (by omega) (by simp) (by simp)
theorem cpLayer_length (l : List S61) : (cpLayer l).length = l.length := List.length_map _
theorem eqLayer_l0 (l : List S26) (hl : l.length ≤ 17592186044416) (d : Nat) : ∀ (i : Nat), i + d = l.length → Ev (fun k => laws_eqLayerS.l0 k l l i) true := by
  induction d with
  | zero =>
    intro i h1
    refine Ev.shift ?_
    simp only [laws_eqLayerS.l0]
    exact Ev.neg (by omega) (Ev.now _)
  | succ d ih =>
    intro i h1
    refine Ev.shift ?_
    simp only [laws_eqLayerS.l0, laws_eqLayer.f, Option.bind_some, if_true]
    refine Ev.pos (by omega) (Ev.pos (by omega) (Ev.pos (by omega) ?_))
    rw [wid (by omega)]
    exact ih (i + 1) (by omega)
theorem eqLayer (l : List S26) (hl : l.length ≤ 17592186044416) : Ev (fun k => laws_eqLayerS.f k l l) true := by
  unfold laws_eqLayerS.f
  exact Ev.pos rfl (eqLayer_l0 l hl l.length 0 (by omega))
theorem szLayer (l : List S61) (hl : l.length ≤ maxLen) : laws_szLayerS.f l 1048576 = some (if l.length ≤ 1048576 then 1048576 - (l.length : Int) else -1) := by
  unfold laws_szLayerS.f
  unfold maxLen at hl
  rw [wid (by omega)]
  by_cases h : l.length ≤ 1048576
  · rw [if_neg (by omega), if_pos h]
  · rw [if_pos (by omega), if_neg h]
def layB (h b : Int) : Bool := decide (1 ≤ h ∧ h ≤ 32) && decide (1 ≤ b ∧ b ≤ 32)
theorem one_eq (h b : Int) : spec_l21One.f h b = some (layB h b, h, b) := by
  unfold spec_l21One.f layB
  simp only [in_eq, Option.bind_some]
  by_cases c : 1 ≤ h ∧ h ≤ 32
  · rw [decide_eq_true c]; rfl
  · rw [decide_eq_false c]; rfl
theorem layB_iff {h b : Int} : layB h b = true ↔ (1 ≤ h ∧ h ≤ 32) ∧ 1 ≤ b ∧ b ≤ 32 := by
  unfold layB; simp
theorem iLay (h b : Int) : impl_ValidLayer.f h b = some (layB h b) := by
  unfold impl_ValidLayer.f layB
  simp only [within_eq, Option.bind_some]
  by_cases c : 1 ≤ h ∧ h ≤ 32
  · rw [decide_eq_true c]; rfl
  · rw [decide_eq_false c]; rfl
theorem sGcd_l0 (b : Nat) : ∀ a : Nat, Ev (fun k => spec_l17Gcd.l0 k a b) ((Nat.gcd a b : Nat) : Int) := by
  induction b using Nat.strongRecOn with
  | ind b ih =>
    intro a
    refine Ev.shift ?_
    simp only [spec_l17Gcd.l0]
    by_cases h : b = 0
    · subst h
      exact Ev.neg (by omega) (Ev.some (by simp))
    · refine Ev.pos (by omega) (Ev.neg (by omega) ?_)
      have e : Int.tmod (a : Int) (b : Int) = ((a % b : Nat) : Int) := by rw [Int.tmod_eq_emod_of_nonneg (by omega)]; rfl
      rw [e]
      refine Ev.same (ih (a % b) (Nat.mod_lt _ (by omega)) b) ?_
      rw [Nat.gcd_comm a b, Nat.gcd_rec b a, Nat.gcd_comm b (a % b)]
theorem sGcd (a b : Int) (ha : 0 ≤ a) (hb : 0 ≤ b) : Ev (fun k => spec_l17Gcd.f k a b) ((Nat.gcd a.toNat b.toNat : Nat) : Int) := by
  unfold spec_l17Gcd.f
  have := sGcd_l0 b.toNat a.toNat
  rwa [Int.toNat_of_nonneg ha, Int.toNat_of_nonneg hb] at this
theorem iGcd_l0 (b : Nat) : ∀ a : Nat, Ev (fun k => impl_commonDivisor.l0 k a b) ((Nat.gcd a b : Nat) : Int) := by
  induction b using Nat.strongRecOn with
  | ind b ih =>
    intro a
    refine Ev.shift ?_
    simp only [impl_commonDivisor.l0]
    by_cases h : b = 0
    · subst h
      exact Ev.pos (by omega) (Ev.some (by simp))
    · refine Ev.neg (by omega) ?_
      have e : Int.tmod (a : Int) (b : Int) = ((a % b : Nat) : Int) := by rw [Int.tmod_eq_emod_of_nonneg (by omega)]; rfl
      rw [e]
      refine Ev.same (ih (a % b) (Nat.mod_lt _ (by omega)) b) ?_
      rw [Nat.gcd_comm a b, Nat.gcd_rec b a, Nat.gcd_comm b (a % b)]
theorem iGcd (a b : Int) (ha : 0 ≤ a) (hb : 0 ≤ b) : Ev (fun k => impl_commonDivisor.f k a b) ((Nat.gcd a.toNat b.toNat : Nat) : Int) := by
  unfold impl_commonDivisor.f
  have := iGcd_l0 b.toNat a.toNat
  rwa [Int.toNat_of_nonneg ha, Int.toNat_of_nonneg hb] at this
/-- ticks that a layer needs -/
def need (h b : Int) : Int := h / ((Nat.gcd h.toNat b.toNat : Nat) : Int)
theorem gcd_pos (h b : Int) (hh : 1 ≤ h) : 1 ≤ ((Nat.gcd h.toNat b.toNat : Nat) : Int) := by
  have := Nat.gcd_pos_of_pos_left (m := h.toNat) b.toNat (by omega)
  omega
theorem gcd_le (h b : Int) (hh : 1 ≤ h) : ((Nat.gcd h.toNat b.toNat : Nat) : Int) ≤ h := by
  have := Nat.le_of_dvd (by omega) (Nat.gcd_dvd_left h.toNat b.toNat)
  omega
theorem need_range (h b : Int) (hh : 1 ≤ h) : 1 ≤ need h b ∧ need h b ≤ h := by
  unfold need
  have h1 := gcd_pos h b hh
  have h2 := gcd_le h b hh
  refine ⟨?_, Int.ediv_le_self _ (by omega)⟩
  have := (Int.le_ediv_iff_mul_le (c := ((Nat.gcd h.toNat b.toNat : Nat) : Int)) (a := 1) (b := h) (by omega)).2 (by omega)
  exact this
theorem need_mul (h b : Int) (hh : 1 ≤ h) : need h b * ((Nat.gcd h.toNat b.toNat : Nat) : Int) = h := by
  unfold need
  refine Int.ediv_mul_cancel ?_
  obtain ⟨c, hc⟩ := Nat.gcd_dvd_left h.toNat b.toNat
  exact ⟨c, by have : (h.toNat : Int) = h := Int.toNat_of_nonneg (by omega); rw [← this]; exact_mod_cast hc⟩
theorem sNeed (h b : Int) (hh : 1 ≤ h ∧ h ≤ 32) (hb : 1 ≤ b ∧ b ≤ 32) : Ev (fun k => spec_l21Need.f k h b) (need h b, h, b) := by
  unfold spec_l21Need.f
  refine Ev.bind (sGcd h b (by omega) (by omega)) ?_
  have h1 := gcd_pos h b hh.1
  have h2 := need_range h b hh.1
  refine Ev.neg (by omega) (Ev.some ?_)
  rw [Int.tdiv_eq_ediv_of_nonneg (by omega)]
  show some (wrap64 (need h b), h, b) = _
  rw [wid (by omega)]
theorem sNeedAt (h b : Int) (hh : 1 ≤ h ∧ h ≤ 32) (hb : 1 ≤ b ∧ b ≤ 32) : Ev (fun k => spec_l21Need_at.f k h b) (need h b) := by
  unfold spec_l21Need_at.f
  refine Ev.bind (sGcd h b (by omega) (by omega)) ?_
  have h1 := gcd_pos h b hh.1
  have h2 := need_range h b hh.1
  refine Ev.neg (by omega) (Ev.some ?_)
  rw [Int.tdiv_eq_ediv_of_nonneg (by omega)]
  show some (wrap64 (need h b)) = _
  rw [wid (by omega)]
theorem iNeed (h b : Int) (hh : 1 ≤ h ∧ h ≤ 32) (hb : 1 ≤ b ∧ b ≤ 32) : Ev (fun k => impl_Layer_ticks.f k h b) (need h b) := by
  unfold impl_Layer_ticks.f
  refine Ev.bind (iGcd h b (by omega) (by omega)) ?_
  have h1 := gcd_pos h b hh.1
  have h2 := need_range h b hh.1
  refine Ev.neg (by omega) (Ev.some ?_)
  rw [Int.tdiv_eq_ediv_of_nonneg (by omega)]
  show some (wrap64 (need h b)) = _
  rw [wid (by omega)]
/-- the ticks of a layer's hits from the i-th on -/
def hitsL (h b t : Int) (i : Nat) : Nat → List Int
  | 0 => []
  | n + 1 => (i * b * t / h) :: hitsL h b t (i + 1) n
theorem hitsL_length (h b t : Int) (n : Nat) : ∀ i, (hitsL h b t i n).length = n := by
  induction n with
  | zero => intro i; rfl
  | succ n ih => intro i; simp [hitsL, ih]
theorem hitsL_get (h b t : Int) (n : Nat) : ∀ (i j : Nat) (hj : j < (hitsL h b t i n).length), (hitsL h b t i n)[j] = ((i + j : Nat) : Int) * b * t / h := by
  induction n with
  | zero => intro i j hj; simp [hitsL] at hj
  | succ n ih =>
    intro i j hj
    cases j with
    | zero => simp [hitsL]
    | succ j => simp only [hitsL, List.getElem_cons_succ]; rw [ih]; congr 3; omega
theorem hit_val (h b t : Int) (hh : 1 ≤ h ∧ h ≤ 32) (hb : 1 ≤ b ∧ b ≤ 32) (ht : 1 ≤ t ∧ t ≤ 1000000000) (i : Nat) (hi : (i : Int) < h) : wrap64 (Int.tdiv (wrap64 ((wrap64 ((i : Int) * b)) * t)) h) = i * b * t / h ∧ 0 ≤ i * b * t / h := by
  have h1 : 0 ≤ (i : Int) * b := Int.mul_nonneg (by omega) (by omega)
  have h2 : (i : Int) * b ≤ 32 * 32 := Int.mul_le_mul (by omega) (by omega) (by omega) (by omega)
  have h3 : 0 ≤ (i : Int) * b * t := Int.mul_nonneg h1 (by omega)
  have h4 : (i : Int) * b * t ≤ 1024 * 1000000000 := Int.mul_le_mul (by omega) (by omega) (by omega) (by omega)
  rw [wid (x := (i : Int) * b) (by omega), wid (x := (i : Int) * b * t) (by omega), Int.tdiv_eq_ediv_of_nonneg h3]
  have h5 : 0 ≤ (i : Int) * b * t / h := Int.ediv_nonneg h3 (by omega)
  have h6 : (i : Int) * b * t / h ≤ (i : Int) * b * t := Int.ediv_le_self _ h3
  exact ⟨wid (by omega), h5⟩
theorem sHits_l0 (h b t : Int) (hh : 1 ≤ h ∧ h ≤ 32) (hb : 1 ≤ b ∧ b ≤ 32) (ht : 1 ≤ t ∧ t ≤ 1000000000) (d : Nat) : ∀ (i : Nat) (acc : List Int), (i : Int) + d = h → acc.length = i → Ev (fun k => spec_l21Hits.l0 k t acc i h b) (acc ++ hitsL h b t i d, h, b) := by
  induction d with
  | zero =>
    intro i acc h1 h2
    refine Ev.shift ?_
    simp only [spec_l21Hits.l0]
    exact Ev.neg (by omega) (Ev.some (by simp [hitsL]))
  | succ d ih =>
    intro i acc h1 h2
    refine Ev.shift ?_
    simp only [spec_l21Hits.l0]
    refine Ev.pos (by omega) (Ev.neg (by omega) (Ev.pos (by omega) ?_))
    rw [(hit_val h b t hh hb ht i (by omega)).1, wid (x := (i : Int) + 1) (by omega)]
    exact Ev.same (ih (i + 1) (acc ++ [(i : Int) * b * t / h]) (by omega) (by rw [List.length_append, List.length_singleton, h2])) (by simp [hitsL])
theorem sHits (h b t : Int) (hh : 1 ≤ h ∧ h ≤ 32) (hb : 1 ≤ b ∧ b ≤ 32) (ht : 1 ≤ t ∧ t ≤ 1000000000) : Ev (fun k => spec_l21Hits.f k h b t) (hitsL h b t 0 h.toNat, h, b) := by
  unfold spec_l21Hits.f
  exact sHits_l0 h b t hh hb ht h.toNat 0 [] (by omega) rfl
theorem iHits_l0 (h b t : Int) (hh : 1 ≤ h ∧ h ≤ 32) (hb : 1 ≤ b ∧ b ≤ 32) (ht : 1 ≤ t ∧ t ≤ 1000000000) (d : Nat) : ∀ (i : Nat) (acc : List Int), (i : Int) + d = h → acc.length = i → Ev (fun k => impl_Layer_hitTicks.l0 k t acc h i h b) (acc ++ hitsL h b t i d) := by
  induction d with
  | zero =>
    intro i acc h1 h2
    refine Ev.shift ?_
    simp only [impl_Layer_hitTicks.l0]
    exact Ev.neg (by omega) (Ev.some (by simp [hitsL]))
  | succ d ih =>
    intro i acc h1 h2
    refine Ev.shift ?_
    simp only [impl_Layer_hitTicks.l0]
    refine Ev.pos (by omega) (Ev.neg (by omega) (Ev.pos (by omega) ?_))
    rw [(hit_val h b t hh hb ht i (by omega)).1, wid (x := (i : Int) + 1) (by omega)]
    exact Ev.same (ih (i + 1) (acc ++ [(i : Int) * b * t / h]) (by omega) (by rw [List.length_append, List.length_singleton, h2])) (by simp [hitsL])
theorem iHits (h b t : Int) (hh : 1 ≤ h ∧ h ≤ 32) (hb : 1 ≤ b ∧ b ≤ 32) (ht : 1 ≤ t ∧ t ≤ 1000000000) : Ev (fun k => impl_Layer_hitTicks.f k h b t) (hitsL h b t 0 h.toNat) := by
  unfold impl_Layer_hitTicks.f
  exact iHits_l0 h b t hh hb ht h.toNat 0 [] (by omega) rfl
theorem sHas_l0 (l : List Int) (n : Int) (hl : l.length ≤ 35184372088832) (d : Nat) : ∀ (i : Nat), i + d = l.length → Ev (fun k => spec_l00Has.l0 k l n i) (decide (n ∈ l.drop i)) := by
  induction d with
  | zero =>
    intro i h1
    refine Ev.shift ?_
    simp only [spec_l00Has.l0]
    refine Ev.neg (by omega) (Ev.some ?_)
    rw [List.drop_of_length_le (by omega)]; simp
  | succ d ih =>
    intro i h1
    refine Ev.shift ?_
    simp only [spec_l00Has.l0]
    refine Ev.pos (by omega) (Ev.pos (by omega) ?_)
    rw [rd_get l i (by omega), List.drop_eq_getElem_cons (by omega)]
    by_cases h : l[i] = n
    · exact Ev.pos h (Ev.some (by rw [h]; simp))
    · refine Ev.neg h ?_
      rw [wid (by omega)]
      refine Ev.same (ih (i + 1) (by omega)) ?_
      rw [decide_eq_decide, List.mem_cons]
      exact ⟨fun h2 => Or.inr h2, fun h2 => h2.elim (fun e => absurd e.symm h) id⟩
theorem sHas (l : List Int) (n : Int) (hl : l.length ≤ 35184372088832) : Ev (fun k => spec_l00Has.f k l n) (decide (n ∈ l)) := by
  unfold spec_l00Has.f
  have := sHas_l0 l n hl l.length 0 (by omega)
  simpa using this
/-- the least ticks of two -/
def lcmI (a b : Int) : Int := a / ((Nat.gcd a.toNat b.toNat : Nat) : Int) * b
theorem lcmI_dvd (a b : Int) (ha : 1 ≤ a) (hb : 1 ≤ b) : (∃ c, lcmI a b = a * c) ∧ (∃ c, lcmI a b = b * c) ∧ 1 ≤ lcmI a b ∧ lcmI a b ≤ a * b := by
  unfold lcmI
  have g1 := gcd_pos a b ha
  have g2 := need_mul a b ha
  have g3 := need_range a b ha
  unfold need at g2 g3
  obtain ⟨c, hc⟩ := Nat.gcd_dvd_right a.toNat b.toNat
  have hb2 : b = ((Nat.gcd a.toNat b.toNat : Nat) : Int) * (c : Int) := by
    have : (b.toNat : Int) = b := Int.toNat_of_nonneg (by omega)
    rw [← this]; exact_mod_cast hc
  refine ⟨⟨c, ?_⟩, ⟨a / ((Nat.gcd a.toNat b.toNat : Nat) : Int), Int.mul_comm _ _⟩, ?_, ?_⟩
  · generalize ((Nat.gcd a.toNat b.toNat : Nat) : Int) = g at *
    generalize a / g = q at *
    grind
  · have := Int.mul_le_mul g3.1 hb (by omega) (by omega)
    omega
  · exact Int.mul_le_mul_of_nonneg_right g3.2 (by omega)
theorem sTicks_step (l : List S26) (hl : l.length ≤ 35184372088) (i : Nat) (hi : i < l.length) (t : Int) (ht : 1 ≤ t ∧ t ≤ 1000000000000000) (hv : layB (l.getD i z26).f0 (l.getD i z26).f1 = true) (r : Int)
    (h : Ev (fun k => spec_l21Ticks.l0 k l (lcmI t (need (l.getD i z26).f0 (l.getD i z26).f1)) ((i + 1 : Nat) : Int)) r) : Ev (fun k => spec_l21Ticks.l0 k l t i) r := by
  obtain ⟨hh, hb⟩ := layB_iff.1 hv
  have hn := need_range (l.getD i z26).f0 (l.getD i z26).f1 hh.1
  have hg := gcd_pos t (need (l.getD i z26).f0 (l.getD i z26).f1) ht.1
  have hq := need_range t (need (l.getD i z26).f0 (l.getD i z26).f1) ht.1
  have hm := (lcmI_dvd t (need (l.getD i z26).f0 (l.getD i z26).f1) ht.1 hn.1).2.2
  have hm2 : t * need (l.getD i z26).f0 (l.getD i z26).f1 ≤ 1000000000000000 * 32 := Int.mul_le_mul ht.2 (by omega) (by omega) (by omega)
  refine Ev.shift ?_
  simp only [spec_l21Ticks.l0]
  refine Ev.pos (by omega) (Ev.pos (by omega) ?_)
  have e : rd_T26 l (i : Int) = l.getD i z26 := by unfold rd_T26; rw [Int.toNat_natCast]
  rw [e]
  refine Ev.bind (sNeedAt _ _ hh hb) (Ev.bind (sGcd t _ (by omega) (by omega)) (Ev.neg (by omega) ?_))
  rw [Int.tdiv_eq_ediv_of_nonneg (by omega), wid (x := (i : Int) + 1) (by omega)]
  unfold need at hq
  rw [wid (x := t / _) (by unfold need at *; omega)]
  unfold lcmI at h hm
  rw [wid (by omega)]
  exact h
theorem getDsetLayer (l : List S26) (i j : Nat) (v : S26) (h : i < l.length) : (l.set i v).getD j z26 = if i = j then v else l.getD j z26 := by
  rw [List.getD_eq_getElem?_getD, List.getElem?_set, List.getD_eq_getElem?_getD]
  split
  · rename_i e; subst e; simp [h]
  · rfl
theorem rdMLayer (l : List S26) (i : Nat) : rd_T26 l (i : Int) = l.getD i z26 := by
  unfold rd_T26
  rw [Int.toNat_natCast]
theorem markLayer_l0 (m0 : Int) (n : Nat) (h0 : 0 ≤ m0) (h1 : m0 + 2 * n ≤ 9000000000000000000) (d : Nat) : ∀ (i : Nat) (acc : List S26), i + d = n → acc.length = n → (∀ j, j < i → acc.getD j z26 = ⟨m0 + 2 * j, m0 + 2 * j + 1⟩) → ∃ l', l'.length = n ∧ (∀ j, j < n → l'.getD j z26 = ⟨m0 + 2 * j, m0 + 2 * j + 1⟩) ∧ Ev (fun k => laws_markLayerS.l0 k acc (m0 + 2 * i) i) (m0 + 2 * n, l') := by
  induction d with
  | zero =>
    intro i acc hi ha h
    obtain rfl : i = n := by omega
    refine ⟨acc, ha, h, ?_⟩
    refine Ev.shift ?_
    simp only [laws_markLayerS.l0]
    exact Ev.neg (by omega) (Ev.now _)
  | succ d ih =>
    intro i acc hi ha h
    have g1 := getDsetLayer acc i i ⟨m0 + 2 * i, (acc.getD i z26).f1⟩ (by omega)
    rw [if_pos rfl] at g1
    have w1 : wrap64 (m0 + 2 * (i : Int) + 1) = m0 + 2 * i + 1 := wid (by omega)
    have w2 : wrap64 (m0 + 2 * (i : Int) + 1 + 1) = m0 + 2 * ((i + 1 : Nat) : Int) := by rw [wid (by omega)]; omega
    have w3 : wrap64 ((i : Int) + 1) = ((i + 1 : Nat) : Int) := by rw [wid (by omega)]; rfl
    obtain ⟨l', a1, a2, a3⟩ := ih (i + 1) (acc.set i ⟨m0 + 2 * i, m0 + 2 * i + 1⟩) (by omega) (by rw [List.length_set]; exact ha) (fun j hj => by
      rw [getDsetLayer acc i j _ (by omega)]
      split
      · rename_i e; rw [e]
      · exact h j (by omega))
    refine ⟨l', a1, a2, ?_⟩
    refine Ev.shift ?_
    simp only [laws_markLayerS.l0]
    clear a1 a2 ih h
    have p1 : (i : Int) < (acc.length : Int) := by clear w1 w2 w3 g1; omega
    refine Ev.pos p1 (Ev.pos (Int.natCast_nonneg _) ?_)
    simp only [Option.bind_some, Int.toNat_natCast, rdMLayer, g1, w1, w2, w3, List.set_set]
    exact a3
theorem markLayer (l : List S26) (m : Int) (h0 : 0 ≤ m) (h1 : m + 2 * l.length ≤ 9000000000000000000) : ∃ l', l'.length = l.length ∧ (∀ j, j < l.length → l'.getD j z26 = ⟨m + 2 * j, m + 2 * j + 1⟩) ∧ Ev (fun k => laws_markLayerS.f k l m) (m + 2 * l.length, l') := by
  obtain ⟨l', a1, a2, a3⟩ := markLayer_l0 m l.length h0 h1 l.length 0 l (by omega) rfl (fun j hj => by omega)
  refine ⟨l', a1, a2, ?_⟩
  have e : m + 2 * ((0 : Nat) : Int) = m := by omega
  rw [e] at a3
  exact a3
theorem put_l0 (x : List Int) (t : Int) (hx : x.length ≤ 1000000) (d : Nat) : ∀ (i : Nat) (acc : List Int) (b : Bool), i + d = x.length → acc.length ≤ i + 1 → ((b = false) → acc.length ≤ i) → ∃ r : List Int, r.length ≤ x.length + 1 ∧ Ev (fun k => spec_l00Put.l0 k x t acc b i) r := by
  induction d with
  | zero =>
    intro i acc b h1 h2 h3
    cases b with
    | true =>
      refine ⟨acc, by omega, Ev.shift ?_⟩
      simp only [spec_l00Put.l0]
      exact Ev.neg (by omega) (Ev.pos trivial (Ev.now _))
    | false =>
      have := h3 rfl
      refine ⟨acc ++ [t], by simp; omega, Ev.shift ?_⟩
      simp only [spec_l00Put.l0]
      exact Ev.neg (by omega) (Ev.neg (by simp) (Ev.pos (by omega) (Ev.now _)))
  | succ d ih =>
    intro i acc b h1 h2 h3
    have w1 : wrap64 ((i : Int) + 1) = ((i + 1 : Nat) : Int) := by rw [wid (by omega)]; rfl
    have jf : ∀ b' : Bool, b' = b → ∃ r : List Int, r.length ≤ x.length + 1 ∧ Ev (fun k => spec_l00Put.j1 k x t acc b' i false) r := by
      intro b' hb
      subst hb
      obtain ⟨r, r1, r2⟩ := ih (i + 1) (acc ++ [rd x i]) b' (by omega) (by simp; omega) (fun e => by have := h3 e; simp; omega)
      refine ⟨r, r1, Ev.shift ?_⟩
      simp only [spec_l00Put.j1, w1]
      exact Ev.neg (by simp) (Ev.pos (by omega) (Ev.pos (by omega) (Ev.pos (by omega) r2)))
    cases b with
    | true =>
      obtain ⟨r, r1, r2⟩ := jf true rfl
      refine ⟨r, r1, Ev.shift ?_⟩
      simp only [spec_l00Put.l0]
      exact Ev.pos (by omega) (Ev.pos trivial r2)
    | false =>
      have hle := h3 rfl
      by_cases c : rd x (i : Int) ≥ t
      · have hj : ∃ r : List Int, r.length ≤ x.length + 1 ∧ Ev (fun k => spec_l00Put.j1 k x t acc false i true) r := by
          by_cases c2 : rd x (i : Int) > t
          · obtain ⟨r, r1, r2⟩ := ih (i + 1) ((acc ++ [t]) ++ [rd x i]) true (by omega) (by simp; omega) (fun e => by cases e)
            refine ⟨r, r1, Ev.shift ?_⟩
            simp only [spec_l00Put.j1, w1]
            refine Ev.pos trivial (Ev.pos (by omega) (Ev.pos (by omega) (Ev.pos c2 (Ev.pos (by omega) ?_))))
            simp only [Option.bind_some]
            exact Ev.pos (by simp; omega) r2
          · obtain ⟨r, r1, r2⟩ := ih (i + 1) (acc ++ [rd x i]) true (by omega) (by simp; omega) (fun e => by cases e)
            refine ⟨r, r1, Ev.shift ?_⟩
            simp only [spec_l00Put.j1, w1]
            exact Ev.pos trivial (Ev.pos (by omega) (Ev.pos (by omega) (Ev.neg c2 (Ev.pos (by omega) r2))))
        obtain ⟨r, r1, r2⟩ := hj
        refine ⟨r, r1, Ev.shift ?_⟩
        simp only [spec_l00Put.l0]
        refine Ev.pos (by omega) (Ev.neg (by simp) (Ev.pos (by omega) ?_))
        rw [decide_eq_true c]; exact r2
      · obtain ⟨r, r1, r2⟩ := jf false rfl
        refine ⟨r, r1, Ev.shift ?_⟩
        simp only [spec_l00Put.l0]
        refine Ev.pos (by omega) (Ev.neg (by simp) (Ev.pos (by omega) ?_))
        rw [decide_eq_false c]; exact r2
theorem put_ok (x : List Int) (t : Int) (hx : x.length ≤ 1000000) : ∃ r : List Int, r.length ≤ x.length + 1 ∧ Ev (fun k => spec_l00Put.f k x t) r := by
  unfold spec_l00Put.f
  exact put_l0 x t hx x.length 0 [] false (by omega) (by simp) (fun _ => by simp)
def totL : List (List Int) → Nat
  | [] => 0
  | r :: rs => r.length + totL rs
def mksL (m : Int) : List (List Int) → List (List Int)
  | [] => []
  | r :: rs => marks m r.length :: mksL (m + r.length) rs
theorem getD_mid (p : List (List Int)) (r : List Int) (rs : List (List Int)) : (p ++ r :: rs).getD p.length [] = r := by
  rw [List.getD_eq_getElem?_getD, List.getElem?_append_right (Nat.le_refl _), Nat.sub_self]; rfl
theorem set_mid (p : List (List Int)) (r r' : List Int) (rs : List (List Int)) : (p ++ r :: rs).set p.length r' = p ++ r' :: rs := by
  rw [List.set_append_right _ _ (Nat.le_refl _), Nat.sub_self]; rfl
theorem snoc_mid (p : List (List Int)) (r : List Int) (rs : List (List Int)) : p ++ r :: rs = (p ++ [r]) ++ rs := by simp
theorem mksL_length (rs : List (List Int)) : ∀ m, (mksL m rs).length = rs.length := by
  induction rs with
  | nil => intro m; rfl
  | cons r rs ih => intro m; simp [mksL, ih]
theorem markSS_l0 (rs : List (List Int)) : ∀ (p : List (List Int)) (m : Int), 0 ≤ m → m + totL rs ≤ 9000000000000000000 → p.length + rs.length ≤ 9000000000000000000 → Ev (fun k => laws_markInt64SS.l0 k (p ++ rs) m p.length) (m + totL rs, p ++ mksL m rs) := by
  induction rs with
  | nil =>
    intro p m h0 h1 h2
    refine Ev.shift ?_
    simp only [laws_markInt64SS.l0, List.append_nil, totL, mksL]
    exact Ev.neg (by omega) (Ev.some (by simp))
  | cons r rs ih =>
    intro p m h0 h1 h2
    simp only [totL, List.length_cons] at h1 h2
    have w1 : wrap64 ((p.length : Int) + 1) = ((p.length + 1 : Nat) : Int) := by rw [wid (by omega)]; rfl
    have ih' := ih (p ++ [marks m r.length]) (m + r.length) (by omega) (by omega) (by rw [List.length_append]; simp only [List.length_cons, List.length_nil]; omega)
    rw [show (p ++ [marks m r.length]).length = p.length + 1 by simp, ← snoc_mid, ← snoc_mid, show m + (r.length : Int) + (totL rs : Int) = m + (totL (r :: rs) : Nat) by simp only [totL]; omega] at ih'
    refine Ev.shift ?_
    simp only [laws_markInt64SS.l0, Int.toNat_natCast, getD_mid, set_mid, w1, List.length_append, List.length_cons]
    exact Ev.pos (by omega) (Ev.pos (by omega) (Ev.bind (markI r m h0 (by omega)) (by simp only [set_mid]; exact ih')))
theorem markSS (rs : List (List Int)) (m : Int) (h0 : 0 ≤ m) (h1 : m + totL rs ≤ 9000000000000000000) (h2 : rs.length ≤ 9000000000000000000) : Ev (fun k => laws_markInt64SS.f k rs m) (m + totL rs, mksL m rs) := by
  unfold laws_markInt64SS.f
  exact markSS_l0 rs [] m h0 h1 (by simpa using h2)
theorem totL_le (rs : List (List Int)) (b : Nat) (h : ∀ r ∈ rs, r.length ≤ b) : totL rs ≤ b * rs.length := by
  induction rs with
  | nil => simp [totL]
  | cons r rs ih =>
    have h1 := h r List.mem_cons_self
    have h2 := ih (fun x hx => h x (List.mem_cons_of_mem _ hx))
    simp only [totL, List.length_cons, Nat.mul_add, Nat.mul_one]; omega
theorem heldSS_l0 (rs : List (List Int)) : ∀ (p : List (List Int)) (m : Int), 0 ≤ m → m + totL rs ≤ 9000000000000000000 → p.length + rs.length ≤ 9000000000000000000 → Ev (fun k => laws_heldInt64SS.l0 k (p ++ mksL m rs) m p.length) (m + totL rs) := by
  induction rs with
  | nil =>
    intro p m h0 h1 h2
    refine Ev.shift ?_
    simp only [laws_heldInt64SS.l0, List.append_nil, totL, mksL]
    exact Ev.neg (by omega) (Ev.some (by simp))
  | cons r rs ih =>
    intro p m h0 h1 h2
    simp only [totL, List.length_cons] at h1 h2
    have w1 : wrap64 ((p.length : Int) + 1) = ((p.length + 1 : Nat) : Int) := by rw [wid (by omega)]; rfl
    have ih' := ih (p ++ [marks m r.length]) (m + r.length) (by omega) (by omega) (by rw [List.length_append]; simp only [List.length_cons, List.length_nil]; omega)
    rw [show (p ++ [marks m r.length]).length = p.length + 1 by simp, ← snoc_mid, show m + (r.length : Int) + (totL rs : Int) = m + (totL (r :: rs) : Nat) by simp only [totL]; omega] at ih'
    refine Ev.shift ?_
    simp only [laws_heldInt64SS.l0, rd_L4, Int.toNat_natCast, mksL, getD_mid, w1, List.length_append, List.length_cons]
    exact Ev.pos (by omega) (Ev.pos (by omega) (Ev.bind (heldI r.length m h0 (by omega)) (Ev.neg (by omega) ih')))
theorem heldSS (rs : List (List Int)) (m : Int) (h0 : 0 ≤ m) (h1 : m + totL rs ≤ 9000000000000000000) (h2 : rs.length ≤ 9000000000000000000) : Ev (fun k => laws_heldInt64SS.f k (mksL m rs) m) (m + totL rs) := by
  unfold laws_heldInt64SS.f
  exact heldSS_l0 rs [] m h0 h1 (by simpa using h2)
theorem eqSS_l0 (rs : List (List Int)) : ∀ (p : List (List Int)), (∀ r ∈ rs, r.length ≤ 35184372088832) → p.length + rs.length ≤ 9000000000000000000 → Ev (fun k => laws_eqInt64SS.l0 k (p ++ rs) (p ++ rs) p.length) true := by
  induction rs with
  | nil =>
    intro p hr h2
    refine Ev.shift ?_
    simp only [laws_eqInt64SS.l0, List.append_nil]
    exact Ev.neg (by omega) (Ev.now _)
  | cons r rs ih =>
    intro p hr h2
    simp only [List.length_cons] at h2
    have w1 : wrap64 ((p.length : Int) + 1) = ((p.length + 1 : Nat) : Int) := by rw [wid (by omega)]; rfl
    have g : (p ++ r :: rs).getD p.length [] = r := by rw [List.getD_eq_getElem?_getD, List.getElem?_append_right (Nat.le_refl _), Nat.sub_self]; rfl
    have ih' := ih (p ++ [r]) (fun x hx => hr x (List.mem_cons_of_mem _ hx)) (by rw [List.length_append]; simp only [List.length_cons, List.length_nil]; omega)
    rw [show (p ++ [r]).length = p.length + 1 by simp, show (p ++ [r]) ++ rs = p ++ r :: rs by simp] at ih'
    refine Ev.shift ?_
    simp only [laws_eqInt64SS.l0, rd_L4, Int.toNat_natCast, g, w1, List.length_append, List.length_cons]
    exact Ev.pos (by omega) (Ev.pos (by omega) (Ev.pos (by omega) (Ev.bind (eqI r (hr r List.mem_cons_self)) (Ev.pos rfl ih'))))
theorem eqSS (rs : List (List Int)) (hr : ∀ r ∈ rs, r.length ≤ 35184372088832) (h2 : rs.length ≤ 9000000000000000000) : Ev (fun k => laws_eqInt64SS.f k rs rs) true := by
  unfold laws_eqInt64SS.f
  exact Ev.pos rfl (eqSS_l0 rs [] hr (by simpa using h2))
def lyQ (l : List S26) (j : Nat) : Bool := layB (l.getD j z26).f0 (l.getD j z26).f1
def lisB (l : List S26) : Bool := allF (lyQ l) l.length 0 && decide (1 ≤ (l.length : Int) ∧ (l.length : Int) ≤ 8)
theorem dec_and2 (p q : Prop) [Decidable p] [Decidable q] : (decide p && decide q) = decide (p ∧ q) := by
  by_cases p <;> by_cases q <;> simp [*]
theorem rdLay (l : List S26) (k : Nat) : rd_T26 l (k : Int) = l.getD k z26 := by
  unfold rd_T26
  rw [Int.toNat_natCast]
theorem sList_l0 (l : List S26) (hl : l.length ≤ 17592186044416) (d : Nat) : ∀ (i : Nat), i + d = l.length → Ev (fun k => spec_l21List.l0 k l i) (allF (lyQ l) l.length i && decide (1 ≤ (l.length : Int) ∧ (l.length : Int) ≤ 8)) := by
  induction d with
  | zero =>
    intro i h1
    refine Ev.shift ?_
    simp only [spec_l21List.l0, in_eq, Option.bind_some]
    exact Ev.neg (by omega) (Ev.some (by rw [allF_end _ (by omega), Bool.true_and]))
  | succ d ih =>
    intro i h1
    have w1 : wrap64 ((i : Int) + 1) = ((i + 1 : Nat) : Int) := by rw [wid (by omega)]; rfl
    refine Ev.shift ?_
    simp only [spec_l21List.l0, spec_l21One_at.f, Option.bind_some, rdLay, w1]
    refine Ev.pos (by omega) (Ev.pos (by omega) ?_)
    rw [dec_and2, dec_and2]
    cases hq : lyQ l i with
    | true =>
      rw [allF_yes _ hq]
      exact Ev.pos hq (ih (i + 1) (by omega))
    | false =>
      rw [allF_no _ (by omega) hq]
      refine Ev.neg ?_ (Ev.now _)
      rw [show (decide (1 ≤ (l.getD i z26).f0 ∧ (l.getD i z26).f0 ≤ 32) && decide (1 ≤ (l.getD i z26).f1 ∧ (l.getD i z26).f1 ≤ 32)) = false from hq]
      decide
theorem iList (l : List S26) : impl_layersOk.f l = some (lisB l) := by
  unfold impl_layersOk.f lisB
  rw [Option.some_inj, ← dec_and2]
  have e : (!(l.any layN)) = allF (lyQ l) l.length 0 := by
    rw [Bool.eq_iff_iff, Bool.not_eq_true', List.any_eq_false, allF_iff]
    have g : ∀ j, j < l.length → l.getD j z26 ∈ l := fun j hj => by
      rw [List.getD_eq_getElem?_getD, List.getElem?_eq_getElem hj]; exact List.getElem_mem hj
    have n : ∀ x : S26, ¬ layN x = true ↔ layB x.f0 x.f1 = true := fun x => by
      unfold layN layB
      rw [dec_and2, dec_and2, Bool.not_eq_true', Bool.not_eq_false]
    constructor
    · intro h j hj _
      exact (n _).1 (h _ (g j hj))
    · intro h x hx
      obtain ⟨j, hj, rfl⟩ := List.getElem_of_mem hx
      have := h j hj (Nat.zero_le _)
      unfold lyQ at this
      rw [List.getD_eq_getElem?_getD, List.getElem?_eq_getElem hj] at this
      exact (n _).2 this
  rw [e]
  cases allF (lyQ l) l.length 0 <;> cases decide (1 ≤ (l.length : Int)) <;> cases decide ((l.length : Int) ≤ 8) <;> rfl
theorem iTicks_step (l : List S26) (hl : l.length ≤ 35184372088) (i : Nat) (hi : i < l.length) (t : Int) (ht : 1 ≤ t ∧ t ≤ 1000000000000000) (hv : layB (l.getD i z26).f0 (l.getD i z26).f1 = true) (r : Int)
    (h : Ev (fun k => impl_ticksFor.l0 k (lcmI t (need (l.getD i z26).f0 (l.getD i z26).f1)) l (l.length : Int) ((i + 1 : Nat) : Int)) r) : Ev (fun k => impl_ticksFor.l0 k t l (l.length : Int) i) r := by
  obtain ⟨hh, hb⟩ := layB_iff.1 hv
  have hn := need_range (l.getD i z26).f0 (l.getD i z26).f1 hh.1
  have hg := gcd_pos t (need (l.getD i z26).f0 (l.getD i z26).f1) ht.1
  have hq := need_range t (need (l.getD i z26).f0 (l.getD i z26).f1) ht.1
  have hm := (lcmI_dvd t (need (l.getD i z26).f0 (l.getD i z26).f1) ht.1 hn.1).2.2
  have hm2 : t * need (l.getD i z26).f0 (l.getD i z26).f1 ≤ 1000000000000000 * 32 := Int.mul_le_mul ht.2 (by omega) (by omega) (by omega)
  refine Ev.shift ?_
  simp only [impl_ticksFor.l0]
  refine Ev.pos (by omega) (Ev.pos (by omega) (Ev.pos (by omega) ?_))
  rw [rdLay]
  refine Ev.bind (iNeed _ _ hh hb) (Ev.bind (iGcd t _ (by omega) (by omega)) (Ev.neg (by omega) (Ev.bind (iNeed _ _ hh hb) ?_)))
  rw [Int.tdiv_eq_ediv_of_nonneg (by omega), wid (x := (i : Int) + 1) (by omega)]
  unfold need at hq
  rw [wid (x := t / _) (by unfold need at *; omega)]
  unfold lcmI at h hm
  rw [wid (by omega)]
  exact h
def bnd : Nat → Int
  | 0 => 1
  | n + 1 => bnd n * 32
theorem bnd_le (i : Nat) (h : i ≤ 8) : bnd i ≤ 1000000000000000 := by
  have : ∀ i : Fin 9, bnd i ≤ 1000000000000000 := by decide
  exact this ⟨i, by omega⟩
def ndL (x : S26) : Int := need x.f0 x.f1
def tkF (l : List S26) : Nat → Nat → Int → Int
  | 0, _, t => t
  | d + 1, i, t => tkF l d (i + 1) (lcmI t (ndL (l.getD i z26)))
theorem lcm_ge (a b : Int) (ha : 1 ≤ a) (hb : 1 ≤ b) : a ≤ lcmI a b ∧ b ≤ lcmI a b := by
  obtain ⟨⟨c, hc⟩, ⟨e, he⟩, h1, _⟩ := lcmI_dvd a b ha hb
  exact ⟨Int.le_of_dvd (by omega) ⟨c, hc⟩, Int.le_of_dvd (by omega) ⟨e, he⟩⟩
theorem tk_props (l : List S26) (hv : ∀ j, j < l.length → lyQ l j = true) (d : Nat) : ∀ (i : Nat) (t : Int), i + d = l.length → 1 ≤ t → t ≤ tkF l d i t ∧ ∀ j, i ≤ j → j < l.length → ndL (l.getD j z26) ≤ tkF l d i t := by
  induction d with
  | zero => intro i t h1 h2; exact ⟨Int.le_refl _, fun j h3 h4 => by omega⟩
  | succ d ih =>
    intro i t h1 h2
    obtain ⟨hh, hb⟩ := layB_iff.1 (hv i (by omega))
    have hn := need_range (l.getD i z26).f0 (l.getD i z26).f1 hh.1
    have hg := lcm_ge t (ndL (l.getD i z26)) h2 hn.1
    obtain ⟨a, b⟩ := ih (i + 1) (lcmI t (ndL (l.getD i z26))) (by omega) (by omega)
    refine ⟨Int.le_trans hg.1 a, fun j h3 h4 => ?_⟩
    by_cases e : j = i
    · subst e; exact Int.le_trans hg.2 a
    · exact b j (by omega) h4
theorem sTk (l : List S26) (h8 : l.length ≤ 8) (hv : ∀ j, j < l.length → lyQ l j = true) (d : Nat) : ∀ (i : Nat) (t : Int), i + d = l.length → 1 ≤ t → t ≤ bnd i → Ev (fun k => spec_l21Ticks.l0 k l t i) (tkF l d i t) := by
  induction d with
  | zero =>
    intro i t h1 h2 h3
    refine Ev.shift ?_
    simp only [spec_l21Ticks.l0]
    exact Ev.neg (by omega) (Ev.now _)
  | succ d ih =>
    intro i t h1 h2 h3
    have hq := hv i (by omega)
    obtain ⟨hh, hb⟩ := layB_iff.1 hq
    have hn := need_range (l.getD i z26).f0 (l.getD i z26).f1 hh.1
    have hm := (lcmI_dvd t (need (l.getD i z26).f0 (l.getD i z26).f1) h2 hn.1).2.2
    have hb2 := bnd_le i (by omega)
    have hm2 : t * need (l.getD i z26).f0 (l.getD i z26).f1 ≤ bnd i * 32 := Int.mul_le_mul h3 (by omega) (by omega) (by omega)
    exact sTicks_step l (by omega) i (by omega) t ⟨h2, by omega⟩ hq _ (ih (i + 1) (lcmI t (need (l.getD i z26).f0 (l.getD i z26).f1)) (by omega) hm.1 (Int.le_trans hm.2 hm2))
theorem iTk (l : List S26) (h8 : l.length ≤ 8) (hv : ∀ j, j < l.length → lyQ l j = true) (d : Nat) : ∀ (i : Nat) (t : Int), i + d = l.length → 1 ≤ t → t ≤ bnd i → Ev (fun k => impl_ticksFor.l0 k t l (l.length : Int) i) (tkF l d i t) := by
  induction d with
  | zero =>
    intro i t h1 h2 h3
    refine Ev.shift ?_
    simp only [impl_ticksFor.l0]
    exact Ev.neg (by omega) (Ev.now _)
  | succ d ih =>
    intro i t h1 h2 h3
    have hq := hv i (by omega)
    obtain ⟨hh, hb⟩ := layB_iff.1 hq
    have hn := need_range (l.getD i z26).f0 (l.getD i z26).f1 hh.1
    have hm := (lcmI_dvd t (need (l.getD i z26).f0 (l.getD i z26).f1) h2 hn.1).2.2
    have hb2 := bnd_le i (by omega)
    have hm2 : t * need (l.getD i z26).f0 (l.getD i z26).f1 ≤ bnd i * 32 := Int.mul_le_mul h3 (by omega) (by omega) (by omega)
    exact iTicks_step l (by omega) i (by omega) t ⟨h2, by omega⟩ hq _ (ih (i + 1) (lcmI t (need (l.getD i z26).f0 (l.getD i z26).f1)) (by omega) hm.1 (Int.le_trans hm.2 hm2))
def hL (t : Int) (x : S26) : List Int := hitsL x.f0 x.f1 t 0 x.f0.toNat
def flatL (t : Int) (l : List S26) : List Int := (l.map (hL t)).flatten
theorem need_up (h b t : Int) (hh : 1 ≤ h ∧ h ≤ 32) (hb : 1 ≤ b ∧ b ≤ 32) (ht : need h b ≤ t) : h ≤ b * t := by
  have g1 := gcd_pos h b hh.1
  have g2 := need_mul h b hh.1
  have g3 := need_range h b hh.1
  have g4 : ((Nat.gcd h.toNat b.toNat : Nat) : Int) ≤ b := by
    have := Nat.le_of_dvd (by omega) (Nat.gcd_dvd_right h.toNat b.toNat)
    omega
  have : need h b * ((Nat.gcd h.toNat b.toNat : Nat) : Int) ≤ t * b := Int.mul_le_mul ht g4 (by omega) (by omega)
  rw [Int.mul_comm b t]; omega
theorem hL_get (t : Int) (x : S26) (j : Nat) (hj : j < (hL t x).length) : (hL t x)[j] = (j : Int) * x.f1 * t / x.f0 := by
  have := hitsL_get x.f0 x.f1 t x.f0.toNat 0 j hj
  rw [Nat.zero_add] at this
  exact this
theorem hL_sorted (t : Int) (x : S26) (hh : 1 ≤ x.f0 ∧ x.f0 ≤ 32) (hb : 1 ≤ x.f1 ∧ x.f1 ≤ 32) (ht : ndL x ≤ t) : (hL t x).Pairwise (· < ·) := by
  rw [List.pairwise_iff_getElem]
  intro i j hi hj hij
  rw [hL_get, hL_get]
  have hup := need_up x.f0 x.f1 t hh hb ht
  have hn := need_range x.f0 x.f1 hh.1
  have ht1 : 1 ≤ t := by unfold ndL at ht; omega
  have e : (j : Int) * x.f1 * t = (i : Int) * x.f1 * t + ((j : Int) - i) * (x.f1 * t) := by grind
  have h1 : x.f1 * t ≤ ((j : Int) - i) * (x.f1 * t) := by
    have := Int.mul_le_mul_of_nonneg_right (show (1 : Int) ≤ (j : Int) - i by omega) (show 0 ≤ x.f1 * t from Int.mul_nonneg (by omega) (by omega))
    omega
  have h2 : (i : Int) * x.f1 * t + x.f0 ≤ (j : Int) * x.f1 * t := by omega
  have h3 := Int.ediv_le_ediv (show 0 < x.f0 by omega) h2
  rw [show (i : Int) * x.f1 * t + x.f0 = (i : Int) * x.f1 * t + 1 * x.f0 by omega, Int.add_mul_ediv_right _ _ (by omega)] at h3
  omega
theorem hL_range (t : Int) (x : S26) (hh : 1 ≤ x.f0 ∧ x.f0 ≤ 32) (hb : 1 ≤ x.f1 ∧ x.f1 ≤ 32) (ht : 1 ≤ t ∧ t ≤ 5040) : (hL t x).length ≤ 32 ∧ ∀ y ∈ hL t x, 0 ≤ y ∧ y ≤ 1000000000 := by
  have hlen : (hL t x).length = x.f0.toNat := hitsL_length _ _ _ _ _
  refine ⟨by omega, fun y hy => ?_⟩
  obtain ⟨j, hj, rfl⟩ := List.getElem_of_mem hy
  rw [hL_get]
  have h1 : 0 ≤ (j : Int) * x.f1 := Int.mul_nonneg (by omega) (by omega)
  have h2 : (j : Int) * x.f1 ≤ 32 * 32 := Int.mul_le_mul (by omega) (by omega) (by omega) (by omega)
  have h3 : 0 ≤ (j : Int) * x.f1 * t := Int.mul_nonneg h1 (by omega)
  have h4 : (j : Int) * x.f1 * t ≤ 1024 * 5040 := Int.mul_le_mul (by omega) (by omega) (by omega) (by omega)
  have h5 : 0 ≤ (j : Int) * x.f1 * t / x.f0 := Int.ediv_nonneg h3 (by omega)
  have h6 : (j : Int) * x.f1 * t / x.f0 ≤ (j : Int) * x.f1 * t := Int.ediv_le_self _ h3
  exact ⟨h5, by omega⟩
theorem iAll (t : Int) (ht : 1 ≤ t ∧ t ≤ 5040) : ∀ l : List S26, (∀ x ∈ l, layB x.f0 x.f1 = true) → Ev (fun k => ml_all k t l) (flatL t l)
  | [], _ => Ev.now _
  | x :: l, h => by
    obtain ⟨hh, hb⟩ := layB_iff.1 (h x (by simp))
    unfold ml_all
    exact Ev.bind (iHits x.f0 x.f1 t hh hb (by omega)) (Ev.bind (iAll t ht l (fun y hy => h y (by simp [hy]))) (Ev.now _))
theorem flat_ok (t : Int) (ht : 1 ≤ t ∧ t ≤ 5040) : ∀ l : List S26, (∀ x ∈ l, layB x.f0 x.f1 = true) → (flatL t l).length ≤ 32 * l.length ∧ ∀ y ∈ flatL t l, 0 ≤ y ∧ y ≤ 1000000000
  | [], _ => ⟨by simp [flatL], fun y hy => by simp [flatL] at hy⟩
  | x :: l, h => by
    obtain ⟨hh, hb⟩ := layB_iff.1 (h x (by simp))
    obtain ⟨a, b⟩ := flat_ok t ht l (fun y hy => h y (by simp [hy]))
    obtain ⟨c, d⟩ := hL_range t x hh hb ht
    have e : flatL t (x :: l) = hL t x ++ flatL t l := by simp [flatL]
    rw [e]
    refine ⟨by rw [List.length_append, List.length_cons]; omega, fun y hy => ?_⟩
    rcases List.mem_append.1 hy with hy | hy
    · exact d y hy
    · exact b y hy
theorem lyQ_all {l : List S26} (hv : ∀ j, j < l.length → lyQ l j = true) : ∀ x ∈ l, layB x.f0 x.f1 = true := by
  intro x hx
  obtain ⟨j, hj, rfl⟩ := List.getElem_of_mem hx
  have := hv j hj
  unfold lyQ at this
  rw [List.getD_eq_getElem?_getD, List.getElem?_eq_getElem hj] at this
  exact this
def mgR (l : List S26) : List (List Int) × Int := if lisB l = true then (if tkF l l.length 0 1 > 5040 then ([], 5) else (ml_rows (flatL (tkF l l.length 0 1) l), 0)) else ([], 1)
theorem lis_p {l : List S26} (h : lisB l = true) : (∀ j, j < l.length → lyQ l j = true) ∧ 1 ≤ (l.length : Int) ∧ (l.length : Int) ≤ 8 := by
  unfold lisB at h
  rw [Bool.and_eq_true, decide_eq_true_iff, allF_iff] at h
  exact ⟨fun j hj => h.1 j hj (Nat.zero_le _), h.2⟩
theorem iMerge (l : List S26) : Ev (fun k => impl_MergeLayers.f k l) (mgR l) := by
  unfold impl_MergeLayers.f impl_TicksFor.f mgR
  rw [iList]
  simp only [Option.bind_some]
  cases v : lisB l with
  | false => exact Ev.bind (Ev.neg (by decide) (Ev.now (0, 1))) (Ev.neg (by decide) (Ev.now _))
  | true =>
    obtain ⟨hv, hl⟩ := lis_p v
    have x := iTk l (by omega) hv l.length 0 1 (by omega) (by omega) (by decide)
    have p := (tk_props l hv l.length 0 1 (by omega) (by omega)).1
    rw [if_pos rfl]
    by_cases h : tkF l l.length 0 1 > 5040
    · rw [if_pos h]
      exact Ev.bind (Ev.pos rfl (Ev.bind x (Ev.pos h (Ev.now (0, 5))))) (Ev.neg (by decide) (Ev.now _))
    · rw [if_neg h]
      refine Ev.bind (Ev.pos rfl (Ev.bind x (Ev.neg h (Ev.now (tkF l l.length 0 1, 0))))) (Ev.pos rfl (Ev.bind (iAll _ (by omega) l (lyQ_all hv)) (Ev.pos ?_ (Ev.now _))))
      obtain ⟨a, b⟩ := flat_ok (tkF l l.length 0 1) (by omega) l (lyQ_all hv)
      show ml_ok (flatL (tkF l l.length 0 1) l) = true
      unfold ml_ok
      rw [Bool.and_eq_true, decide_eq_true_iff, List.all_eq_true]
      exact ⟨by omega, fun y hy => decide_eq_true (b y hy)⟩
def putI : List Int → Int → List Int
  | [], x => [x]
  | y :: ys, x => if y ≥ x then (if y > x then x :: y :: ys else y :: ys) else y :: putI ys x
theorem sPut_done (l : List Int) (x : Int) (hl : l.length ≤ 1000000) (d : Nat) : ∀ (i : Nat) (acc : List Int), i + d = l.length → acc.length ≤ i + 1 → Ev (fun k => spec_l00Put.l0 k l x acc true i) (acc ++ l.drop i) := by
  induction d with
  | zero =>
    intro i acc h1 h2
    refine Ev.shift ?_
    simp only [spec_l00Put.l0]
    exact Ev.neg (by omega) (Ev.pos (by trivial) (Ev.some (by rw [List.drop_of_length_le (by omega), List.append_nil])))
  | succ d ih =>
    intro i acc h1 h2
    refine Ev.shift ?_
    simp only [spec_l00Put.l0]
    refine Ev.pos (by omega) (Ev.pos (by trivial) (Ev.shift ?_))
    simp only [spec_l00Put.j1]
    refine Ev.neg (by decide) (Ev.pos (by omega) (Ev.pos (by omega) (Ev.pos (by omega) ?_)))
    rw [rd_get l i (by omega), wid (by omega), List.drop_eq_getElem_cons (by omega)]
    exact Ev.same (ih (i + 1) (acc ++ [l[i]]) (by omega) (by simp; omega)) (by simp)
theorem sPut_l0 (l : List Int) (x : Int) (hl : l.length ≤ 1000000) (d : Nat) : ∀ (i : Nat) (acc : List Int), i + d = l.length → acc.length = i → Ev (fun k => spec_l00Put.l0 k l x acc false i) (acc ++ putI (l.drop i) x) := by
  induction d with
  | zero =>
    intro i acc h1 h2
    refine Ev.shift ?_
    simp only [spec_l00Put.l0]
    refine Ev.neg (by omega) (Ev.neg (by decide) (Ev.pos (by omega) (Ev.some ?_)))
    rw [List.drop_of_length_le (by omega)]; rfl
  | succ d ih =>
    intro i acc h1 h2
    refine Ev.shift ?_
    simp only [spec_l00Put.l0]
    refine Ev.pos (by omega) (Ev.neg (by decide) (Ev.pos (by omega) (Ev.shift ?_)))
    simp only [spec_l00Put.j1]
    rw [rd_get l i (by omega), wid (by omega), List.drop_eq_getElem_cons (by omega)]
    unfold putI
    by_cases h : l[i] ≥ x
    · refine Ev.pos (by simpa using h) (Ev.pos (by omega) (Ev.pos (by omega) ?_))
      rw [if_pos h]
      by_cases g : l[i] > x
      · rw [if_pos g]
        refine Ev.pos g (Ev.pos (by omega) (Ev.bind (Ev.now (acc ++ [x])) (Ev.pos (by simp; omega) ?_)))
        exact Ev.same (sPut_done l x hl d (i + 1) (acc ++ [x] ++ [l[i]]) (by omega) (by simp; omega)) (by simp)
      · rw [if_neg g]
        refine Ev.neg g (Ev.pos (by omega) ?_)
        exact Ev.same (sPut_done l x hl d (i + 1) (acc ++ [l[i]]) (by omega) (by simp; omega)) (by simp)
    · refine Ev.neg (by simpa using h) (Ev.pos (by omega) (Ev.pos (by omega) (Ev.pos (by omega) ?_)))
      rw [if_neg h]
      exact Ev.same (ih (i + 1) (acc ++ [l[i]]) (by omega) (by simp; omega)) (by simp)
theorem sPut (l : List Int) (x : Int) (hl : l.length ≤ 1000000) : Ev (fun k => spec_l00Put.f k l x) (putI l x) := by
  unfold spec_l00Put.f
  exact sPut_l0 l x hl l.length 0 [] (by omega) rfl
theorem putI_len (x : Int) : ∀ l : List Int, (putI l x).length ≤ l.length + 1
  | [] => by simp [putI]
  | y :: l => by
    have := putI_len x l
    unfold putI
    split
    · split <;> simp
    · simp only [List.length_cons]; omega
theorem putI_mem (x : Int) : ∀ (l : List Int) (z : Int), z ∈ putI l x ↔ z = x ∨ z ∈ l
  | [], z => by simp [putI]
  | y :: l, z => by
    have ih := putI_mem x l z
    unfold putI
    split
    · split
      · simp only [List.mem_cons]
      · have : y = x := by omega
        subst this
        simp
    · simp only [List.mem_cons, ih]
      exact ⟨fun h => by rcases h with h | h | h <;> simp [h], fun h => by rcases h with h | h | h <;> simp [h]⟩
theorem putI_sorted (x : Int) : ∀ l : List Int, l.Pairwise (· < ·) → (putI l x).Pairwise (· < ·)
  | [], _ => by simp [putI]
  | y :: l, h => by
    have ih := putI_sorted x l (List.pairwise_cons.1 h).2
    obtain ⟨h1, h2⟩ := List.pairwise_cons.1 h
    unfold putI
    split
    · split
      · refine List.pairwise_cons.2 ⟨fun z hz => ?_, h⟩
        rcases List.mem_cons.1 hz with rfl | hz
        · omega
        · have := h1 z hz; omega
      · exact h
    · refine List.pairwise_cons.2 ⟨fun z hz => ?_, ih⟩
      rcases (putI_mem x l z).1 hz with rfl | hz
      · omega
      · exact h1 z hz
theorem sorted_eq {a b : List Int} (ha : a.Pairwise (· < ·)) (hb : b.Pairwise (· < ·)) (h : ∀ x, x ∈ a ↔ x ∈ b) : a = b := by
  refine List.Perm.eq_of_pairwise (le := fun x y => x < y) (fun x y _ _ h1 h2 => by omega) ha hb ((List.perm_ext_iff_of_nodup (ha.imp (fun h => by omega)) (hb.imp (fun h => by omega))).2 h)
theorem sHitsAt (h b t : Int) (hh : 1 ≤ h ∧ h ≤ 32) (hb : 1 ≤ b ∧ b ≤ 32) (ht : 1 ≤ t ∧ t ≤ 1000000000) : Ev (fun k => spec_l21Hits_at.f k h b t) (hitsL h b t 0 h.toNat) := by
  obtain ⟨n, hn⟩ := sHits h b t hh hb ht
  exact ⟨n, fun k hk => by show (spec_l21Hits.f k h b t).map _ = _; rw [show spec_l21Hits.f k h b t = _ from hn k hk]; rfl⟩
def putAll (acc hs : List Int) : List Int := hs.foldl putI acc
theorem putAll_len : ∀ (hs acc : List Int), (putAll acc hs).length ≤ acc.length + hs.length
  | [], acc => by simp [putAll]
  | x :: hs, acc => by
    have h1 := putAll_len hs (putI acc x)
    have h2 := putI_len x acc
    have e : putAll acc (x :: hs) = putAll (putI acc x) hs := rfl
    rw [e, List.length_cons]; omega
theorem putAll_mem : ∀ (hs acc : List Int) (z : Int), z ∈ putAll acc hs ↔ z ∈ acc ∨ z ∈ hs
  | [], acc, z => by simp [putAll]
  | x :: hs, acc, z => by
    have e : putAll acc (x :: hs) = putAll (putI acc x) hs := rfl
    rw [e, putAll_mem hs, putI_mem, List.mem_cons]
    exact ⟨fun h => by rcases h with (h | h) | h <;> simp [h], fun h => by rcases h with h | h | h <;> simp [h]⟩
theorem putAll_sorted : ∀ (hs acc : List Int), acc.Pairwise (· < ·) → (putAll acc hs).Pairwise (· < ·)
  | [], acc, h => h
  | x :: hs, acc, h => putAll_sorted hs (putI acc x) (putI_sorted x acc h)
theorem keys_eq (hs : List Int) : ml_keys hs = putAll [] hs := by
  refine sorted_eq ?_ (putAll_sorted hs [] List.Pairwise.nil) (fun x => ?_)
  · have tr : ∀ a b c : Int, decide (a ≤ b) = true → decide (b ≤ c) = true → decide (a ≤ c) = true := fun a b c h1 h2 => by simp only [decide_eq_true_eq] at *; omega
    have tot : ∀ a b : Int, (decide (a ≤ b) || decide (b ≤ a)) = true := fun a b => by simp only [Bool.or_eq_true, decide_eq_true_eq]; omega
    have h1 := List.pairwise_mergeSort tr tot (ml_dd hs)
    have h2 : (ml_keys hs).Nodup := (List.mergeSort_perm _ _).nodup_iff.2 (ml_dd_nodup hs)
    exact (h1.and h2).imp (fun ⟨a, b⟩ => by simp only [decide_eq_true_eq] at a; omega)
  · unfold ml_keys
    rw [List.mem_mergeSort, ml_dd_mem, putAll_mem]
    simp
def cntL (t x : Int) (ls : List S26) : Nat := ls.countP fun y => decide (x ∈ hL t y)
theorem cnt_eq (t : Int) (x : Int) : ∀ l : List S26, (∀ y ∈ l, layB y.f0 y.f1 = true) → (∀ y ∈ l, ndL y ≤ t) → (flatL t l).count x = cntL t x l
  | [], _, _ => rfl
  | y :: l, h, g => by
    obtain ⟨hh, hb⟩ := layB_iff.1 (h y (by simp))
    have ih := cnt_eq t x l (fun z hz => h z (by simp [hz])) (fun z hz => g z (by simp [hz]))
    have hs := hL_sorted t y hh hb (g y (by simp))
    have e : flatL t (y :: l) = hL t y ++ flatL t l := by simp [flatL]
    have e2 : (hL t y).count x = if x ∈ hL t y then 1 else 0 := List.Nodup.count (hs.imp (fun h => by omega))
    rw [e, List.count_append, ih, e2]
    unfold cntL
    rw [List.countP_cons]
    by_cases c : x ∈ hL t y
    · rw [if_pos c, decide_eq_true c, if_pos rfl]; omega
    · rw [if_neg c, decide_eq_false c, if_neg (by decide)]; omega
theorem rdLg (l : List S26) (i : Nat) (hi : i < l.length) : rd_T26 l (i : Int) = l[i] := by
  rw [rdLay, List.getD_eq_getElem?_getD, List.getElem?_eq_getElem hi]; rfl
theorem sM3 (l : List S26) (t : Int) (ht : 1 ≤ t ∧ t ≤ 5040) (h8 : l.length ≤ 8) (hv : ∀ x ∈ l, layB x.f0 x.f1 = true) (all : List Int) (rows : List (List Int)) (i : Nat) (hi : i < all.length) (hr : rows.length ≤ 1000000) (ha : all.length ≤ 1000000) (R : List (List Int) × Int)
    (hR : Ev (fun k => spec_MergeLayers.l2 k l t all (rows ++ [[all[i], (cntL t all[i] l : Int)]]) ((i + 1 : Nat) : Int)) R) (d : Nat) : ∀ (j n : Nat), j + d = l.length → n + cntL t all[i] (l.drop j) = cntL t all[i] l → n ≤ j → Ev (fun k => spec_MergeLayers.l3 k l t all rows i n j) R := by
  induction d with
  | zero =>
    intro j n h1 h2 h3
    refine Ev.shift ?_
    simp only [spec_MergeLayers.l3]
    refine Ev.neg (by omega) (Ev.pos (by omega) (Ev.pos (by omega) (Ev.pos (by omega) ?_)))
    rw [rd_get all i hi, wid (by omega)]
    rw [List.drop_of_length_le (by omega)] at h2
    have hn : n = cntL t all[i] l := by simpa [cntL] using h2
    rw [hn]
    exact hR
  | succ d ih =>
    intro j n h1 h2 h3
    obtain ⟨hh, hb⟩ := layB_iff.1 (hv l[j] (List.getElem_mem (by omega)))
    refine Ev.shift ?_
    simp only [spec_MergeLayers.l3]
    rw [rdLg l j (by omega), rd_get all i hi, wid (x := (j : Int) + 1) (by omega), wid (x := (n : Int) + 1) (by omega)]
    have hlen : (hL t l[j]).length ≤ 32 := (hL_range t l[j] hh hb ht).1
    refine Ev.pos (by omega) (Ev.pos (by omega) (Ev.bind (sHitsAt _ _ t hh hb (by omega)) (Ev.pos (by omega) (Ev.pos (by omega) (Ev.bind (sHas (hL t l[j]) all[i] (by omega)) ?_)))))
    rw [List.drop_eq_getElem_cons (by omega)] at h2
    unfold cntL at h2
    rw [List.countP_cons] at h2
    by_cases c : all[i] ∈ hL t l[j]
    · rw [decide_eq_true c, if_pos rfl] at h2
      exact Ev.pos (decide_eq_true c) (ih (j + 1) (n + 1) (by omega) (by unfold cntL; omega) (by omega))
    · rw [decide_eq_false c, if_neg (by decide)] at h2
      exact Ev.neg (by simpa using c) (ih (j + 1) n (by omega) (by unfold cntL; omega) (by omega))
theorem sM2 (l : List S26) (t : Int) (ht : 1 ≤ t ∧ t ≤ 5040) (h8 : l.length ≤ 8) (hv : ∀ x ∈ l, layB x.f0 x.f1 = true) (all : List Int) (ha : all.length ≤ 1000000) (d : Nat) : ∀ (i : Nat) (rows : List (List Int)), i + d = all.length → rows.length = i → Ev (fun k => spec_MergeLayers.l2 k l t all rows i) (rows ++ (all.drop i).map (fun x => [x, (cntL t x l : Int)]), 0) := by
  induction d with
  | zero =>
    intro i rows h1 h2
    refine Ev.shift ?_
    simp only [spec_MergeLayers.l2]
    refine Ev.neg (by omega) (Ev.some ?_)
    rw [List.drop_of_length_le (by omega), List.map_nil, List.append_nil]
  | succ d ih =>
    intro i rows h1 h2
    refine Ev.shift ?_
    simp only [spec_MergeLayers.l2]
    refine Ev.pos (by omega) ?_
    refine sM3 l t ht h8 hv all rows i (by omega) (by omega) ha _ ?_ l.length 0 0 (by omega) (by simp) (Nat.le_refl _)
    refine Ev.same (ih (i + 1) (rows ++ [[all[i], (cntL t all[i] l : Int)]]) (by omega) (by simp; omega)) ?_
    rw [List.drop_eq_getElem_cons (i := i) (by omega)]
    simp only [List.map_cons, List.append_assoc, List.cons_append, List.nil_append]
theorem sM1 (l : List S26) (t : Int) (i : Nat) (hi : i < l.length) (h8 : l.length ≤ 8) (hs : List Int) (hl : hs.length ≤ 1000) (R : List (List Int) × Int) (d : Nat) : ∀ (j : Nat) (acc : List Int), j + d = hs.length → acc.length + d ≤ 100000 → Ev (fun k => spec_MergeLayers.l0 k l t (putAll acc (hs.drop j)) ((i + 1 : Nat) : Int)) R → Ev (fun k => spec_MergeLayers.l1 k l t acc i hs j) R := by
  induction d with
  | zero =>
    intro j acc h1 h2 h3
    refine Ev.shift ?_
    simp only [spec_MergeLayers.l1]
    refine Ev.neg (by omega) ?_
    rw [wid (by omega)]
    rw [List.drop_of_length_le (by omega)] at h3
    exact h3
  | succ d ih =>
    intro j acc h1 h2 h3
    refine Ev.shift ?_
    simp only [spec_MergeLayers.l1]
    rw [rd_get hs j (by omega), wid (by omega)]
    have hp := putI_len hs[j] acc
    refine Ev.pos (by omega) (Ev.pos (by omega) (Ev.bind (sPut acc hs[j] (by omega)) (ih (j + 1) (putI acc hs[j]) (by omega) (by omega) ?_)))
    rw [List.drop_eq_getElem_cons (by omega)] at h3
    exact h3
theorem sM0 (l : List S26) (t : Int) (ht : 1 ≤ t ∧ t ≤ 5040) (h8 : l.length ≤ 8) (hv : ∀ x ∈ l, layB x.f0 x.f1 = true) (d : Nat) : ∀ (i : Nat) (acc : List Int), i + d = l.length → acc.length ≤ 32 * i → Ev (fun k => spec_MergeLayers.l0 k l t acc i) ((putAll acc (flatL t (l.drop i))).map (fun x => [x, (cntL t x l : Int)]), 0) := by
  induction d with
  | zero =>
    intro i acc h1 h2
    refine Ev.shift ?_
    simp only [spec_MergeLayers.l0]
    refine Ev.neg (by omega) ?_
    rw [List.drop_of_length_le (by omega)]
    exact Ev.same (sM2 l t ht h8 hv acc (by omega) acc.length 0 [] (by omega) rfl) (by simp [flatL, putAll])
  | succ d ih =>
    intro i acc h1 h2
    obtain ⟨hh, hb⟩ := layB_iff.1 (hv l[i] (List.getElem_mem (by omega)))
    have hlen : (hL t l[i]).length ≤ 32 := (hL_range t l[i] hh hb ht).1
    have hpl := putAll_len (hL t l[i]) acc
    refine Ev.shift ?_
    simp only [spec_MergeLayers.l0]
    rw [rdLg l i (by omega)]
    refine Ev.pos (by omega) (Ev.pos (by omega) (Ev.bind (sHitsAt _ _ t hh hb (by omega)) ?_))
    refine sM1 l t i (by omega) h8 (hL t l[i]) (by omega) _ (hL t l[i]).length 0 acc (by omega) (by omega) ?_
    rw [List.drop_zero]
    refine Ev.same (ih (i + 1) (putAll acc (hL t l[i])) (by omega) (by omega)) ?_
    rw [List.drop_eq_getElem_cons (i := i) (by omega)]
    have e : flatL t (l[i] :: l.drop (i + 1)) = hL t l[i] ++ flatL t (l.drop (i + 1)) := by unfold flatL; rw [List.map_cons, List.flatten_cons]
    rw [e]
    unfold putAll
    rw [List.foldl_append]
theorem sMerge (l : List S26) (hl : l.length ≤ 17592186044416) : Ev (fun k => spec_MergeLayers.f k l) (mgR l) := by
  unfold spec_MergeLayers.f mgR
  have hs : Ev (fun k => spec_l21List.f k l) (lisB l) := sList_l0 l hl l.length 0 (by omega)
  refine Ev.bind hs ?_
  cases v : lisB l with
  | false => exact Ev.neg (by decide) (Ev.now _)
  | true =>
    obtain ⟨hv, h8⟩ := lis_p v
    have x := sTk l (by omega) hv l.length 0 1 (by omega) (by omega) (by decide)
    obtain ⟨p, q⟩ := tk_props l hv l.length 0 1 (by omega) (by omega)
    refine Ev.pos rfl (Ev.bind x ?_)
    rw [if_pos rfl]
    by_cases h : tkF l l.length 0 1 > 5040
    · rw [if_pos h]
      exact Ev.pos h (Ev.now _)
    · rw [if_neg h]
      refine Ev.neg h ?_
      have hq : ∀ y ∈ l, ndL y ≤ tkF l l.length 0 1 := fun y hy => by
        obtain ⟨j, hj, rfl⟩ := List.getElem_of_mem hy
        have := q j (Nat.zero_le _) hj
        rw [List.getD_eq_getElem?_getD, List.getElem?_eq_getElem hj] at this
        exact this
      generalize tkF l l.length 0 1 = t at *
      refine Ev.same (sM0 l t (by omega) (by omega) (lyQ_all hv) l.length 0 [] (by omega) (by simp)) ?_
      rw [List.drop_zero, ← keys_eq]
      unfold ml_rows
      congr 1
      refine List.map_congr_left fun x hx => ?_
      rw [cnt_eq t x l (lyQ_all hv) hq]
theorem mgR_len (l : List S26) : (mgR l).1.length ≤ 1000 ∧ ∀ x ∈ (mgR l).1, x.length ≤ 2 := by
  unfold mgR
  split
  · rename_i v
    obtain ⟨hv, h8⟩ := lis_p v
    have p := (tk_props l hv l.length 0 1 (by omega) (by omega)).1
    split
    · exact ⟨by simp, fun x hx => by simp at hx⟩
    · rename_i h
      have hf := (flat_ok (tkF l l.length 0 1) (by omega) l (lyQ_all hv)).1
      have hk := ml_dd_len (flatL (tkF l l.length 0 1) l)
      refine ⟨?_, fun x hx => ?_⟩
      · show (ml_rows _).length ≤ _
        unfold ml_rows ml_keys
        rw [List.length_map, List.length_mergeSort]
        omega
      · unfold ml_rows at hx
        obtain ⟨y, _, rfl⟩ := List.mem_map.1 hx
        simp
  · exact ⟨by simp, fun x hx => by simp at hx⟩
theorem FnExactMergeLayers : laws_FnExactMergeLayers.Pure := by
  intro l hm
  refine Ev.rounds (g := fun k => laws_FnExactMergeLayers.f k l) ?_
  unfold laws_FnExactMergeLayers.f
  rw [szLayer l hm.1]
  simp only [Option.bind_some]
  by_cases hl : l.length ≤ 1048576
  · rw [if_pos hl]
    refine Ev.neg (by omega) ?_
    have hl' : l.length ≤ 17592186044416 := by omega
    have hc : (cpLayer l).length ≤ 17592186044416 := by rw [cpLayer_length]; exact hl'
    have hcl : (cpLayer l).length = l.length := cpLayer_length l
    have hS := sMerge (cpLayer l) hc
    have hI := iMerge (cpLayer l)
    have hr0 := mgR_len (cpLayer l)
    generalize mgR (cpLayer l) = R at hS hI hr0
    obtain ⟨r, c⟩ := R
    have hr1 : r.length ≤ 1000 := hr0.1
    have hr2 : ∀ x ∈ r, x.length ≤ 2 := hr0.2
    have hr3 := totL_le r 2 hr2
    obtain ⟨l', _, _, hms⟩ := markLayer (cpLayer l) 1 (by omega) (by omega)
    have hmk := markSS r 1 (by omega) (by omega) (by omega)
    have hhl := heldSS r 1 (by omega) (by omega) (by omega)
    have heq := eqSS r (fun x hx => by have := hr2 x hx; omega) (by omega)
    repeat (first | exact Ev.now _ | refine Ev.bind hS ?_ | refine Ev.bind hI ?_ | refine Ev.bind (toLayer l hl') ?_ | refine Ev.bind (eqLayer _ hc) ?_ | refine Ev.bind heq ?_ | refine Ev.bind hms ?_ | refine Ev.bind hmk ?_ | refine Ev.bind hhl ?_ | refine Ev.pos (by with_reducible rfl) ?_ | refine Ev.neg (by omega) ?_ | refine Ev.neg (by simp; done) ?_ | refine Ev.pos (by omega) ?_ | (refine Ev.shift ?_; simp only [laws_FnExactMergeLayers.j0, laws_FnExactMergeLayers.j1, laws_FnExactMergeLayers.j2]))
  · rw [if_neg hl]
    exact Ev.pos (by omega) (Ev.now _)

end Go.Proofs.Ytfnlmabpmgocmaa.Pure
