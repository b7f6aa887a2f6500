/- The pure statement of the law FnExactTicksFor: what the Go functions compute, told by plain Lean functions, is what the law asks, for all arguments. No condition beyond the printed ones. -/
import Derived.Test.YtmkjjjpffakfiaaPFnExactTicksForxo
import Derived.Test.YtmkjjjpffakfiaaXW
namespace Go.Proofs.Ytmkjjjpffakfiaa.Pure
open Go.RowKit Go.Proofs.Ytmkjjjpffakfiaa.PFnExactTicksFor Go.Proofs.YtmkjjjpffakfiaaW.PrintWords Go.Proofs.YtmkjjjpffakfiaaW.PrintLast Go.Proofs.YtmkjjjpffakfiaaW.PrintMore Go.Proofs.YtmkjjjpffakfiaaXW
set_option linter.unusedVariables false
set_option linter.unusedSimpArgs false
theorem in_eq (a b c : Int) : spec_l00In.f a b c = some (decide (b ≤ a ∧ a ≤ c)) := by
  unfold spec_l00In.f; split <;> simp_all; omega
theorem within_eq (a b c : Int) : impl_within.f a b c = some (decide (b ≤ a ∧ a ≤ c)) := by
  unfold impl_within.f; split <;> simp_all; omega
def cpLayer (l : List S116) : List S114 := l.map fun x => ⟨x.f0, x.f1⟩
theorem toLayer_l0 (l : List S116) (hl : l.length ≤ 17592186044416) (d : Nat) : ∀ (i : Nat) (acc : List S114), i + d = l.length → acc.length = l.length → acc.take i = (cpLayer l).take i → Ev (fun k => laws_toLayerS.l0 k l acc i) (cpLayer l) := by
  have hc : (cpLayer l).length = l.length := List.length_map _
  induction d with
  | zero =>
    intro i acc h1 h2 h3
    refine Ev.shift ?_
    simp only [laws_toLayerS.l0]
    refine Ev.neg (by omega) (Ev.some ?_)
    rw [List.take_of_length_le (by omega), List.take_of_length_le (by omega)] at h3
    rw [h3]
  | succ d ih =>
    intro i acc h1 h2 h3
    refine Ev.shift ?_
    simp only [laws_toLayerS.l0, laws_toLayer.f, Option.bind_some]
    refine Ev.pos (by omega) (Ev.pos (by omega) (Ev.pos (by omega) ?_))
    rw [wid (by omega), Int.toNat_natCast]
    refine ih (i + 1) _ (by omega) (by rw [List.length_set, h2]) ?_
    rw [List.take_succ_eq_append_getElem (by rw [List.length_set]; omega), List.take_succ_eq_append_getElem (by omega), List.take_set_of_le (by omega), List.getElem_set_self, h3]
    have e : rd_T116 l (i : Int) = l[i] := by
      unfold rd_T116
      rw [Int.toNat_natCast, List.getD_eq_getElem?_getD, List.getElem?_eq_getElem (by omega), Option.getD_some]
    simp only [cpLayer, List.getElem_map, e]
theorem toLayer (l : List S116) (hl : l.length ≤ 17592186044416) : Ev (fun k => laws_toLayerS.f k l) (cpLayer l) := by
  unfold laws_toLayerS.f
  refine Ev.pos (by omega) (Ev.pos (by omega) ?_)
  rw [Int.toNat_natCast]
  exact toLayer_l0 l hl l.length 0 _ (by omega) (by simp) (by simp)
theorem cpLayer_length (l : List S116) : (cpLayer l).length = l.length := List.length_map _
theorem eqLayer_l0 (l : List S114) (hl : l.length ≤ 17592186044416) (d : Nat) : ∀ (i : Nat), i + d = l.length → Ev (fun k => laws_eqLayerS.l0 k l l i) true := by
  induction d with
  | zero =>
    intro i h1
    refine Ev.shift ?_
    simp only [laws_eqLayerS.l0]
    exact Ev.neg (by omega) (Ev.now _)
  | succ d ih =>
    intro i h1
    refine Ev.shift ?_
    simp only [laws_eqLayerS.l0, laws_eqLayer.f, Option.bind_some, if_true]
    refine Ev.pos (by omega) (Ev.pos (by omega) (Ev.pos (by omega) ?_))
    rw [wid (by omega)]
    exact ih (i + 1) (by omega)
theorem eqLayer (l : List S114) (hl : l.length ≤ 17592186044416) : Ev (fun k => laws_eqLayerS.f k l l) true := by
  unfold laws_eqLayerS.f
  exact Ev.pos rfl (eqLayer_l0 l hl l.length 0 (by omega))
theorem szLayer (l : List S116) (hl : l.length ≤ maxLen) : laws_szLayerS.f l 1048576 = some (if l.length ≤ 1048576 then 1048576 - (l.length : Int) else -1) := by
  unfold laws_szLayerS.f
  unfold maxLen at hl
  rw [wid (by omega)]
  by_cases h : l.length ≤ 1048576
  · rw [if_neg (by omega), if_pos h]
  · rw [if_pos (by omega), if_neg h]
def layB (h b : Int) : Bool := decide (1 ≤ h ∧ h ≤ 32) && decide (1 ≤ b ∧ b ≤ 32)
theorem one_eq (h b : Int) : spec_l21One.f h b = some (layB h b, h, b) := by
  unfold spec_l21One.f layB
  simp only [in_eq, Option.bind_some]
  by_cases c : 1 ≤ h ∧ h ≤ 32
  · rw [decide_eq_true c]; rfl
  · rw [decide_eq_false c]; rfl
theorem layB_iff {h b : Int} : layB h b = true ↔ (1 ≤ h ∧ h ≤ 32) ∧ 1 ≤ b ∧ b ≤ 32 := by
  unfold layB; simp
theorem iLay (h b : Int) : impl_ValidLayer.f h b = some (layB h b) := by
  unfold impl_ValidLayer.f layB
  simp only [within_eq, Option.bind_some]
  by_cases c : 1 ≤ h ∧ h ≤ 32
  · rw [decide_eq_true c]; rfl
  · rw [decide_eq_false c]; rfl
theorem sGcd_l0 (b : Nat) : ∀ a : Nat, Ev (fun k => spec_l17Gcd.l0 k a b) ((Nat.gcd a b : Nat) : Int) := by
  induction b using Nat.strongRecOn with
  | ind b ih =>
    intro a
    refine Ev.shift ?_
    simp only [spec_l17Gcd.l0]
    by_cases h : b = 0
    · subst h
      exact Ev.neg (by omega) (Ev.some (by simp))
    · refine Ev.pos (by omega) (Ev.neg (by omega) ?_)
      have e : Int.tmod (a : Int) (b : Int) = ((a % b : Nat) : Int) := by rw [Int.tmod_eq_emod_of_nonneg (by omega)]; rfl
      rw [e]
      refine Ev.same (ih (a % b) (Nat.mod_lt _ (by omega)) b) ?_
      rw [Nat.gcd_comm a b, Nat.gcd_rec b a, Nat.gcd_comm b (a % b)]
theorem sGcd (a b : Int) (ha : 0 ≤ a) (hb : 0 ≤ b) : Ev (fun k => spec_l17Gcd.f k a b) ((Nat.gcd a.toNat b.toNat : Nat) : Int) := by
  unfold spec_l17Gcd.f
  have := sGcd_l0 b.toNat a.toNat
  rwa [Int.toNat_of_nonneg ha, Int.toNat_of_nonneg hb] at this
theorem iGcd_l0 (b : Nat) : ∀ a : Nat, Ev (fun k => impl_commonDivisor.l0 k a b) ((Nat.gcd a b : Nat) : Int) := by
  induction b using Nat.strongRecOn with
  | ind b ih =>
    intro a
    refine Ev.shift ?_
    simp only [impl_commonDivisor.l0]
    by_cases h : b = 0
    · subst h
      exact Ev.pos (by omega) (Ev.some (by simp))
    · refine Ev.neg (by omega) ?_
      have e : Int.tmod (a : Int) (b : Int) = ((a % b : Nat) : Int) := by rw [Int.tmod_eq_emod_of_nonneg (by omega)]; rfl
      rw [e]
      refine Ev.same (ih (a % b) (Nat.mod_lt _ (by omega)) b) ?_
      rw [Nat.gcd_comm a b, Nat.gcd_rec b a, Nat.gcd_comm b (a % b)]
theorem iGcd (a b : Int) (ha : 0 ≤ a) (hb : 0 ≤ b) : Ev (fun k => impl_commonDivisor.f k a b) ((Nat.gcd a.toNat b.toNat : Nat) : Int) := by
  unfold impl_commonDivisor.f
  have := iGcd_l0 b.toNat a.toNat
  rwa [Int.toNat_of_nonneg ha, Int.toNat_of_nonneg hb] at this
/-- ticks that a layer needs -/
def need (h b : Int) : Int := h / ((Nat.gcd h.toNat b.toNat : Nat) : Int)
theorem gcd_pos (h b : Int) (hh : 1 ≤ h) : 1 ≤ ((Nat.gcd h.toNat b.toNat : Nat) : Int) := by
  have := Nat.gcd_pos_of_pos_left (m := h.toNat) b.toNat (by omega)
  omega
theorem gcd_le (h b : Int) (hh : 1 ≤ h) : ((Nat.gcd h.toNat b.toNat : Nat) : Int) ≤ h := by
  have := Nat.le_of_dvd (by omega) (Nat.gcd_dvd_left h.toNat b.toNat)
  omega
theorem need_range (h b : Int) (hh : 1 ≤ h) : 1 ≤ need h b ∧ need h b ≤ h := by
  unfold need
  have h1 := gcd_pos h b hh
  have h2 := gcd_le h b hh
  refine ⟨?_, Int.ediv_le_self _ (by omega)⟩
  have := (Int.le_ediv_iff_mul_le (c := ((Nat.gcd h.toNat b.toNat : Nat) : Int)) (a := 1) (b := h) (by omega)).2 (by omega)
  exact this
theorem need_mul (h b : Int) (hh : 1 ≤ h) : need h b * ((Nat.gcd h.toNat b.toNat : Nat) : Int) = h := by
  unfold need
  refine Int.ediv_mul_cancel ?_
  obtain ⟨c, hc⟩ := Nat.gcd_dvd_left h.toNat b.toNat
  exact ⟨c, by have : (h.toNat : Int) = h := Int.toNat_of_nonneg (by omega); rw [← this]; exact_mod_cast hc⟩
theorem sNeed (h b : Int) (hh : 1 ≤ h ∧ h ≤ 32) (hb : 1 ≤ b ∧ b ≤ 32) : Ev (fun k => spec_l21Need.f k h b) (need h b, h, b) := by
  unfold spec_l21Need.f
  refine Ev.bind (sGcd h b (by omega) (by omega)) ?_
  have h1 := gcd_pos h b hh.1
  have h2 := need_range h b hh.1
  refine Ev.neg (by omega) (Ev.some ?_)
  rw [Int.tdiv_eq_ediv_of_nonneg (by omega)]
  show some (wrap64 (need h b), h, b) = _
  rw [wid (by omega)]
theorem sNeedAt (h b : Int) (hh : 1 ≤ h ∧ h ≤ 32) (hb : 1 ≤ b ∧ b ≤ 32) : Ev (fun k => spec_l21Need_at.f k h b) (need h b) := by
  unfold spec_l21Need_at.f
  refine Ev.bind (sGcd h b (by omega) (by omega)) ?_
  have h1 := gcd_pos h b hh.1
  have h2 := need_range h b hh.1
  refine Ev.neg (by omega) (Ev.some ?_)
  rw [Int.tdiv_eq_ediv_of_nonneg (by omega)]
  show some (wrap64 (need h b)) = _
  rw [wid (by omega)]
theorem iNeed (h b : Int) (hh : 1 ≤ h ∧ h ≤ 32) (hb : 1 ≤ b ∧ b ≤ 32) : Ev (fun k => impl_Layer_ticks.f k h b) (need h b) := by
  unfold impl_Layer_ticks.f
  refine Ev.bind (iGcd h b (by omega) (by omega)) ?_
  have h1 := gcd_pos h b hh.1
  have h2 := need_range h b hh.1
  refine Ev.neg (by omega) (Ev.some ?_)
  rw [Int.tdiv_eq_ediv_of_nonneg (by omega)]
  show some (wrap64 (need h b)) = _
  rw [wid (by omega)]
/-- the least ticks of two -/
def lcmI (a b : Int) : Int := a / ((Nat.gcd a.toNat b.toNat : Nat) : Int) * b
theorem lcmI_dvd (a b : Int) (ha : 1 ≤ a) (hb : 1 ≤ b) : (∃ c, lcmI a b = a * c) ∧ (∃ c, lcmI a b = b * c) ∧ 1 ≤ lcmI a b ∧ lcmI a b ≤ a * b := by
  unfold lcmI
  have g1 := gcd_pos a b ha
  have g2 := need_mul a b ha
  have g3 := need_range a b ha
  unfold need at g2 g3
  obtain ⟨c, hc⟩ := Nat.gcd_dvd_right a.toNat b.toNat
  have hb2 : b = ((Nat.gcd a.toNat b.toNat : Nat) : Int) * (c : Int) := by
    have : (b.toNat : Int) = b := Int.toNat_of_nonneg (by omega)
    rw [← this]; exact_mod_cast hc
  refine ⟨⟨c, ?_⟩, ⟨a / ((Nat.gcd a.toNat b.toNat : Nat) : Int), Int.mul_comm _ _⟩, ?_, ?_⟩
  · generalize ((Nat.gcd a.toNat b.toNat : Nat) : Int) = g at *
    generalize a / g = q at *
    grind
  · have := Int.mul_le_mul g3.1 hb (by omega) (by omega)
    omega
  · exact Int.mul_le_mul_of_nonneg_right g3.2 (by omega)
theorem sTicks_step (l : List S114) (hl : l.length ≤ 35184372088) (i : Nat) (hi : i < l.length) (t : Int) (ht : 1 ≤ t ∧ t ≤ 1000000000000000) (hv : layB (l.getD i z114).f0 (l.getD i z114).f1 = true) (r : Int)
    (h : Ev (fun k => spec_l21Ticks.l0 k l (lcmI t (need (l.getD i z114).f0 (l.getD i z114).f1)) ((i + 1 : Nat) : Int)) r) : Ev (fun k => spec_l21Ticks.l0 k l t i) r := by
  obtain ⟨hh, hb⟩ := layB_iff.1 hv
  have hn := need_range (l.getD i z114).f0 (l.getD i z114).f1 hh.1
  have hg := gcd_pos t (need (l.getD i z114).f0 (l.getD i z114).f1) ht.1
  have hq := need_range t (need (l.getD i z114).f0 (l.getD i z114).f1) ht.1
  have hm := (lcmI_dvd t (need (l.getD i z114).f0 (l.getD i z114).f1) ht.1 hn.1).2.2
  have hm2 : t * need (l.getD i z114).f0 (l.getD i z114).f1 ≤ 1000000000000000 * 32 := Int.mul_le_mul ht.2 (by omega) (by omega) (by omega)
  refine Ev.shift ?_
  simp only [spec_l21Ticks.l0]
  refine Ev.pos (by omega) (Ev.pos (by omega) ?_)
  have e : rd_T114 l (i : Int) = l.getD i z114 := by unfold rd_T114; rw [Int.toNat_natCast]
  rw [e]
  refine Ev.bind (sNeedAt _ _ hh hb) (Ev.bind (sGcd t _ (by omega) (by omega)) (Ev.neg (by omega) ?_))
  rw [Int.tdiv_eq_ediv_of_nonneg (by omega), wid (x := (i : Int) + 1) (by omega)]
  unfold need at hq
  rw [wid (x := t / _) (by unfold need at *; omega)]
  unfold lcmI at h hm
  rw [wid (by omega)]
  exact h
def lyQ (l : List S114) (j : Nat) : Bool := layB (l.getD j z114).f0 (l.getD j z114).f1
def lisB (l : List S114) : Bool := allF (lyQ l) l.length 0 && decide (1 ≤ (l.length : Int) ∧ (l.length : Int) ≤ 8)
theorem dec_and2 (p q : Prop) [Decidable p] [Decidable q] : (decide p && decide q) = decide (p ∧ q) := by
  by_cases p <;> by_cases q <;> simp [*]
theorem rdLay (l : List S114) (k : Nat) : rd_T114 l (k : Int) = l.getD k z114 := by
  unfold rd_T114
  rw [Int.toNat_natCast]
theorem sList_l0 (l : List S114) (hl : l.length ≤ 17592186044416) (d : Nat) : ∀ (i : Nat), i + d = l.length → Ev (fun k => spec_l21List.l0 k l i) (allF (lyQ l) l.length i && decide (1 ≤ (l.length : Int) ∧ (l.length : Int) ≤ 8)) := by
  induction d with
  | zero =>
    intro i h1
    refine Ev.shift ?_
    simp only [spec_l21List.l0, in_eq, Option.bind_some]
    exact Ev.neg (by omega) (Ev.some (by rw [allF_end _ (by omega), Bool.true_and]))
  | succ d ih =>
    intro i h1
    have w1 : wrap64 ((i : Int) + 1) = ((i + 1 : Nat) : Int) := by rw [wid (by omega)]; rfl
    refine Ev.shift ?_
    simp only [spec_l21List.l0, spec_l21One_at.f, Option.bind_some, rdLay, w1]
    refine Ev.pos (by omega) (Ev.pos (by omega) ?_)
    rw [dec_and2, dec_and2]
    cases hq : lyQ l i with
    | true =>
      rw [allF_yes _ hq]
      exact Ev.pos hq (ih (i + 1) (by omega))
    | false =>
      rw [allF_no _ (by omega) hq]
      refine Ev.neg ?_ (Ev.now _)
      rw [show (decide (1 ≤ (l.getD i z114).f0 ∧ (l.getD i z114).f0 ≤ 32) && decide (1 ≤ (l.getD i z114).f1 ∧ (l.getD i z114).f1 ≤ 32)) = false from hq]
      decide
theorem iList (l : List S114) : impl_layersOk.f l = some (lisB l) := by
  unfold impl_layersOk.f lisB
  rw [Option.some_inj, ← dec_and2]
  have e : (!(l.any layN)) = allF (lyQ l) l.length 0 := by
    rw [Bool.eq_iff_iff, Bool.not_eq_true', List.any_eq_false, allF_iff]
    have g : ∀ j, j < l.length → l.getD j z114 ∈ l := fun j hj => by
      rw [List.getD_eq_getElem?_getD, List.getElem?_eq_getElem hj]; exact List.getElem_mem hj
    have n : ∀ x : S114, ¬ layN x = true ↔ layB x.f0 x.f1 = true := fun x => by
      unfold layN layB
      rw [dec_and2, dec_and2, Bool.not_eq_true', Bool.not_eq_false]
    constructor
    · intro h j hj _
      exact (n _).1 (h _ (g j hj))
    · intro h x hx
      obtain ⟨j, hj, rfl⟩ := List.getElem_of_mem hx
      have := h j hj (Nat.zero_le _)
      unfold lyQ at this
      rw [List.getD_eq_getElem?_getD, List.getElem?_eq_getElem hj] at this
      exact (n _).2 this
  rw [e]
  cases allF (lyQ l) l.length 0 <;> cases decide (1 ≤ (l.length : Int)) <;> cases decide ((l.length : Int) ≤ 8) <;> rfl
theorem iTicks_step (l : List S114) (hl : l.length ≤ 35184372088) (i : Nat) (hi : i < l.length) (t : Int) (ht : 1 ≤ t ∧ t ≤ 1000000000000000) (hv : layB (l.getD i z114).f0 (l.getD i z114).f1 = true) (r : Int)
    (h : Ev (fun k => impl_ticksFor.l0 k (lcmI t (need (l.getD i z114).f0 (l.getD i z114).f1)) l (l.length : Int) ((i + 1 : Nat) : Int)) r) : Ev (fun k => impl_ticksFor.l0 k t l (l.length : Int) i) r := by
  obtain ⟨hh, hb⟩ := layB_iff.1 hv
  have hn := need_range (l.getD i z114).f0 (l.getD i z114).f1 hh.1
  have hg := gcd_pos t (need (l.getD i z114).f0 (l.getD i z114).f1) ht.1
  have hq := need_range t (need (l.getD i z114).f0 (l.getD i z114).f1) ht.1
  have hm := (lcmI_dvd t (need (l.getD i z114).f0 (l.getD i z114).f1) ht.1 hn.1).2.2
  have hm2 : t * need (l.getD i z114).f0 (l.getD i z114).f1 ≤ 1000000000000000 * 32 := Int.mul_le_mul ht.2 (by omega) (by omega) (by omega)
  refine Ev.shift ?_
  simp only [impl_ticksFor.l0]
  refine Ev.pos (by omega) (Ev.pos (by omega) (Ev.pos (by omega) ?_))
  rw [rdLay]
  refine Ev.bind (iNeed _ _ hh hb) (Ev.bind (iGcd t _ (by omega) (by omega)) (Ev.neg (by omega) (Ev.bind (iNeed _ _ hh hb) ?_)))
  rw [Int.tdiv_eq_ediv_of_nonneg (by omega), wid (x := (i : Int) + 1) (by omega)]
  unfold need at hq
  rw [wid (x := t / _) (by unfold need at *; omega)]
  unfold lcmI at h hm
  rw [wid (by omega)]
  exact h
def bnd : Nat → Int
  | 0 => 1
  | n + 1 => bnd n * 32
theorem bnd_le (i : Nat) (h : i ≤ 8) : bnd i ≤ 1000000000000000 := by
  have : ∀ i : Fin 9, bnd i ≤ 1000000000000000 := by decide
  exact this ⟨i, by omega⟩
theorem ticks_both (l : List S114) (h8 : l.length ≤ 8) (hv : ∀ j, j < l.length → lyQ l j = true) (d : Nat) : ∀ (i : Nat) (t : Int), i + d = l.length → 1 ≤ t → t ≤ bnd i → ∃ r, Ev (fun k => spec_l21Ticks.l0 k l t i) r ∧ Ev (fun k => impl_ticksFor.l0 k t l (l.length : Int) i) r := by
  induction d with
  | zero =>
    intro i t h1 h2 h3
    refine ⟨t, Ev.shift ?_, Ev.shift ?_⟩
    · simp only [spec_l21Ticks.l0]
      exact Ev.neg (by omega) (Ev.now _)
    · simp only [impl_ticksFor.l0]
      exact Ev.neg (by omega) (Ev.now _)
  | succ d ih =>
    intro i t h1 h2 h3
    have hq := hv i (by omega)
    obtain ⟨hh, hb⟩ := layB_iff.1 hq
    have hn := need_range (l.getD i z114).f0 (l.getD i z114).f1 hh.1
    have hm := (lcmI_dvd t (need (l.getD i z114).f0 (l.getD i z114).f1) h2 hn.1).2.2
    have hb2 := bnd_le i (by omega)
    have hm2 : t * need (l.getD i z114).f0 (l.getD i z114).f1 ≤ bnd i * 32 := Int.mul_le_mul h3 (by omega) (by omega) (by omega)
    obtain ⟨r, x, y⟩ := ih (i + 1) (lcmI t (need (l.getD i z114).f0 (l.getD i z114).f1)) (by omega) hm.1 (Int.le_trans hm.2 hm2)
    exact ⟨r, sTicks_step l (by omega) i (by omega) t ⟨h2, by omega⟩ hq r x, iTicks_step l (by omega) i (by omega) t ⟨h2, by omega⟩ hq r y⟩
theorem ticksFor (l : List S114) (hl : l.length ≤ 17592186044416) : ∃ r, Ev (fun k => spec_TicksFor.f k l) r ∧ Ev (fun k => impl_TicksFor.f k l) r := by
  unfold spec_TicksFor.f impl_TicksFor.f
  have hs : Ev (fun k => spec_l21List.f k l) (lisB l) := sList_l0 l hl l.length 0 (by omega)
  rw [iList]
  simp only [Option.bind_some]
  cases v : lisB l with
  | false =>
    rw [v] at hs
    exact ⟨(0, 1), Ev.bind hs (Ev.neg (by decide) (Ev.now _)), Ev.neg (by decide) (Ev.now _)⟩
  | true =>
    rw [v] at hs
    unfold lisB at v
    rw [Bool.and_eq_true, decide_eq_true_iff, allF_iff] at v
    obtain ⟨t, x, y⟩ := ticks_both l (by omega) (fun j hj => v.1 j hj (Nat.zero_le _)) l.length 0 1 (by omega) (Int.le_refl _) (Int.le_refl _)
    by_cases h : t > 5040
    · exact ⟨(0, 5), Ev.bind hs (Ev.pos rfl (Ev.bind x (Ev.pos h (Ev.now _)))), Ev.pos rfl (Ev.bind y (Ev.pos h (Ev.now _)))⟩
    · exact ⟨(t, 0), Ev.bind hs (Ev.pos rfl (Ev.bind x (Ev.neg h (Ev.now _)))), Ev.pos rfl (Ev.bind y (Ev.neg h (Ev.now _)))⟩
theorem FnExactTicksFor : laws_FnExactTicksFor.Pure := by
  intro l hm
  refine Ev.rounds (g := fun k => laws_FnExactTicksFor.f k l) ?_
  unfold laws_FnExactTicksFor.f
  rw [szLayer l hm.1]
  simp only [Option.bind_some]
  by_cases hl : l.length ≤ 1048576
  · rw [if_pos hl]
    refine Ev.neg (by omega) ?_
    have hl' : l.length ≤ 17592186044416 := by omega
    have hc : (cpLayer l).length ≤ 17592186044416 := by rw [cpLayer_length]; exact hl'
    obtain ⟨⟨r, c⟩, hS, hI⟩ := ticksFor (cpLayer l) hc
    repeat (first | exact Ev.now _ | refine Ev.bind hS ?_ | refine Ev.bind hI ?_ | refine Ev.bind (toLayer l hl') ?_ | refine Ev.bind (eqLayer _ hc) ?_ | refine Ev.pos (by with_reducible rfl) ?_ | refine Ev.neg (by omega) ?_ | refine Ev.neg (by simp; done) ?_ | refine Ev.pos (by omega) ?_ | (refine Ev.shift ?_; simp only [laws_FnExactTicksFor.j0]))
  · rw [if_neg hl]
    exact Ev.pos (by omega) (Ev.now _)

end Go.Proofs.Ytmkjjjpffakfiaa.Pure
