/- The pure statement of the law FnSpeeds: what the Go functions compute, told by plain Lean functions, is what the law asks, for all arguments. No condition beyond the printed ones. -/
import Derived.Test.YtfnlmabpmgocmaaPFnSpeedsx4
import Derived.Test.YtfnlmabpmgocmaaXW
namespace Go.Proofs.Ytfnlmabpmgocmaa.Pure
open Go.RowKit Go.Proofs.Ytfnlmabpmgocmaa.PFnSpeeds Go.Proofs.YtfnlmabpmgocmaaW.PrintWords Go.Proofs.YtfnlmabpmgocmaaW.PrintLast Go.Proofs.YtfnlmabpmgocmaaW.PrintMore Go.Proofs.YtfnlmabpmgocmaaXW
set_option linter.unusedVariables false
set_option linter.unusedSimpArgs false
def risQ (l : List Int) (lo hi : Int) (j : Nat) : Bool := decide (lo ≤ l.getD j 0 ∧ l.getD j 0 ≤ hi) && (decide (j = 0) || decide (l.getD (j - 1) 0 < l.getD j 0))
theorem within_eq (a b c : Int) : impl_within.f a b c = some (decide (b ≤ a ∧ a ≤ c)) := by
  unfold impl_within.f; split <;> simp_all; omega
def layB (h b : Int) : Bool := decide (1 ≤ h ∧ h ≤ 32) && decide (1 ≤ b ∧ b ≤ 32)
theorem layB_iff {h b : Int} : layB h b = true ↔ (1 ≤ h ∧ h ≤ 32) ∧ 1 ≤ b ∧ b ≤ 32 := by
  unfold layB; simp
theorem iLay (h b : Int) : impl_ValidLayer.f h b = some (layB h b) := by
  unfold impl_ValidLayer.f layB
  simp only [within_eq, Option.bind_some]
  by_cases c : 1 ≤ h ∧ h ≤ 32
  · rw [decide_eq_true c]; rfl
  · rw [decide_eq_false c]; rfl
theorem iGcd_l0 (b : Nat) : ∀ a : Nat, Ev (fun k => impl_commonDivisor.l0 k a b) ((Nat.gcd a b : Nat) : Int) := by
  induction b using Nat.strongRecOn with
  | ind b ih =>
    intro a
    refine Ev.shift ?_
    simp only [impl_commonDivisor.l0]
    by_cases h : b = 0
    · subst h
      exact Ev.pos (by omega) (Ev.some (by simp))
    · refine Ev.neg (by omega) ?_
      have e : Int.tmod (a : Int) (b : Int) = ((a % b : Nat) : Int) := by rw [Int.tmod_eq_emod_of_nonneg (by omega)]; rfl
      rw [e]
      refine Ev.same (ih (a % b) (Nat.mod_lt _ (by omega)) b) ?_
      rw [Nat.gcd_comm a b, Nat.gcd_rec b a, Nat.gcd_comm b (a % b)]
theorem iGcd (a b : Int) (ha : 0 ≤ a) (hb : 0 ≤ b) : Ev (fun k => impl_commonDivisor.f k a b) ((Nat.gcd a.toNat b.toNat : Nat) : Int) := by
  unfold impl_commonDivisor.f
  have := iGcd_l0 b.toNat a.toNat
  rwa [Int.toNat_of_nonneg ha, Int.toNat_of_nonneg hb] at this
/-- ticks that a layer needs -/
def need (h b : Int) : Int := h / ((Nat.gcd h.toNat b.toNat : Nat) : Int)
theorem gcd_pos (h b : Int) (hh : 1 ≤ h) : 1 ≤ ((Nat.gcd h.toNat b.toNat : Nat) : Int) := by
  have := Nat.gcd_pos_of_pos_left (m := h.toNat) b.toNat (by omega)
  omega
theorem gcd_le (h b : Int) (hh : 1 ≤ h) : ((Nat.gcd h.toNat b.toNat : Nat) : Int) ≤ h := by
  have := Nat.le_of_dvd (by omega) (Nat.gcd_dvd_left h.toNat b.toNat)
  omega
theorem need_range (h b : Int) (hh : 1 ≤ h) : 1 ≤ need h b ∧ need h b ≤ h := by
  unfold need
  have h1 := gcd_pos h b hh
  have h2 := gcd_le h b hh
  refine ⟨?_, Int.ediv_le_self _ (by omega)⟩
  have := (Int.le_ediv_iff_mul_le (c := ((Nat.gcd h.toNat b.toNat : Nat) : Int)) (a := 1) (b := h) (by omega)).2 (by omega)
  exact this
theorem need_mul (h b : Int) (hh : 1 ≤ h) : need h b * ((Nat.gcd h.toNat b.toNat : Nat) : Int) = h := by
  unfold need
  refine Int.ediv_mul_cancel ?_
  obtain ⟨c, hc⟩ := Nat.gcd_dvd_left h.toNat b.toNat
  exact ⟨c, by have : (h.toNat : Int) = h := Int.toNat_of_nonneg (by omega); rw [← this]; exact_mod_cast hc⟩
theorem iNeed (h b : Int) (hh : 1 ≤ h ∧ h ≤ 32) (hb : 1 ≤ b ∧ b ≤ 32) : Ev (fun k => impl_Layer_ticks.f k h b) (need h b) := by
  unfold impl_Layer_ticks.f
  refine Ev.bind (iGcd h b (by omega) (by omega)) ?_
  have h1 := gcd_pos h b hh.1
  have h2 := need_range h b hh.1
  refine Ev.neg (by omega) (Ev.some ?_)
  rw [Int.tdiv_eq_ediv_of_nonneg (by omega)]
  show some (wrap64 (need h b)) = _
  rw [wid (by omega)]
/-- the ticks of a layer's hits from the i-th on -/
def hitsL (h b t : Int) (i : Nat) : Nat → List Int
  | 0 => []
  | n + 1 => (i * b * t / h) :: hitsL h b t (i + 1) n
theorem hitsL_length (h b t : Int) (n : Nat) : ∀ i, (hitsL h b t i n).length = n := by
  induction n with
  | zero => intro i; rfl
  | succ n ih => intro i; simp [hitsL, ih]
theorem hitsL_get (h b t : Int) (n : Nat) : ∀ (i j : Nat) (hj : j < (hitsL h b t i n).length), (hitsL h b t i n)[j] = ((i + j : Nat) : Int) * b * t / h := by
  induction n with
  | zero => intro i j hj; simp [hitsL] at hj
  | succ n ih =>
    intro i j hj
    cases j with
    | zero => simp [hitsL]
    | succ j => simp only [hitsL, List.getElem_cons_succ]; rw [ih]; congr 3; omega
theorem hit_val (h b t : Int) (hh : 1 ≤ h ∧ h ≤ 32) (hb : 1 ≤ b ∧ b ≤ 32) (ht : 1 ≤ t ∧ t ≤ 1000000000) (i : Nat) (hi : (i : Int) < h) : wrap64 (Int.tdiv (wrap64 ((wrap64 ((i : Int) * b)) * t)) h) = i * b * t / h ∧ 0 ≤ i * b * t / h := by
  have h1 : 0 ≤ (i : Int) * b := Int.mul_nonneg (by omega) (by omega)
  have h2 : (i : Int) * b ≤ 32 * 32 := Int.mul_le_mul (by omega) (by omega) (by omega) (by omega)
  have h3 : 0 ≤ (i : Int) * b * t := Int.mul_nonneg h1 (by omega)
  have h4 : (i : Int) * b * t ≤ 1024 * 1000000000 := Int.mul_le_mul (by omega) (by omega) (by omega) (by omega)
  rw [wid (x := (i : Int) * b) (by omega), wid (x := (i : Int) * b * t) (by omega), Int.tdiv_eq_ediv_of_nonneg h3]
  have h5 : 0 ≤ (i : Int) * b * t / h := Int.ediv_nonneg h3 (by omega)
  have h6 : (i : Int) * b * t / h ≤ (i : Int) * b * t := Int.ediv_le_self _ h3
  exact ⟨wid (by omega), h5⟩
theorem iHits_l0 (h b t : Int) (hh : 1 ≤ h ∧ h ≤ 32) (hb : 1 ≤ b ∧ b ≤ 32) (ht : 1 ≤ t ∧ t ≤ 1000000000) (d : Nat) : ∀ (i : Nat) (acc : List Int), (i : Int) + d = h → acc.length = i → Ev (fun k => impl_Layer_hitTicks.l0 k t acc h i h b) (acc ++ hitsL h b t i d) := by
  induction d with
  | zero =>
    intro i acc h1 h2
    refine Ev.shift ?_
    simp only [impl_Layer_hitTicks.l0]
    exact Ev.neg (by omega) (Ev.some (by simp [hitsL]))
  | succ d ih =>
    intro i acc h1 h2
    refine Ev.shift ?_
    simp only [impl_Layer_hitTicks.l0]
    refine Ev.pos (by omega) (Ev.neg (by omega) (Ev.pos (by omega) ?_))
    rw [(hit_val h b t hh hb ht i (by omega)).1, wid (x := (i : Int) + 1) (by omega)]
    exact Ev.same (ih (i + 1) (acc ++ [(i : Int) * b * t / h]) (by omega) (by rw [List.length_append, List.length_singleton, h2])) (by simp [hitsL])
theorem iHits (h b t : Int) (hh : 1 ≤ h ∧ h ≤ 32) (hb : 1 ≤ b ∧ b ≤ 32) (ht : 1 ≤ t ∧ t ≤ 1000000000) : Ev (fun k => impl_Layer_hitTicks.f k h b t) (hitsL h b t 0 h.toNat) := by
  unfold impl_Layer_hitTicks.f
  exact iHits_l0 h b t hh hb ht h.toNat 0 [] (by omega) rfl
/-- the least ticks of two -/
def lcmI (a b : Int) : Int := a / ((Nat.gcd a.toNat b.toNat : Nat) : Int) * b
theorem lcmI_dvd (a b : Int) (ha : 1 ≤ a) (hb : 1 ≤ b) : (∃ c, lcmI a b = a * c) ∧ (∃ c, lcmI a b = b * c) ∧ 1 ≤ lcmI a b ∧ lcmI a b ≤ a * b := by
  unfold lcmI
  have g1 := gcd_pos a b ha
  have g2 := need_mul a b ha
  have g3 := need_range a b ha
  unfold need at g2 g3
  obtain ⟨c, hc⟩ := Nat.gcd_dvd_right a.toNat b.toNat
  have hb2 : b = ((Nat.gcd a.toNat b.toNat : Nat) : Int) * (c : Int) := by
    have : (b.toNat : Int) = b := Int.toNat_of_nonneg (by omega)
    rw [← this]; exact_mod_cast hc
  refine ⟨⟨c, ?_⟩, ⟨a / ((Nat.gcd a.toNat b.toNat : Nat) : Int), Int.mul_comm _ _⟩, ?_, ?_⟩
  · generalize ((Nat.gcd a.toNat b.toNat : Nat) : Int) = g at *
    generalize a / g = q at *
    grind
  · have := Int.mul_le_mul g3.1 hb (by omega) (by omega)
    omega
  · exact Int.mul_le_mul_of_nonneg_right g3.2 (by omega)
def lyQ (l : List S26) (j : Nat) : Bool := layB (l.getD j z26).f0 (l.getD j z26).f1
def lisB (l : List S26) : Bool := allF (lyQ l) l.length 0 && decide (1 ≤ (l.length : Int) ∧ (l.length : Int) ≤ 8)
theorem dec_and2 (p q : Prop) [Decidable p] [Decidable q] : (decide p && decide q) = decide (p ∧ q) := by
  by_cases p <;> by_cases q <;> simp [*]
theorem rdLay (l : List S26) (k : Nat) : rd_T26 l (k : Int) = l.getD k z26 := by
  unfold rd_T26
  rw [Int.toNat_natCast]
theorem iList (l : List S26) : impl_layersOk.f l = some (lisB l) := by
  unfold impl_layersOk.f lisB
  rw [Option.some_inj, ← dec_and2]
  have e : (!(l.any layN)) = allF (lyQ l) l.length 0 := by
    rw [Bool.eq_iff_iff, Bool.not_eq_true', List.any_eq_false, allF_iff]
    have g : ∀ j, j < l.length → l.getD j z26 ∈ l := fun j hj => by
      rw [List.getD_eq_getElem?_getD, List.getElem?_eq_getElem hj]; exact List.getElem_mem hj
    have n : ∀ x : S26, ¬ layN x = true ↔ layB x.f0 x.f1 = true := fun x => by
      unfold layN layB
      rw [dec_and2, dec_and2, Bool.not_eq_true', Bool.not_eq_false]
    constructor
    · intro h j hj _
      exact (n _).1 (h _ (g j hj))
    · intro h x hx
      obtain ⟨j, hj, rfl⟩ := List.getElem_of_mem hx
      have := h j hj (Nat.zero_le _)
      unfold lyQ at this
      rw [List.getD_eq_getElem?_getD, List.getElem?_eq_getElem hj] at this
      exact (n _).2 this
  rw [e]
  cases allF (lyQ l) l.length 0 <;> cases decide (1 ≤ (l.length : Int)) <;> cases decide ((l.length : Int) ≤ 8) <;> rfl
theorem iTicks_step (l : List S26) (hl : l.length ≤ 35184372088) (i : Nat) (hi : i < l.length) (t : Int) (ht : 1 ≤ t ∧ t ≤ 1000000000000000) (hv : layB (l.getD i z26).f0 (l.getD i z26).f1 = true) (r : Int)
    (h : Ev (fun k => impl_ticksFor.l0 k (lcmI t (need (l.getD i z26).f0 (l.getD i z26).f1)) l (l.length : Int) ((i + 1 : Nat) : Int)) r) : Ev (fun k => impl_ticksFor.l0 k t l (l.length : Int) i) r := by
  obtain ⟨hh, hb⟩ := layB_iff.1 hv
  have hn := need_range (l.getD i z26).f0 (l.getD i z26).f1 hh.1
  have hg := gcd_pos t (need (l.getD i z26).f0 (l.getD i z26).f1) ht.1
  have hq := need_range t (need (l.getD i z26).f0 (l.getD i z26).f1) ht.1
  have hm := (lcmI_dvd t (need (l.getD i z26).f0 (l.getD i z26).f1) ht.1 hn.1).2.2
  have hm2 : t * need (l.getD i z26).f0 (l.getD i z26).f1 ≤ 1000000000000000 * 32 := Int.mul_le_mul ht.2 (by omega) (by omega) (by omega)
  refine Ev.shift ?_
  simp only [impl_ticksFor.l0]
  refine Ev.pos (by omega) (Ev.pos (by omega) (Ev.pos (by omega) ?_))
  rw [rdLay]
  refine Ev.bind (iNeed _ _ hh hb) (Ev.bind (iGcd t _ (by omega) (by omega)) (Ev.neg (by omega) (Ev.bind (iNeed _ _ hh hb) ?_)))
  rw [Int.tdiv_eq_ediv_of_nonneg (by omega), wid (x := (i : Int) + 1) (by omega)]
  unfold need at hq
  rw [wid (x := t / _) (by unfold need at *; omega)]
  unfold lcmI at h hm
  rw [wid (by omega)]
  exact h
def bnd : Nat → Int
  | 0 => 1
  | n + 1 => bnd n * 32
theorem bnd_le (i : Nat) (h : i ≤ 8) : bnd i ≤ 1000000000000000 := by
  have : ∀ i : Fin 9, bnd i ≤ 1000000000000000 := by decide
  exact this ⟨i, by omega⟩
def ndL (x : S26) : Int := need x.f0 x.f1
def tkF (l : List S26) : Nat → Nat → Int → Int
  | 0, _, t => t
  | d + 1, i, t => tkF l d (i + 1) (lcmI t (ndL (l.getD i z26)))
theorem lcm_ge (a b : Int) (ha : 1 ≤ a) (hb : 1 ≤ b) : a ≤ lcmI a b ∧ b ≤ lcmI a b := by
  obtain ⟨⟨c, hc⟩, ⟨e, he⟩, h1, _⟩ := lcmI_dvd a b ha hb
  exact ⟨Int.le_of_dvd (by omega) ⟨c, hc⟩, Int.le_of_dvd (by omega) ⟨e, he⟩⟩
theorem tk_props (l : List S26) (hv : ∀ j, j < l.length → lyQ l j = true) (d : Nat) : ∀ (i : Nat) (t : Int), i + d = l.length → 1 ≤ t → t ≤ tkF l d i t ∧ ∀ j, i ≤ j → j < l.length → ndL (l.getD j z26) ≤ tkF l d i t := by
  induction d with
  | zero => intro i t h1 h2; exact ⟨Int.le_refl _, fun j h3 h4 => by omega⟩
  | succ d ih =>
    intro i t h1 h2
    obtain ⟨hh, hb⟩ := layB_iff.1 (hv i (by omega))
    have hn := need_range (l.getD i z26).f0 (l.getD i z26).f1 hh.1
    have hg := lcm_ge t (ndL (l.getD i z26)) h2 hn.1
    obtain ⟨a, b⟩ := ih (i + 1) (lcmI t (ndL (l.getD i z26))) (by omega) (by omega)
    refine ⟨Int.le_trans hg.1 a, fun j h3 h4 => ?_⟩
    by_cases e : j = i
    · subst e; exact Int.le_trans hg.2 a
    · exact b j (by omega) h4
theorem iTk (l : List S26) (h8 : l.length ≤ 8) (hv : ∀ j, j < l.length → lyQ l j = true) (d : Nat) : ∀ (i : Nat) (t : Int), i + d = l.length → 1 ≤ t → t ≤ bnd i → Ev (fun k => impl_ticksFor.l0 k t l (l.length : Int) i) (tkF l d i t) := by
  induction d with
  | zero =>
    intro i t h1 h2 h3
    refine Ev.shift ?_
    simp only [impl_ticksFor.l0]
    exact Ev.neg (by omega) (Ev.now _)
  | succ d ih =>
    intro i t h1 h2 h3
    have hq := hv i (by omega)
    obtain ⟨hh, hb⟩ := layB_iff.1 hq
    have hn := need_range (l.getD i z26).f0 (l.getD i z26).f1 hh.1
    have hm := (lcmI_dvd t (need (l.getD i z26).f0 (l.getD i z26).f1) h2 hn.1).2.2
    have hb2 := bnd_le i (by omega)
    have hm2 : t * need (l.getD i z26).f0 (l.getD i z26).f1 ≤ bnd i * 32 := Int.mul_le_mul h3 (by omega) (by omega) (by omega)
    exact iTicks_step l (by omega) i (by omega) t ⟨h2, by omega⟩ hq _ (ih (i + 1) (lcmI t (need (l.getD i z26).f0 (l.getD i z26).f1)) (by omega) hm.1 (Int.le_trans hm.2 hm2))
def hL (t : Int) (x : S26) : List Int := hitsL x.f0 x.f1 t 0 x.f0.toNat
def flatL (t : Int) (l : List S26) : List Int := (l.map (hL t)).flatten
theorem need_up (h b t : Int) (hh : 1 ≤ h ∧ h ≤ 32) (hb : 1 ≤ b ∧ b ≤ 32) (ht : need h b ≤ t) : h ≤ b * t := by
  have g1 := gcd_pos h b hh.1
  have g2 := need_mul h b hh.1
  have g3 := need_range h b hh.1
  have g4 : ((Nat.gcd h.toNat b.toNat : Nat) : Int) ≤ b := by
    have := Nat.le_of_dvd (by omega) (Nat.gcd_dvd_right h.toNat b.toNat)
    omega
  have : need h b * ((Nat.gcd h.toNat b.toNat : Nat) : Int) ≤ t * b := Int.mul_le_mul ht g4 (by omega) (by omega)
  rw [Int.mul_comm b t]; omega
theorem hL_get (t : Int) (x : S26) (j : Nat) (hj : j < (hL t x).length) : (hL t x)[j] = (j : Int) * x.f1 * t / x.f0 := by
  have := hitsL_get x.f0 x.f1 t x.f0.toNat 0 j hj
  rw [Nat.zero_add] at this
  exact this
theorem hL_sorted (t : Int) (x : S26) (hh : 1 ≤ x.f0 ∧ x.f0 ≤ 32) (hb : 1 ≤ x.f1 ∧ x.f1 ≤ 32) (ht : ndL x ≤ t) : (hL t x).Pairwise (· < ·) := by
  rw [List.pairwise_iff_getElem]
  intro i j hi hj hij
  rw [hL_get, hL_get]
  have hup := need_up x.f0 x.f1 t hh hb ht
  have hn := need_range x.f0 x.f1 hh.1
  have ht1 : 1 ≤ t := by unfold ndL at ht; omega
  have e : (j : Int) * x.f1 * t = (i : Int) * x.f1 * t + ((j : Int) - i) * (x.f1 * t) := by grind
  have h1 : x.f1 * t ≤ ((j : Int) - i) * (x.f1 * t) := by
    have := Int.mul_le_mul_of_nonneg_right (show (1 : Int) ≤ (j : Int) - i by omega) (show 0 ≤ x.f1 * t from Int.mul_nonneg (by omega) (by omega))
    omega
  have h2 : (i : Int) * x.f1 * t + x.f0 ≤ (j : Int) * x.f1 * t := by omega
  have h3 := Int.ediv_le_ediv (show 0 < x.f0 by omega) h2
  rw [show (i : Int) * x.f1 * t + x.f0 = (i : Int) * x.f1 * t + 1 * x.f0 by omega, Int.add_mul_ediv_right _ _ (by omega)] at h3
  omega
theorem hL_range (t : Int) (x : S26) (hh : 1 ≤ x.f0 ∧ x.f0 ≤ 32) (hb : 1 ≤ x.f1 ∧ x.f1 ≤ 32) (ht : 1 ≤ t ∧ t ≤ 5040) : (hL t x).length ≤ 32 ∧ ∀ y ∈ hL t x, 0 ≤ y ∧ y ≤ 1000000000 := by
  have hlen : (hL t x).length = x.f0.toNat := hitsL_length _ _ _ _ _
  refine ⟨by omega, fun y hy => ?_⟩
  obtain ⟨j, hj, rfl⟩ := List.getElem_of_mem hy
  rw [hL_get]
  have h1 : 0 ≤ (j : Int) * x.f1 := Int.mul_nonneg (by omega) (by omega)
  have h2 : (j : Int) * x.f1 ≤ 32 * 32 := Int.mul_le_mul (by omega) (by omega) (by omega) (by omega)
  have h3 : 0 ≤ (j : Int) * x.f1 * t := Int.mul_nonneg h1 (by omega)
  have h4 : (j : Int) * x.f1 * t ≤ 1024 * 5040 := Int.mul_le_mul (by omega) (by omega) (by omega) (by omega)
  have h5 : 0 ≤ (j : Int) * x.f1 * t / x.f0 := Int.ediv_nonneg h3 (by omega)
  have h6 : (j : Int) * x.f1 * t / x.f0 ≤ (j : Int) * x.f1 * t := Int.ediv_le_self _ h3
  exact ⟨h5, by omega⟩
theorem iAll (t : Int) (ht : 1 ≤ t ∧ t ≤ 5040) : ∀ l : List S26, (∀ x ∈ l, layB x.f0 x.f1 = true) → Ev (fun k => ml_all k t l) (flatL t l)
  | [], _ => Ev.now _
  | x :: l, h => by
    obtain ⟨hh, hb⟩ := layB_iff.1 (h x (by simp))
    unfold ml_all
    exact Ev.bind (iHits x.f0 x.f1 t hh hb (by omega)) (Ev.bind (iAll t ht l (fun y hy => h y (by simp [hy]))) (Ev.now _))
theorem flat_ok (t : Int) (ht : 1 ≤ t ∧ t ≤ 5040) : ∀ l : List S26, (∀ x ∈ l, layB x.f0 x.f1 = true) → (flatL t l).length ≤ 32 * l.length ∧ ∀ y ∈ flatL t l, 0 ≤ y ∧ y ≤ 1000000000
  | [], _ => ⟨by simp [flatL], fun y hy => by simp [flatL] at hy⟩
  | x :: l, h => by
    obtain ⟨hh, hb⟩ := layB_iff.1 (h x (by simp))
    obtain ⟨a, b⟩ := flat_ok t ht l (fun y hy => h y (by simp [hy]))
    obtain ⟨c, d⟩ := hL_range t x hh hb ht
    have e : flatL t (x :: l) = hL t x ++ flatL t l := by simp [flatL]
    rw [e]
    refine ⟨by rw [List.length_append, List.length_cons]; omega, fun y hy => ?_⟩
    rcases List.mem_append.1 hy with hy | hy
    · exact d y hy
    · exact b y hy
theorem lyQ_all {l : List S26} (hv : ∀ j, j < l.length → lyQ l j = true) : ∀ x ∈ l, layB x.f0 x.f1 = true := by
  intro x hx
  obtain ⟨j, hj, rfl⟩ := List.getElem_of_mem hx
  have := hv j hj
  unfold lyQ at this
  rw [List.getD_eq_getElem?_getD, List.getElem?_eq_getElem hj] at this
  exact this
theorem mlk_sorted (hs : List Int) : (ml_keys hs).Pairwise (· < ·) := by
  have tr : ∀ a b c : Int, decide (a ≤ b) = true → decide (b ≤ c) = true → decide (a ≤ c) = true := fun a b c h1 h2 => by simp only [decide_eq_true_eq] at *; omega
  have tot : ∀ a b : Int, (decide (a ≤ b) || decide (b ≤ a)) = true := fun a b => by simp only [Bool.or_eq_true, decide_eq_true_eq]; omega
  have h1 := List.pairwise_mergeSort tr tot (ml_dd hs)
  have h2 : (ml_keys hs).Nodup := (List.mergeSort_perm _ _).nodup_iff.2 (ml_dd_nodup hs)
  exact (h1.and h2).imp (fun ⟨a, b⟩ => by simp only [decide_eq_true_eq] at a; omega)
def mgR (l : List S26) : List (List Int) × Int := if lisB l = true then (if tkF l l.length 0 1 > 5040 then ([], 5) else (ml_rows (flatL (tkF l l.length 0 1) l), 0)) else ([], 1)
theorem lis_p {l : List S26} (h : lisB l = true) : (∀ j, j < l.length → lyQ l j = true) ∧ 1 ≤ (l.length : Int) ∧ (l.length : Int) ≤ 8 := by
  unfold lisB at h
  rw [Bool.and_eq_true, decide_eq_true_iff, allF_iff] at h
  exact ⟨fun j hj => h.1 j hj (Nat.zero_le _), h.2⟩
theorem iMerge (l : List S26) : Ev (fun k => impl_MergeLayers.f k l) (mgR l) := by
  unfold impl_MergeLayers.f impl_TicksFor.f mgR
  rw [iList]
  simp only [Option.bind_some]
  cases v : lisB l with
  | false => exact Ev.bind (Ev.neg (by decide) (Ev.now (0, 1))) (Ev.neg (by decide) (Ev.now _))
  | true =>
    obtain ⟨hv, hl⟩ := lis_p v
    have x := iTk l (by omega) hv l.length 0 1 (by omega) (by omega) (by decide)
    have p := (tk_props l hv l.length 0 1 (by omega) (by omega)).1
    rw [if_pos rfl]
    by_cases h : tkF l l.length 0 1 > 5040
    · rw [if_pos h]
      exact Ev.bind (Ev.pos rfl (Ev.bind x (Ev.pos h (Ev.now (0, 5))))) (Ev.neg (by decide) (Ev.now _))
    · rw [if_neg h]
      refine Ev.bind (Ev.pos rfl (Ev.bind x (Ev.neg h (Ev.now (tkF l l.length 0 1, 0))))) (Ev.pos rfl (Ev.bind (iAll _ (by omega) l (lyQ_all hv)) (Ev.pos ?_ (Ev.now _))))
      obtain ⟨a, b⟩ := flat_ok (tkF l l.length 0 1) (by omega) l (lyQ_all hv)
      show ml_ok (flatL (tkF l l.length 0 1) l) = true
      unfold ml_ok
      rw [Bool.and_eq_true, decide_eq_true_iff, List.all_eq_true]
      exact ⟨by omega, fun y hy => decide_eq_true (b y hy)⟩
theorem meet_iff (h1 b1 h2 b2 t : Int) (hh1 : 1 ≤ h1 ∧ h1 ≤ 32) (hb1 : 1 ≤ b1 ∧ b1 ≤ 32) (hh2 : 1 ≤ h2 ∧ h2 ≤ 32) (hb2 : 1 ≤ b2 ∧ b2 ≤ 32) (ht : 1 ≤ t) (q1 q2 : Int) (e1 : b1 * t = h1 * q1) (e2 : b2 * t = h2 * q2) (k : Int) (hk : 0 ≤ k) :
    (∃ j : Nat, (j : Int) < h2 ∧ (j : Int) * b2 * t / h2 = k * b1 * t / h1) ↔ ((k * b1 * h2) % (h1 * b2) = 0 ∧ (k * b1 * h2) / (h1 * b2) < h2) := by
  have v1 : k * b1 * t / h1 = k * q1 := by
    rw [Int.mul_assoc, e1, show k * (h1 * q1) = h1 * (k * q1) by grind, Int.mul_ediv_cancel_left _ (by omega)]
  have v2 : ∀ j : Int, j * b2 * t / h2 = j * q2 := by
    intro j
    rw [Int.mul_assoc, e2, show j * (h2 * q2) = h2 * (j * q2) by grind, Int.mul_ediv_cancel_left _ (by omega)]
  have hd : 1 ≤ h1 * b2 := by have := Int.mul_le_mul hh1.1 hb2.1 (by omega) (by omega); omega
  have key : ∀ j : Int, j * q2 = k * q1 ↔ k * b1 * h2 = (h1 * b2) * j := by
    intro j
    constructor
    · intro h
      have : t * (k * b1 * h2) = t * ((h1 * b2) * j) := by grind
      exact Int.eq_of_mul_eq_mul_left (by omega) this
    · intro h
      have : (h1 * h2) * (j * q2) = (h1 * h2) * (k * q1) := by grind
      have hp : 1 ≤ h1 * h2 := by have := Int.mul_le_mul hh1.1 hh2.1 (by omega) (by omega); omega
      exact Int.eq_of_mul_eq_mul_left (by omega) this
  rw [v1]
  constructor
  · rintro ⟨j, hj, h⟩
    rw [v2] at h
    have := (key j).1 h
    rw [this]
    refine ⟨Int.mul_emod_right _ _, ?_⟩
    rw [Int.mul_ediv_cancel_left _ (by omega)]; exact hj
  · rintro ⟨h, hlt⟩
    have hn : 0 ≤ k * b1 * h2 := Int.mul_nonneg (Int.mul_nonneg hk (by omega)) (by omega)
    have h3 := Int.mul_ediv_add_emod (k * b1 * h2) (h1 * b2)
    have h4 : 0 ≤ (k * b1 * h2) / (h1 * b2) := Int.ediv_nonneg hn (by omega)
    refine ⟨((k * b1 * h2) / (h1 * b2)).toNat, by omega, ?_⟩
    rw [Int.toNat_of_nonneg h4, v2]
    refine (key _).2 ?_
    omega
theorem need_times (h b t c : Int) (hh : 1 ≤ h ∧ h ≤ 32) (hb : 1 ≤ b ∧ b ≤ 32) (ht : t = need h b * c) : ∃ q, b * t = h * q := by
  have e := need_mul h b hh.1
  obtain ⟨d, hd⟩ := Nat.gcd_dvd_right h.toNat b.toNat
  have hb2 : b = ((Nat.gcd h.toNat b.toNat : Nat) : Int) * (d : Int) := by
    have : (b.toNat : Int) = b := Int.toNat_of_nonneg (by omega)
    rw [← this]; exact_mod_cast hd
  refine ⟨d * c, ?_⟩
  generalize ((Nat.gcd h.toNat b.toNat : Nat) : Int) = g at *
  generalize need h b = n at *
  grind
theorem bytesOf8 (l : List Int) (hl : ∀ x ∈ l, (Lit.int .u8 x).wf = true) (j : Nat) (hj : j < l.length) : 0 ≤ l.getD j 0 ∧ l.getD j 0 ≤ 255 := by
  have h := hl _ (List.getElem_mem hj)
  rw [List.getD_eq_getElem?_getD, List.getElem?_eq_getElem hj, Option.getD_some]
  simp [Lit.wf, IntKind.min, IntKind.max, IntKind.signed, IntKind.bits] at h
  omega
theorem at8 (l : List Int) (hl : ∀ j, j < l.length → 0 ≤ l.getD j 0 ∧ l.getD j 0 ≤ 255) (i n : Int) (hi : 0 ≤ i) (hn : 2 ≤ n ∧ n ≤ 1000000) : ∃ v, laws_r8At.f l i n = some v ∧ 0 ≤ v ∧ v < n := by
  unfold laws_r8At.f
  rw [if_neg (by omega)]
  by_cases c : i ≥ (l.length : Int)
  · rw [if_pos c]; exact ⟨0, rfl, by omega, by omega⟩
  · have q := hl i.toNat (by omega)
    have e : rd l i = l.getD i.toNat 0 := rfl
    rw [if_neg c, if_pos hi, if_pos (by omega), if_neg (by omega), e, wid (x := l.getD i.toNat 0) (by omega), Int.tmod_eq_emod_of_nonneg q.1]
    exact ⟨_, rfl, Int.emod_nonneg _ (by omega), Int.emod_lt_of_pos _ (by omega)⟩
def cntR (P : Nat → Bool) : Nat → Nat → Nat
  | 0, _ => 0
  | d + 1, i => (if P i = true then 1 else 0) + cntR P d (i + 1)
theorem cntR_le (P : Nat → Bool) : ∀ d i, cntR P d i ≤ d
  | 0, _ => Nat.le_refl _
  | d + 1, i => by have := cntR_le P d (i + 1); unfold cntR; split <;> omega
theorem cntR_congr (P Q : Nat → Bool) : ∀ d i, (∀ k, i ≤ k → k < i + d → P k = Q k) → cntR P d i = cntR Q d i
  | 0, _, _ => rfl
  | d + 1, i, h => by
    unfold cntR
    rw [h i (by omega) (by omega), cntR_congr P Q d (i + 1) (fun k h1 h2 => h k (by omega) (by omega))]
theorem cntR_list (p : Int → Bool) (A : List Int) : ∀ d i, i + d = A.length → cntR (fun k => p (A.getD k 0)) d i = (A.drop i).countP p
  | 0, i, h => by rw [List.drop_of_length_le (by omega)]; rfl
  | d + 1, i, h => by
    have hi : i < A.length := by omega
    unfold cntR
    rw [cntR_list p A d (i + 1) (by omega), List.drop_eq_getElem_cons hi, List.countP_cons, List.getD_eq_getElem?_getD, List.getElem?_eq_getElem hi, Option.getD_some]
    omega
theorem iMeet_l0 (h1 b1 h2 b2 : Int) (hh1 : 1 ≤ h1 ∧ h1 ≤ 32) (hb1 : 1 ≤ b1 ∧ b1 ≤ 32) (hh2 : 1 ≤ h2 ∧ h2 ≤ 32) (hb2 : 1 ≤ b2 ∧ b2 ≤ 32) (P : Nat → Bool) (hP : ∀ i : Nat, (i : Int) < h1 → (P i = true ↔ (((i : Int) * b1 * h2) % (h1 * b2) = 0 ∧ ((i : Int) * b1 * h2) / (h1 * b2) < h2))) (d : Nat) :
    ∀ (i : Nat) (c : Int), (i : Int) + d = h1 → 0 ≤ c → c ≤ i → Ev (fun k => impl_MeetCount.l0 k c h1 i h1 b1 h2 b2) (c + (cntR P d i : Int), 0) := by
  induction d with
  | zero =>
    intro i c h3 h4 h5
    refine Ev.shift ?_
    simp only [impl_MeetCount.l0]
    exact Ev.neg (by omega) (Ev.some (by simp [cntR]))
  | succ d ih =>
    intro i c h3 h4 h5
    have w1 : wrap64 ((i : Int) + 1) = ((i + 1 : Nat) : Int) := by rw [wid (by omega)]; rfl
    have w2 : wrap64 (c + 1) = c + 1 := wid (by omega)
    have m1 : 1 ≤ h1 * b2 := by have := Int.mul_le_mul hh1.1 hb2.1 (by omega) (by omega); omega
    have m2 : h1 * b2 ≤ 32 * 32 := Int.mul_le_mul hh1.2 hb2.2 (by omega) (by omega)
    have m3 : 0 ≤ (i : Int) * b1 := Int.mul_nonneg (by omega) (by omega)
    have m4 : (i : Int) * b1 ≤ 32 * 32 := Int.mul_le_mul (by omega) hb1.2 (by omega) (by omega)
    have m5 : 0 ≤ (i : Int) * b1 * h2 := Int.mul_nonneg m3 (by omega)
    have m6 : (i : Int) * b1 * h2 ≤ 1024 * 32 := Int.mul_le_mul (by omega) hh2.2 (by omega) (by omega)
    have m7 : 0 ≤ (i : Int) * b1 * h2 / (h1 * b2) := Int.ediv_nonneg m5 (by omega)
    have m8 : (i : Int) * b1 * h2 / (h1 * b2) ≤ (i : Int) * b1 * h2 := Int.ediv_le_self _ m5
    have hp := hP i (by omega)
    refine Ev.shift ?_
    simp only [impl_MeetCount.l0]
    rw [w1, w2, wid (x := h1 * b2) (by omega), wid (x := (i : Int) * b1) (by omega), wid (x := (i : Int) * b1 * h2) (by omega), Int.tmod_eq_emod_of_nonneg m5, Int.tdiv_eq_ediv_of_nonneg m5, wid (x := (i : Int) * b1 * h2 / (h1 * b2)) (by omega)]
    unfold cntR
    by_cases hc : ((i : Int) * b1 * h2) % (h1 * b2) = 0 ∧ ((i : Int) * b1 * h2) / (h1 * b2) < h2
    · rw [if_pos (hp.2 hc)]
      exact Ev.pos (by omega) (Ev.neg (by omega) (Ev.pos hc.1 (Ev.pos hc.2 (Ev.same (ih (i + 1) (c + 1) (by omega) (by omega) (by omega)) (by rw [Int.natCast_add]; congr 1; omega)))))
    · rw [if_neg (fun h => hc (hp.1 h))]
      have R : Ev (fun k => impl_MeetCount.l0 k c h1 ((i + 1 : Nat) : Int) h1 b1 h2 b2) (c + ((0 + cntR P d (i + 1) : Nat) : Int), 0) := Ev.same (ih (i + 1) c (by omega) (by omega) (by omega)) (by rw [Nat.zero_add])
      refine Ev.pos (by omega) (Ev.neg (by omega) ?_)
      by_cases hm : ((i : Int) * b1 * h2) % (h1 * b2) = 0
      · exact Ev.pos hm (Ev.neg (fun h => hc ⟨hm, h⟩) R)
      · exact Ev.neg hm R
theorem iMeet (h1 b1 h2 b2 : Int) (hh1 : 1 ≤ h1 ∧ h1 ≤ 32) (hb1 : 1 ≤ b1 ∧ b1 ≤ 32) (hh2 : 1 ≤ h2 ∧ h2 ≤ 32) (hb2 : 1 ≤ b2 ∧ b2 ≤ 32) (P : Nat → Bool) (hP : ∀ i : Nat, (i : Int) < h1 → (P i = true ↔ (((i : Int) * b1 * h2) % (h1 * b2) = 0 ∧ ((i : Int) * b1 * h2) / (h1 * b2) < h2))) : Ev (fun k => impl_MeetCount.f k h1 b1 h2 b2) ((cntR P h1.toNat 0 : Int), 0) := by
  unfold impl_MeetCount.f
  simp only [iLay, Option.bind_some, layB_iff.2 ⟨hh1, hb1⟩, layB_iff.2 ⟨hh2, hb2⟩]
  refine Ev.pos (by trivial) (Ev.shift ?_)
  simp only [impl_MeetCount.j0]
  refine Ev.neg (by decide) ?_
  exact Ev.same (iMeet_l0 h1 b1 h2 b2 hh1 hb1 hh2 hb2 P hP h1.toNat 0 0 (by omega) (by omega) (by omega)) (by rw [Int.zero_add])
theorem meetP (t : Int) (a b : S26) (hh1 : 1 ≤ a.f0 ∧ a.f0 ≤ 32) (hb1 : 1 ≤ a.f1 ∧ a.f1 ≤ 32) (hh2 : 1 ≤ b.f0 ∧ b.f0 ≤ 32) (hb2 : 1 ≤ b.f1 ∧ b.f1 ≤ 32) (ht : 1 ≤ t) (q1 q2 : Int) (e1 : a.f1 * t = a.f0 * q1) (e2 : b.f1 * t = b.f0 * q2) (i : Nat) (hi : (i : Int) < a.f0) :
    (decide ((hL t a).getD i 0 ∈ hL t b) = true ↔ (((i : Int) * a.f1 * b.f0) % (a.f0 * b.f1) = 0 ∧ ((i : Int) * a.f1 * b.f0) / (a.f0 * b.f1) < b.f0)) := by
  rw [decide_eq_true_iff]
  refine Iff.trans ?_ (meet_iff a.f0 a.f1 b.f0 b.f1 t hh1 hb1 hh2 hb2 ht q1 q2 e1 e2 i (by omega))
  have hlen : (hL t a).length = a.f0.toNat := hitsL_length _ _ _ _ _
  have hlen2 : (hL t b).length = b.f0.toNat := hitsL_length _ _ _ _ _
  rw [List.getD_eq_getElem?_getD, List.getElem?_eq_getElem (by omega), Option.getD_some, hL_get, List.mem_iff_getElem]
  constructor
  · rintro ⟨j, hj, e⟩
    rw [hL_get] at e
    exact ⟨j, by omega, e⟩
  · rintro ⟨j, hj, e⟩
    exact ⟨j, by omega, by rw [hL_get]; exact e⟩
def gcdOk : Bool := (List.range 12).all fun a => (List.range 12).all fun b => cntR (fun i => i * (b + 1) % (a + 1) == 0) (a + 1) 0 == Nat.gcd (a + 1) (b + 1)
theorem gcd_ok : gcdOk = true := by decide +kernel
theorem gcd_cnt (h1 h2 : Int) (hh1 : 1 ≤ h1 ∧ h1 ≤ 12) (hh2 : 1 ≤ h2 ∧ h2 ≤ 12) : cntR (fun i => i * h2.toNat % h1.toNat == 0) h1.toNat 0 = Nat.gcd h1.toNat h2.toNat := by
  have h := gcd_ok
  unfold gcdOk at h
  rw [List.all_eq_true] at h
  have h' := h (h1.toNat - 1) (List.mem_range.2 (by omega))
  rw [List.all_eq_true] at h'
  have h'' := h' (h2.toNat - 1) (List.mem_range.2 (by omega))
  rw [Nat.sub_add_cancel (by omega), Nat.sub_add_cancel (by omega)] at h''
  exact eq_of_beq h''
theorem meetG (h1 b1 h2 : Int) (hh1 : 1 ≤ h1 ∧ h1 ≤ 12) (hb1 : 1 ≤ b1 ∧ b1 ≤ 32) (hh2 : 1 ≤ h2 ∧ h2 ≤ 12) : Ev (fun k => impl_MeetCount.f k h1 b1 h2 b1) (((Nat.gcd h1.toNat h2.toNat : Nat) : Int), 0) := by
  rw [← gcd_cnt h1 h2 hh1 hh2]
  refine iMeet h1 b1 h2 b1 (by omega) hb1 (by omega) hb1 _ (fun i hi => ?_)
  have e : (i : Int) * b1 * h2 = b1 * ((i : Int) * h2) := by grind
  have e2 : h1 * b1 = b1 * h1 := Int.mul_comm _ _
  rw [e, e2, Int.mul_emod_mul_of_pos _ _ (by omega), Int.mul_ediv_mul_of_pos _ _ (by omega)]
  have hlt : (i : Int) * h2 / h1 < h2 := by
    refine Int.ediv_lt_of_lt_mul (by omega) ?_
    rw [Int.mul_comm h2 h1]
    exact Int.mul_lt_mul_of_pos_right hi (by omega)
  have hm : ((i * h2.toNat % h1.toNat : Nat) : Int) = (i : Int) * h2 % h1 := by
    rw [Int.natCast_emod, Int.natCast_mul, Int.toNat_of_nonneg (by omega), Int.toNat_of_nonneg (by omega)]
  rw [beq_iff_eq]
  have hb : 0 ≤ (i : Int) * h2 % h1 := Int.emod_nonneg _ (by omega)
  constructor
  · intro h
    have h0 : (i : Int) * h2 % h1 = 0 := by rw [← hm, h]; rfl
    rw [h0]
    exact ⟨Int.mul_zero _, hlt⟩
  · rintro ⟨h, _⟩
    have h0 : (i : Int) * h2 % h1 = 0 := by
      rcases Int.mul_eq_zero.1 h with h | h
      · omega
      · exact h
    omega
theorem both_perm (A B : List Int) (hA : A.Nodup) (hB : B.Nodup) : A.countP (fun x => decide (x ∈ B)) = B.countP (fun x => decide (x ∈ A)) := by
  rw [List.countP_eq_length_filter, List.countP_eq_length_filter]
  refine List.Perm.length_eq ((List.perm_ext_iff_of_nodup (hA.filter _) (hB.filter _)).2 fun x => ?_)
  simp only [List.mem_filter, decide_eq_true_eq]
  exact And.comm
theorem dd_len (A B : List Int) (hA : A.Nodup) (hB : B.Nodup) : (ml_dd (A ++ B)).length + A.countP (fun x => decide (x ∈ B)) = A.length + B.length := by
  have hp : (ml_dd (A ++ B)).Perm (A ++ B.filter (fun x => !decide (x ∈ A))) := by
    refine (List.perm_ext_iff_of_nodup (ml_dd_nodup _) (List.nodup_append.2 ⟨hA, hB.filter _, fun a ha b hb e => ?_⟩)).2 fun x => ?_
    · subst e
      simp [ha] at hb
    · rw [ml_dd_mem, List.mem_append, List.mem_append, List.mem_filter]
      by_cases h : x ∈ A <;> simp [h]
  rw [hp.length_eq, List.length_append, both_perm A B hA hB, ← List.countP_eq_length_filter]
  have h1 := List.length_eq_countP_add_countP (fun x => decide (x ∈ A)) (l := B)
  have h2 : B.countP (fun x => !decide (x ∈ A)) = B.countP (fun a => decide ¬ decide (a ∈ A) = true) := List.countP_congr (fun x _ => by simp)
  omega
def sumC (l : List Int) : List Int → Int
  | [] => 0
  | x :: ks => (l.count x : Int) + sumC l ks
theorem sumC_nil : ∀ ks : List Int, sumC [] ks = 0
  | [] => rfl
  | x :: ks => by unfold sumC; rw [sumC_nil ks]; rfl
theorem sumC_cons (y : Int) (l : List Int) : ∀ ks : List Int, sumC (y :: l) ks = sumC l ks + (ks.count y : Int)
  | [] => by simp [sumC]
  | x :: ks => by
    have ih := sumC_cons y l ks
    unfold sumC
    rw [ih, List.count_cons, List.count_cons]
    by_cases e : y = x
    · subst e; simp; omega
    · have e' : ¬ x = y := fun h => e h.symm
      simp [e, e']; omega
theorem sumC_all (ks : List Int) (hk : ks.Nodup) : ∀ l : List Int, (∀ x ∈ l, x ∈ ks) → sumC l ks = l.length
  | [], _ => sumC_nil ks
  | y :: l, h => by
    rw [sumC_cons, sumC_all ks hk l (fun x hx => h x (by simp [hx])), List.Nodup.count hk, if_pos (h y (by simp))]
    rfl
theorem sp_gcd (z x : Int) (hx : 1 ≤ x) (h1 b1 h2 b2 : Int) (R : Bool) (b : Nat) : ∀ a : Nat, z = ((Nat.gcd a b : Nat) : Int) → Ev (fun k => laws_FnSpeeds.j1 k x false h1 b1 h2 b2) R → Ev (fun k => laws_FnSpeeds.l0 k x 0 x 0 z 0 a b h1 b1 h2 b2) R := by
  induction b using Nat.strongRecOn with
  | ind b ih =>
    intro a hz hR
    refine Ev.shift ?_
    simp only [laws_FnSpeeds.l0]
    by_cases h : b = 0
    · subst h
      refine Ev.neg (by omega) (Ev.pos (by trivial) (Ev.pos (by trivial) (Ev.pos (by trivial) (Ev.neg (by omega) (Ev.pos (by trivial) ?_)))))
      have e : (z != (a : Int)) = false := by rw [hz, Nat.gcd_zero_right]; simp
      rw [e]
      exact hR
    · refine Ev.pos (by omega) (Ev.neg (by omega) ?_)
      have e : Int.tmod (a : Int) (b : Int) = ((a % b : Nat) : Int) := by rw [Int.tmod_eq_emod_of_nonneg (by omega)]; rfl
      rw [e]
      refine ih (a % b) (Nat.mod_lt _ (by omega)) b ?_ hR
      rw [hz, Nat.gcd_comm a b, Nat.gcd_rec b a, Nat.gcd_comm b (a % b)]
theorem iHitT (t : Int) (a : S26) (hh : 1 ≤ a.f0 ∧ a.f0 ≤ 32) (hb : 1 ≤ a.f1 ∧ a.f1 ≤ 32) (ht : 1 ≤ t ∧ t ≤ 5040) (c : Int) (hc : t = need a.f0 a.f1 * c) : Ev (fun k => impl_HitTicks.f k a.f0 a.f1 t) (hL t a, 0) := by
  unfold impl_HitTicks.f
  simp only [iLay, within_eq, Option.bind_some, layB_iff.2 ⟨hh, hb⟩]
  have hn := need_range a.f0 a.f1 hh.1
  have hm : Int.tmod t (need a.f0 a.f1) = 0 := by rw [hc, Int.tmod_eq_emod_of_nonneg (by rw [← hc]; omega)]; exact Int.mul_emod_right _ _
  refine Ev.pos (by trivial) (Ev.pos (by simpa using ht) (Ev.bind (iNeed _ _ hh hb) (Ev.neg (by omega) (Ev.pos hm (Ev.bind (iHits _ _ t hh hb (by omega)) (Ev.now _))))))
theorem rdLL (l : List (List Int)) (i : Nat) (hi : i < l.length) : rd_L5 l (i : Int) = l[i] := by
  unfold rd_L5
  rw [Int.toNat_natCast, List.getD_eq_getElem?_getD, List.getElem?_eq_getElem hi]; rfl
theorem sp_l2 (t : Int) (a : S26) (h2 b2 : Int) (hh : 1 ≤ a.f0 ∧ a.f0 ≤ 32) (hb : 1 ≤ a.f1 ∧ a.f1 ≤ 32) (ht : 1 ≤ t ∧ t ≤ 5040) (hh2 : 1 ≤ h2 ∧ h2 ≤ 32) (q1 : Int) (e1 : a.f1 * t = a.f0 * q1) (d : Nat) : ∀ i : Nat, (i : Int) + d = a.f0 → Ev (fun k => laws_FnSpeeds.l2 k t (hL t a) (a.f0 + h2) i a.f0 a.f1 h2 b2) true := by
  have hlen : (hL t a).length = a.f0.toNat := hitsL_length _ _ _ _ _
  induction d with
  | zero =>
    intro i h
    refine Ev.shift ?_
    simp only [laws_FnSpeeds.l2]
    refine Ev.neg (by omega) (Ev.some ?_)
    rw [wid (by omega)]; simp
  | succ d ih =>
    intro i h
    refine Ev.shift ?_
    simp only [laws_FnSpeeds.l2]
    have v : (hL t a)[i]'(by omega) = (i : Int) * q1 := by
      rw [hL_get, Int.mul_assoc, e1, show (i : Int) * (a.f0 * q1) = a.f0 * ((i : Int) * q1) by grind, Int.mul_ediv_cancel_left _ (by omega)]
    have m3 : 0 ≤ (i : Int) * a.f1 := Int.mul_nonneg (by omega) (by omega)
    have m4 : (i : Int) * a.f1 ≤ 32 * 32 := Int.mul_le_mul (by omega) hb.2 (by omega) (by omega)
    have m5 : 0 ≤ (i : Int) * a.f1 * t := Int.mul_nonneg m3 (by omega)
    have m6 : (i : Int) * a.f1 * t ≤ 1024 * 5040 := Int.mul_le_mul (by omega) ht.2 (by omega) (by omega)
    have ee : (i : Int) * q1 * a.f0 = (i : Int) * a.f1 * t := by rw [Int.mul_assoc (i : Int) a.f1 t, e1]; grind
    refine Ev.pos (by omega) (Ev.pos (by omega) (Ev.pos (by omega) (Ev.pos ?_ ?_)))
    · rw [rd_get _ i (by omega), v, ee, wid (x := (i : Int) * a.f1) (by omega)]
    · rw [wid (x := (i : Int) + 1) (by omega)]
      exact ih (i + 1) (by omega)
theorem sp_l1 (t : Int) (a : S26) (h2 b2 : Int) (F : List Int) (KS : List Int) (hKs : KS.Pairwise (· < ·)) (hK : KS.length ≤ 1000) (hF : F.length ≤ 1000) (T : Int) (hT : sumC F KS = T) (hT0 : T ≤ 1000) (hits : List Int) (R : Bool)
    (hR : Ev (fun k => laws_FnSpeeds.l2 k t hits T 0 a.f0 a.f1 h2 b2) R) (d : Nat) : ∀ (i : Nat) (s : Int), i + d = KS.length → 0 ≤ s → s + sumC F (KS.drop i) = T → Ev (fun k => laws_FnSpeeds.l1 k t (KS.map fun x => [x, (F.count x : Int)]) hits s i a.f0 a.f1 h2 b2) R := by
  have pos : ∀ ks, 0 ≤ sumC F ks := by
    intro ks
    induction ks with
    | nil => exact Int.le_refl _
    | cons x ks ih => unfold sumC; omega
  have hlm : (KS.map fun x => [x, (F.count x : Int)]).length = KS.length := List.length_map _
  induction d with
  | zero =>
    intro i s k1 k2 k3
    refine Ev.shift ?_
    simp only [laws_FnSpeeds.l1, hlm]
    refine Ev.neg (by omega) ?_
    rw [List.drop_of_length_le (by omega)] at k3
    have : s = T := by simpa [sumC] using k3
    rw [this]; exact hR
  | succ d ih =>
    intro i s k1 k2 k3
    refine Ev.shift ?_
    simp only [laws_FnSpeeds.l1, hlm]
    rw [rdLL _ i (by omega), List.getElem_map]
    have hc : F.count KS[i] ≤ 1000 := Nat.le_trans List.count_le_length hF
    rw [List.drop_eq_getElem_cons (by omega)] at k3
    unfold sumC at k3
    have hp := pos (KS.drop (i + 1))
    have nx : Ev (fun k => laws_FnSpeeds.l1 k t (KS.map fun x => [x, (F.count x : Int)]) hits (wrap64 (s + rd [KS[i], (F.count KS[i] : Int)] 1)) (wrap64 ((i : Int) + 1)) a.f0 a.f1 h2 b2) R := by
      have e : rd [KS[i], (F.count KS[i] : Int)] 1 = (F.count KS[i] : Int) := rfl
      rw [e, wid (x := s + _) (by omega), wid (x := (i : Int) + 1) (by omega)]
      exact ih (i + 1) _ (by omega) (by omega) (by omega)
    refine Ev.pos (by omega) (Ev.pos (by omega) (Ev.pos (by rfl) ?_))
    by_cases h0 : i = 0
    · refine Ev.neg (by omega) (Ev.pos (by simp) nx)
    · have wi : wrap64 ((i : Int) - 1) = ((i - 1 : Nat) : Int) := by rw [wid (by omega)]; omega
      rw [wi, rdLL _ (i - 1) (by omega), List.getElem_map]
      have hlt : KS[i - 1] < KS[i] := List.pairwise_iff_getElem.1 hKs (i - 1) i (by omega) (by omega) (by omega)
      refine Ev.pos (by omega) (Ev.pos (by simp) (Ev.pos (by omega) (Ev.pos (by omega) (Ev.pos (by simp) (Ev.neg ?_ (Ev.pos (by simp) nx))))))
      have r1 : rd [KS[i], (F.count KS[i] : Int)] 0 = KS[i] := rfl
      have r2 : rd [KS[i - 1], (F.count KS[i - 1] : Int)] 0 = KS[i - 1] := rfl
      rw [r1, r2]
      omega
theorem sp_main (a b : S26) (hh1 : 1 ≤ a.f0 ∧ a.f0 ≤ 12) (hb1 : 1 ≤ a.f1 ∧ a.f1 ≤ 8) (hh2 : 1 ≤ b.f0 ∧ b.f0 ≤ 12) (hb2 : 1 ≤ b.f1 ∧ b.f1 ≤ 8) :
    ∃ x : Int, 1 ≤ x ∧ Ev (fun k => impl_MeetCount.f k a.f0 a.f1 b.f0 b.f1) (x, 0) ∧ Ev (fun k => impl_MeetCount.f k b.f0 b.f1 a.f0 a.f1) (x, 0) ∧ Ev (fun k => laws_FnSpeeds.j1 k x false a.f0 a.f1 b.f0 b.f1) true := by
  have n1 := need_range a.f0 a.f1 hh1.1
  have n2 := need_range b.f0 b.f1 hh2.1
  have l1 : layB a.f0 a.f1 = true := layB_iff.2 ⟨by omega, by omega⟩
  have l2 : layB b.f0 b.f1 = true := layB_iff.2 ⟨by omega, by omega⟩
  have hli : lisB [a, b] = true := by
    unfold lisB
    rw [Bool.and_eq_true, allF_iff]
    refine ⟨fun j hj _ => ?_, by simp⟩
    have hj2 : j = 0 ∨ j = 1 := by simp at hj; omega
    rcases hj2 with rfl | rfl
    · exact l1
    · exact l2
  obtain ⟨hv, hlen⟩ := lis_p hli
  have eg : lcmI 1 (need a.f0 a.f1) = need a.f0 a.f1 := by unfold lcmI; simp
  have et : tkF [a, b] 2 0 1 = lcmI (need a.f0 a.f1) (need b.f0 b.f1) := by
    show lcmI (lcmI 1 (need a.f0 a.f1)) (need b.f0 b.f1) = _
    rw [eg]
  obtain ⟨⟨c1, d1⟩, ⟨c2, d2⟩, p1, p2⟩ := lcmI_dvd (need a.f0 a.f1) (need b.f0 b.f1) n1.1 n2.1
  have p3 : need a.f0 a.f1 * need b.f0 b.f1 ≤ 12 * 12 := Int.mul_le_mul (by omega) (by omega) (by omega) (by omega)
  obtain ⟨q1, e1⟩ := need_times a.f0 a.f1 _ c1 (by omega) (by omega) d1
  obtain ⟨q2, e2⟩ := need_times b.f0 b.f1 _ c2 (by omega) (by omega) d2
  have hMg := iMerge [a, b]
  have hTk := iTk [a, b] (by simp) hv 2 0 1 (by simp) (by omega) (by decide)
  obtain ⟨_, hq⟩ := tk_props [a, b] hv 2 0 1 (by simp) (by omega)
  have hn1 : ndL a ≤ tkF [a, b] 2 0 1 := hq 0 (Nat.zero_le _) (by simp)
  have hn2 : ndL b ≤ tkF [a, b] 2 0 1 := hq 1 (Nat.zero_le _) (by simp)
  have eM : mgR [a, b] = (ml_rows (hL (tkF [a, b] 2 0 1) a ++ hL (tkF [a, b] 2 0 1) b), 0) := by
    unfold mgR
    rw [if_pos hli, if_neg (by show ¬ tkF [a, b] 2 0 1 > 5040; rw [et]; omega)]
    show (ml_rows (flatL (tkF [a, b] 2 0 1) [a, b]), 0) = _
    unfold flatL
    simp
  rw [eM] at hMg
  rw [et] at hMg hTk hn1 hn2
  generalize lcmI (need a.f0 a.f1) (need b.f0 b.f1) = t at *
  have ht : 1 ≤ t ∧ t ≤ 5040 := by omega
  have sA := hL_sorted t a (by omega) (by omega) hn1
  have sB := hL_sorted t b (by omega) (by omega) hn2
  have nA : (hL t a).Nodup := sA.imp (fun h => by omega)
  have nB : (hL t b).Nodup := sB.imp (fun h => by omega)
  have lA : (hL t a).length = a.f0.toNat := hitsL_length _ _ _ _ _
  have lB : (hL t b).length = b.f0.toNat := hitsL_length _ _ _ _ _
  have mA := iMeet a.f0 a.f1 b.f0 b.f1 (by omega) (by omega) (by omega) (by omega) _ (fun i hi => meetP t a b (by omega) (by omega) (by omega) (by omega) ht.1 q1 q2 e1 e2 i hi)
  have mB := iMeet b.f0 b.f1 a.f0 a.f1 (by omega) (by omega) (by omega) (by omega) _ (fun i hi => meetP t b a (by omega) (by omega) (by omega) (by omega) ht.1 q2 q1 e2 e1 i hi)
  rw [cntR_list (fun x => decide (x ∈ hL t b)) (hL t a) a.f0.toNat 0 (by omega), List.drop_zero] at mA
  rw [cntR_list (fun x => decide (x ∈ hL t a)) (hL t b) b.f0.toNat 0 (by omega), List.drop_zero, ← both_perm _ _ nA nB] at mB
  have hdd := dd_len (hL t a) (hL t b) nA nB
  have hx : 1 ≤ (hL t a).countP (fun x => decide (x ∈ hL t b)) := by
    refine List.countP_pos_iff.2 ⟨0, ?_, ?_⟩
    · exact List.mem_iff_getElem.2 ⟨0, by omega, by rw [hL_get]; simp⟩
    · rw [decide_eq_true_iff]
      exact List.mem_iff_getElem.2 ⟨0, by omega, by rw [hL_get]; simp⟩
  refine ⟨_, by omega, mA, mB, ?_⟩
  refine Ev.shift ?_
  simp only [laws_FnSpeeds.j1]
  have hT : Ev (fun k => impl_TicksFor.f k [a, b]) (t, 0) := by
    unfold impl_TicksFor.f
    rw [iList, hli]
    simp only [Option.bind_some]
    exact Ev.pos (by trivial) (Ev.bind hTk (Ev.neg (by omega) (Ev.now _)))
  have hrl : (ml_rows (hL t a ++ hL t b)).length = (ml_dd (hL t a ++ hL t b)).length := by
    unfold ml_rows ml_keys
    rw [List.length_map, List.length_mergeSort]
  refine Ev.neg (by decide) (Ev.bind hT (Ev.bind hMg (Ev.bind (iHitT t a (by omega) (by omega) ht c1 d1) ?_)))
  refine Ev.pos (by trivial) (Ev.pos (by trivial) (Ev.pos (by trivial) (Ev.pos (by show ((hL t a).length : Int) = a.f0; omega) ?_)))
  have hne : (wrap64 (((ml_rows (hL t a ++ hL t b)).length : Int) + (((hL t a).countP (fun x => decide (x ∈ hL t b)) : Nat) : Int)) != wrap64 (a.f0 + b.f0)) = false := by
    rw [wid (by omega), wid (by omega), bne_eq_false_iff_eq]
    omega
  refine Ev.shift ?_
  simp only [laws_FnSpeeds.j2]
  rw [hne]
  refine Ev.neg (by decide) ?_
  have hsum : sumC (hL t a ++ hL t b) (ml_keys (hL t a ++ hL t b)) = a.f0 + b.f0 := by
    rw [sumC_all _ ((mlk_sorted _).imp (fun h => by omega)) _ (fun x hx => by unfold ml_keys; rw [List.mem_mergeSort, ml_dd_mem]; exact hx), List.length_append]
    omega
  have hkl : (ml_keys (hL t a ++ hL t b)).length ≤ 1000 := by
    unfold ml_keys
    rw [List.length_mergeSort]
    omega
  exact sp_l1 t a b.f0 b.f1 (hL t a ++ hL t b) (ml_keys (hL t a ++ hL t b)) (mlk_sorted _) hkl (by rw [List.length_append]; omega) (a.f0 + b.f0) hsum (by omega) (hL t a) true
    (sp_l2 t a b.f0 b.f1 (by omega) (by omega) ht (by omega) q1 e1 a.f0.toNat 0 (by omega)) (ml_keys (hL t a ++ hL t b)).length 0 0 (by omega) (by omega) (by rw [List.drop_zero]; omega)
theorem FnSpeeds : laws_FnSpeeds.Pure := by
  intro x0 x1 _ _ hw0 _ _ hw1
  refine Ev.rounds (g := fun k => laws_FnSpeeds.f k x0 x1) ?_
  unfold laws_FnSpeeds.f laws_r8Long.f
  by_cases c : (x0.length : Int) > 1048576
  · rw [if_pos c]
    simp only [Option.bind_some]
    exact Ev.pos trivial (Ev.now _)
  · rw [if_neg c]
    simp only [Option.bind_some]
    by_cases c2 : (x1.length : Int) > 1048576
    · exact Ev.pos (decide_eq_true c2) (Ev.now _)
    · refine Ev.neg (by rw [decide_eq_true_iff]; exact c2) ?_
      have hb := bytesOf8 x1 hw1
      obtain ⟨v0, f0, g0⟩ := at8 x1 hb 0 12 (by omega) (by omega)
      obtain ⟨v1, f1, g1⟩ := at8 x1 hb 1 8 (by omega) (by omega)
      obtain ⟨v2, f2, g2⟩ := at8 x1 hb 2 12 (by omega) (by omega)
      obtain ⟨v3, f3, g3⟩ := at8 x1 hb 3 8 (by omega) (by omega)
      simp only [f0, f1, f2, f3, Option.bind_some]
      rw [wid (x := 1 + v0) (by omega), wid (x := 1 + v1) (by omega), wid (x := 1 + v2) (by omega), wid (x := 1 + v3) (by omega)]
      obtain ⟨x, hx, mA, mB, hJ⟩ := sp_main ⟨1 + v0, 1 + v1⟩ ⟨1 + v2, 1 + v3⟩ (by simp only; omega) (by simp only; omega) (by simp only; omega) (by simp only; omega)
      have mG := meetG (1 + v0) (1 + v1) (1 + v2) (by omega) (by omega) (by omega)
      refine Ev.bind mA (Ev.bind mB (Ev.bind mG ?_))
      have := sp_gcd ((Nat.gcd (1 + v0).toNat (1 + v2).toNat : Nat) : Int) x hx (1 + v0) (1 + v1) (1 + v2) (1 + v3) true (1 + v2).toNat (1 + v0).toNat rfl hJ
      rw [Int.toNat_of_nonneg (by omega), Int.toNat_of_nonneg (by omega)] at this
      exact this

end Go.Proofs.Ytfnlmabpmgocmaa.Pure
