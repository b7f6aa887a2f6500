/- The pure statement of the law FnExactBestShift: what the Go functions compute, told by plain Lean functions, is what the law asks, for all arguments. No condition beyond the printed ones. -/
import Derived.Test.YtoohfhgmflgmcaaPFnExactBestShiftx7
import Derived.Test.YtoohfhgmflgmcaaXW
namespace Go.Proofs.Ytoohfhgmflgmcaa.Pure
open Go.RowKit Go.Proofs.Ytoohfhgmflgmcaa.PFnExactBestShift Go.Proofs.YtoohfhgmflgmcaaW.PrintWords Go.Proofs.YtoohfhgmflgmcaaW.PrintLast Go.Proofs.YtoohfhgmflgmcaaW.PrintMore Go.Proofs.YtoohfhgmflgmcaaXW
set_option linter.unusedVariables false
set_option linter.unusedSimpArgs false
theorem toI_l0 (l : List Int) (hl : l.length ≤ 35184372088832) (d : Nat) : ∀ (i : Nat) (acc : List Int), i + d = l.length → acc.length = l.length → acc.take i = l.take i → Ev (fun k => laws_toInt64S.l0 k l acc i) l := by
  induction d with
  | zero =>
    intro i acc h1 h2 h3
    refine Ev.shift ?_
    simp only [laws_toInt64S.l0]
    refine Ev.neg (by omega) ?_
    refine Ev.some ?_
    rw [List.take_of_length_le (by omega), List.take_of_length_le (by omega)] at h3
    rw [h3]
  | succ d ih =>
    intro i acc h1 h2 h3
    refine Ev.shift ?_
    simp only [laws_toInt64S.l0]
    refine Ev.pos (by omega) (Ev.pos (by omega) (Ev.pos (by omega) ?_))
    rw [wid (by omega), rd_get l i (by omega), Int.toNat_natCast]
    refine ih (i + 1) (acc.set i l[i]) (by omega) (by rw [List.length_set, h2]) ?_
    rw [List.take_succ_eq_append_getElem (by rw [List.length_set]; omega), List.take_succ_eq_append_getElem (by omega), List.take_set_of_le (by omega), List.getElem_set_self, h3]
theorem toI (l : List Int) (hl : l.length ≤ 35184372088832) : Ev (fun k => laws_toInt64S.f k l) l := by
  unfold laws_toInt64S.f
  refine Ev.pos (by omega) (Ev.pos (by omega) ?_)
  rw [Int.toNat_natCast]
  exact toI_l0 l hl l.length 0 _ (by omega) (by simp) (by simp)
theorem eqI_l0 (l : List Int) (hl : l.length ≤ 35184372088832) (d : Nat) : ∀ (i : Nat), i + d = l.length → Ev (fun k => laws_eqInt64S.l0 k l l i) true := by
  induction d with
  | zero =>
    intro i h1
    refine Ev.shift ?_
    simp only [laws_eqInt64S.l0]
    exact Ev.neg (by omega) (Ev.now _)
  | succ d ih =>
    intro i h1
    refine Ev.shift ?_
    simp only [laws_eqInt64S.l0]
    refine Ev.pos (by omega) (Ev.pos (by omega) (Ev.pos (by omega) (Ev.pos (by trivial) ?_)))
    rw [wid (by omega)]
    exact ih (i + 1) (by omega)
theorem eqI (l : List Int) (hl : l.length ≤ 35184372088832) : Ev (fun k => laws_eqInt64S.f k l l) true := by
  unfold laws_eqInt64S.f
  exact Ev.pos rfl (eqI_l0 l hl l.length 0 (by omega))
def risQ (l : List Int) (lo hi : Int) (j : Nat) : Bool := decide (lo ≤ l.getD j 0 ∧ l.getD j 0 ≤ hi) && (decide (j = 0) || decide (l.getD (j - 1) 0 < l.getD j 0))
theorem in_eq (a b c : Int) : spec_l00In.f a b c = some (decide (b ≤ a ∧ a ≤ c)) := by
  unfold spec_l00In.f; split <;> simp_all; omega
theorem within_eq (a b c : Int) : impl_within.f a b c = some (decide (b ≤ a ∧ a ≤ c)) := by
  unfold impl_within.f; split <;> simp_all; omega
theorem allIn_eq (l : List Int) (a b : Int) : impl_allWithin.f l a b = some (l.all fun x => decide (a ≤ x ∧ x ≤ b)) := by
  unfold impl_allWithin.f
  rw [List.not_any_eq_all_not]
  congr 2
  funext x
  simp [allP]
theorem rises_l0 (l : List Int) (lo hi : Int) (hl : l.length ≤ 35184372088832) (d : Nat) : ∀ (i : Nat), i + d = l.length → Ev (fun k => spec_l00Rises.l0 k l lo hi i) (allF (risQ l lo hi) l.length i) := by
  induction d with
  | zero =>
    intro i h1
    refine Ev.shift ?_
    simp only [spec_l00Rises.l0]
    exact Ev.neg (by omega) (Ev.some (by rw [allF_end _ (by omega)]))
  | succ d ih =>
    intro i h1
    refine Ev.shift ?_
    simp only [spec_l00Rises.l0, in_eq, Option.bind_some]
    refine Ev.pos (by omega) (Ev.pos (by omega) ?_)
    rw [rd_nat]
    by_cases hb : lo ≤ l.getD i 0 ∧ l.getD i 0 ≤ hi
    · refine Ev.pos (by simpa using hb) ?_
      cases i with
      | zero =>
        refine Ev.neg (by omega) ?_
        rw [wid (by omega), allF_yes _ (by simp only [risQ]; simp; exact hb)]
        exact ih 1 (by omega)
      | succ i =>
        refine Ev.pos (by omega) ?_
        have e1 : wrap64 (((i + 1 : Nat) : Int) - 1) = (i : Int) := by rw [wid (by omega)]; omega
        rw [e1, rd_nat]
        refine Ev.pos (by omega) (Ev.pos (by omega) ?_)
        by_cases hc : l.getD i 0 < l.getD (i + 1) 0
        · refine Ev.neg (by omega) ?_
          rw [wid (by omega), allF_yes _ (by simp only [risQ]; simp; exact ⟨hb, hc⟩)]
          exact ih (i + 2) (by omega)
        · refine Ev.pos (by omega) (Ev.some ?_)
          rw [allF_no _ (by omega) (by simp only [risQ, Nat.add_sub_cancel, decide_eq_false hc]; simp)]
    · refine Ev.neg (by simpa using hb) (Ev.some ?_)
      rw [allF_no _ (by omega) (by simp only [risQ]; rw [decide_eq_false hb]; rfl)]
theorem rises_ev (l : List Int) (lo hi : Int) (hl : l.length ≤ 35184372088832) : Ev (fun k => spec_l00Rises.f k l lo hi) (allF (risQ l lo hi) l.length 0) := by
  unfold spec_l00Rises.f
  exact rises_l0 l lo hi hl l.length 0 (by omega)
def incQ (l : List Int) (j : Nat) : Bool := decide (l.getD (j - 1) 0 < l.getD j 0)
theorem inc_l0 (l : List Int) (hl : l.length ≤ 35184372088832) (d : Nat) : ∀ (i : Nat), 1 ≤ i → l.length ≤ i + d → Ev (fun k => impl_increasing.l0 k l i) (allF (incQ l) l.length i) := by
  induction d with
  | zero =>
    intro i h0 h1
    refine Ev.shift ?_
    simp only [impl_increasing.l0]
    exact Ev.neg (by omega) (Ev.some (by rw [allF_end _ (by omega)]))
  | succ d ih =>
    intro i h0 h1
    by_cases hi : i < l.length
    · refine Ev.shift ?_
      simp only [impl_increasing.l0]
      have e1 : wrap64 ((i : Int) - 1) = ((i - 1 : Nat) : Int) := by rw [wid (by omega)]; omega
      rw [e1, rd_nat, rd_nat]
      refine Ev.pos (by omega) (Ev.pos (by omega) (Ev.pos (by omega) (Ev.pos (by omega) ?_)))
      by_cases hc : l.getD (i - 1) 0 < l.getD i 0
      · refine Ev.neg (by omega) ?_
        rw [wid (by omega), allF_yes _ (by simp only [incQ]; simpa using hc)]
        exact ih (i + 1) (by omega) (by omega)
      · refine Ev.pos (by omega) (Ev.some ?_)
        rw [allF_no _ (by omega) (by simp only [incQ]; simpa using hc)]
    · refine Ev.shift ?_
      simp only [impl_increasing.l0]
      exact Ev.neg (by omega) (Ev.some (by rw [allF_end _ (by omega)]))
theorem inc_ev (l : List Int) (hl : l.length ≤ 35184372088832) : Ev (fun k => impl_increasing.f k l) (allF (incQ l) l.length 1) := by
  unfold impl_increasing.f
  exact inc_l0 l hl l.length 1 (by omega) (by omega)
/-- The one test is the two others. -/
theorem rises_inc (l : List Int) (lo hi : Int) : (allF (incQ l) l.length 1 && l.all fun x => decide (lo ≤ x ∧ x ≤ hi)) = allF (risQ l lo hi) l.length 0 := by
  rw [Bool.eq_iff_iff, Bool.and_eq_true, allF_iff, allF_iff, all_iff_get]
  constructor
  · rintro ⟨h1, h2⟩ j hj _
    simp only [risQ, Bool.and_eq_true, Bool.or_eq_true]
    refine ⟨h2 j hj, ?_⟩
    by_cases e : j = 0
    · left; simpa using e
    · right; exact h1 j hj (by omega)
  · intro h
    refine ⟨fun j hj h1 => ?_, fun j hj => ?_⟩
    · have := h j hj (by omega)
      simp only [risQ, Bool.and_eq_true, Bool.or_eq_true] at this
      rcases this.2 with e | e
      · simp at e; omega
      · exact e
    · have := h j hj (by omega)
      simp only [risQ, Bool.and_eq_true] at this
      exact this.1
def onsetsB (l : List Int) : Bool := decide (l.length ≤ 48) && allF (risQ l 0 10000000) l.length 0
theorem sOnsets (l : List Int) (hl : l.length ≤ 35184372088832) : Ev (fun k => spec_l24Ok.f k l) (onsetsB l) := by
  unfold spec_l24Ok.f onsetsB
  by_cases h : l.length ≤ 48
  · refine Ev.pos (by omega) (Ev.bind (rises_ev l _ _ hl) (Ev.some ?_))
    simp [h]
  · refine Ev.neg (by omega) (Ev.some ?_)
    simp [h]
theorem iOnsets (l : List Int) (hl : l.length ≤ 35184372088832) : Ev (fun k => impl_ValidOnsets.f k l) (onsetsB l) := by
  unfold impl_ValidOnsets.f onsetsB
  by_cases h : l.length ≤ 48
  · refine Ev.pos (by omega) (Ev.bind (inc_ev l hl) ?_)
    rw [← rises_inc]
    simp only [allIn_eq, Option.bind_some, h, decide_true, Bool.true_and]
    cases e : allF (incQ l) l.length 1
    · exact Ev.neg (by decide) (Ev.now _)
    · exact Ev.pos rfl (Ev.now _)
  · refine Ev.neg (by omega) (Ev.some ?_)
    simp [h]
theorem mx_abs (a : Int) (h : -9223372036854775807 ≤ a ∧ a ≤ 9223372036854775807) : mx a (wrap64 (-a)) = (a.natAbs : Int) := by
  rw [wid (by omega)]; unfold mx; split <;> omega

theorem abs_i (a : Int) (h : -9223372036854775807 ≤ a ∧ a ≤ 9223372036854775807) : impl_abs.f a = some (a.natAbs : Int) := by
  unfold impl_abs.f; rw [mx_abs a h]
theorem abs_s (a : Int) (h : -9223372036854775807 ≤ a ∧ a ≤ 9223372036854775807) : spec_l04Abs.f a = some (a.natAbs : Int) := by
  unfold spec_l04Abs.f spec_l00Max.f
  rw [wid (by omega)]
  split <;> simp <;> omega
theorem onsetsB_len {l : List Int} (h : onsetsB l = true) : l.length ≤ 48 := by
  unfold onsetsB at h; simp only [Bool.and_eq_true, decide_eq_true_eq] at h; exact h.1
theorem onsetsB_get {l : List Int} (h : onsetsB l = true) (j : Nat) (hj : j < l.length) : 0 ≤ l.getD j 0 ∧ l.getD j 0 ≤ 10000000 := by
  unfold onsetsB at h; simp only [Bool.and_eq_true] at h
  have := (allF_iff _).1 h.2 j hj (Nat.zero_le _)
  simp only [risQ, Bool.and_eq_true] at this
  exact of_decide_eq_true this.1
theorem onsetsB_lt {l : List Int} (h : onsetsB l = true) (j : Nat) (hj : j + 1 < l.length) : l.getD j 0 < l.getD (j + 1) 0 := by
  unfold onsetsB at h; simp only [Bool.and_eq_true] at h
  have := (allF_iff _).1 h.2 (j + 1) hj (Nat.zero_le _)
  simp only [risQ, Bool.and_eq_true, Bool.or_eq_true, Nat.add_sub_cancel] at this
  rcases this.2 with e | e
  · exact absurd (of_decide_eq_true e) (by omega)
  · exact of_decide_eq_true e
theorem onsetsB_rd {l : List Int} (h : onsetsB l = true) (x : Int) : 0 ≤ rd l x ∧ rd l x ≤ 10000000 := by
  unfold rd
  by_cases hx : x.toNat < l.length
  · exact onsetsB_get h _ hx
  · rw [List.getD_eq_getElem?_getD, List.getElem?_eq_none (by omega)]; simp
def shL (b : Int) (l : List Int) : List Int := l.map fun x => wrap64 (x + b)
theorem shL_len (b : Int) (l : List Int) : (shL b l).length = l.length := by simp [shL]
theorem shL_get (b : Int) (l : List Int) (i : Nat) (h : i < l.length) : (shL b l).getD i 0 = wrap64 (l.getD i 0 + b) := by
  simp [shL, List.getD_eq_getElem?_getD, h]
theorem take_snocD (l : List Int) (i : Nat) (h : i < l.length) : l.take i ++ [l.getD i 0] = l.take (i + 1) := by
  rw [List.take_add_one, List.getElem?_eq_getElem h, List.getD_eq_getElem?_getD, List.getElem?_eq_getElem h]; rfl
theorem ext_getD (a b : List Int) (hl : a.length = b.length) (h : ∀ j, j < a.length → a.getD j 0 = b.getD j 0) : a = b := by
  refine List.ext_getElem hl fun j h1 h2 => ?_
  have := h j h1
  rwa [List.getD_eq_getElem?_getD, List.getElem?_eq_getElem h1, List.getD_eq_getElem?_getD, List.getElem?_eq_getElem h2] at this
theorem getD_set' (l : List Int) (i j : Nat) (v : Int) (h : i < l.length) : (l.set i v).getD j 0 = if i = j then v else l.getD j 0 := by
  rw [List.getD_eq_getElem?_getD, List.getElem?_set, List.getD_eq_getElem?_getD]
  split
  · rfl
  · rfl
theorem sShift_l0 (b : Int) (l : List Int) (hl : l.length ≤ 35184372) (d : Nat) : ∀ (i : Nat), i + d = l.length → Ev (fun k => spec_l24Shift.l0 k l b ((shL b l).take i) i) (shL b l) := by
  have hL := shL_len b l
  induction d with
  | zero =>
    intro i hi
    refine Ev.shift ?_
    simp only [spec_l24Shift.l0]
    refine Ev.neg (by omega) ?_
    rw [List.take_of_length_le (by omega)]
    exact Ev.now _
  | succ d ih =>
    intro i hi
    have hg := shL_get b l i (by omega)
    have ht := take_snocD (shL b l) i (by omega)
    have hk : ((shL b l).take i).length ≤ l.length := by rw [List.length_take]; omega
    refine Ev.shift ?_
    simp only [spec_l24Shift.l0]
    refine Ev.pos (by omega) (Ev.pos (by omega) (Ev.pos (by omega) ?_))
    rw [rd_nat, ← hg, ht, show wrap64 ((i : Int) + 1) = ((i + 1 : Nat) : Int) by rw [wid (by omega)]; rfl]
    exact ih (i + 1) (by omega)
theorem sShift (b : Int) (l : List Int) (hl : l.length ≤ 35184372) : Ev (fun k => spec_l24Shift.f k l b) (shL b l) :=
  sShift_l0 b l hl l.length 0 (by omega)
theorem iShift_l0 (b : Int) (l : List Int) (hl : l.length ≤ 35184372) (d : Nat) : ∀ (i : Nat) (acc : List Int), i + d = l.length → acc.length = l.length → (∀ j, j < i → acc.getD j 0 = (shL b l).getD j 0) → (∀ j, i ≤ j → acc.getD j 0 = l.getD j 0) → Ev (fun k => impl_shiftedBy.l0 k b acc (l.length : Int) i) (shL b l) := by
  have hL := shL_len b l
  induction d with
  | zero =>
    intro i acc hi ha h1 h2
    refine Ev.shift ?_
    simp only [impl_shiftedBy.l0]
    refine Ev.neg (by omega) ?_
    rw [ext_getD acc (shL b l) (by omega) (fun j hj => h1 j (by omega))]
    exact Ev.now _
  | succ d ih =>
    intro i acc hi ha h1 h2
    refine Ev.shift ?_
    simp only [impl_shiftedBy.l0]
    refine Ev.pos (by omega) (Ev.pos (by omega) (Ev.pos (by omega) ?_))
    rw [rd_nat, Int.toNat_natCast, show wrap64 ((i : Int) + 1) = ((i + 1 : Nat) : Int) by rw [wid (by omega)]; rfl]
    refine ih (i + 1) _ (by omega) (by rw [List.length_set]; exact ha) (fun j hj => ?_) (fun j hj => ?_)
    · rw [getD_set' acc i j _ (by omega)]
      split
      · rename_i e; subst e; rw [h2 i (Nat.le_refl _), shL_get b l i (by omega)]
      · exact h1 j (by omega)
    · rw [getD_set' acc i j _ (by omega), if_neg (by omega)]
      exact h2 j (by omega)
theorem iShift (b : Int) (l : List Int) (hl : l.length ≤ 35184372) : Ev (fun k => impl_shiftedBy.f k l b) (shL b l) := by
  unfold impl_shiftedBy.f slices_Clone_int64_int64.f
  rw [if_pos (by omega)]
  simp only [Option.bind_some]
  exact iShift_l0 b l hl l.length 0 l (by omega) rfl (fun j hj => by omega) (fun j _ => rfl)
def alN (o : Nat → Int) (b miss : Int) (nx : Nat → Int) (k m : Nat) : Int := miss * ((m : Int) - k) + (((o m - b).natAbs : Nat) : Int) + nx (m + 1)
theorem al_in_succ (o : Nat → Int) (b miss : Int) (nx : Nat → Int) (M k j : Nat) : al_in o b miss nx M k (j + 1) = if alN o b miss nx k (M - 1 - j) ≤ (al_in o b miss nx M k j).1 then (alN o b miss nx k (M - 1 - j), ((M - 1 - j : Nat) : Int)) else al_in o b miss nx M k j := rfl
theorem alN_succ (o : Nat → Int) (b miss : Int) (nx : Nat → Int) (k m : Nat) : alN o b miss nx k m = alN o b miss nx (k + 1) m + miss := by
  unfold alN
  rw [show ((k + 1 : Nat) : Int) = (k : Int) + 1 from rfl, show (m : Int) - k = ((m : Int) - (k + 1)) + 1 by omega, Int.mul_add, Int.mul_one]
  omega
theorem alN_self (o : Nat → Int) (b miss : Int) (nx : Nat → Int) (k : Nat) : alN o b miss nx k k = (((o k - b).natAbs : Nat) : Int) + nx (k + 1) := by
  unfold alN
  rw [Int.sub_self, Int.mul_zero, Int.zero_add]
/-- The one-step law. -/
theorem al_rel {o : Nat → Int} {b miss : Int} {nx : Nat → Int} {M k : Nat} (hk : nx k ≤ nx (k + 1) + miss) : ∀ j, (al_in o b miss nx M k j).1 = min (miss + nx k) ((al_in o b miss nx M (k + 1) j).1 + miss) := by
  intro j
  induction j with
  | zero =>
    show miss + nx k = min (miss + nx k) (miss + nx (k + 1) + miss)
    omega
  | succ j ih =>
    rw [al_in_succ, al_in_succ, alN_succ]
    split <;> split <;> (try dsimp only) <;> omega
theorem al_row_zero (b o : Nat → Int) (miss : Int) (N M k : Nat) : al_row b o miss N M 0 k = miss * ((M : Int) - k) := rfl
theorem al_row_succ (b o : Nat → Int) (miss : Int) (N M r k : Nat) : al_row b o miss N M (r + 1) k = (al_in o (b (N - 1 - r)) miss (al_row b o miss N M r) M k (M - k)).1 := rfl
theorem al_row_last (b o : Nat → Int) (miss : Int) (N M r : Nat) : al_row b o miss N M (r + 1) M = miss + al_row b o miss N M r M := by
  rw [al_row_succ, Nat.sub_self]; rfl
theorem al_row_step (b o : Nat → Int) (miss : Int) (N M : Nat) : ∀ r, (∀ k, k < M → al_row b o miss N M r k ≤ al_row b o miss N M r (k + 1) + miss) ∧
    (∀ k, k < M → al_row b o miss N M (r + 1) k = min (min (al_row b o miss N M r k + miss) (al_row b o miss N M (r + 1) (k + 1) + miss)) (al_row b o miss N M r (k + 1) + (((o k - b (N - 1 - r)).natAbs : Nat) : Int))) := by
  have main : ∀ r, (∀ k, k < M → al_row b o miss N M r k ≤ al_row b o miss N M r (k + 1) + miss) → (∀ k, k < M → al_row b o miss N M (r + 1) k = min (min (al_row b o miss N M r k + miss) (al_row b o miss N M (r + 1) (k + 1) + miss)) (al_row b o miss N M r (k + 1) + (((o k - b (N - 1 - r)).natAbs : Nat) : Int))) := by
    intro r h k hk
    have e1 : M - k = (M - (k + 1)) + 1 := by omega
    have e2 : M - 1 - (M - (k + 1)) = k := by omega
    rw [al_row_succ, al_row_succ, e1, al_in_succ, e2, alN_self, al_rel (h k hk)]
    split <;> simp only [al_rel (h k hk)] <;> omega
  intro r
  induction r with
  | zero =>
    have h0 : ∀ k, k < M → al_row b o miss N M 0 k ≤ al_row b o miss N M 0 (k + 1) + miss := by
      intro k hk
      rw [al_row_zero, al_row_zero, show (M : Int) - k = ((M : Int) - ((k + 1 : Nat) : Int)) + 1 by omega, Int.mul_add, Int.mul_one]
      exact Int.le_refl _
    exact ⟨h0, main 0 h0⟩
  | succ r ih =>
    have h1 : ∀ k, k < M → al_row b o miss N M (r + 1) k ≤ al_row b o miss N M (r + 1) (k + 1) + miss := by
      intro k hk
      rw [ih.2 k hk]
      omega
    exact ⟨h1, main (r + 1) h1⟩
/-- What the choice is: the first onset that makes the cost, or none. -/
theorem al_ch_in (o : Nat → Int) (b miss : Int) (nx : Nat → Int) (M k : Nat) : ∀ j, j ≤ M → ((al_in o b miss nx M k j).2 = -1 ∧ ∀ m, M - j ≤ m → m < M → (al_in o b miss nx M k j).1 < alN o b miss nx k m) ∨
    (∃ m, M - j ≤ m ∧ m < M ∧ (al_in o b miss nx M k j).2 = (m : Int) ∧ alN o b miss nx k m = (al_in o b miss nx M k j).1 ∧ ∀ q, M - j ≤ q → q < m → (al_in o b miss nx M k j).1 < alN o b miss nx k q) := by
  intro j
  induction j with
  | zero => intro _; exact .inl ⟨rfl, fun m h1 h2 => by omega⟩
  | succ j ih =>
    intro hj
    rw [al_in_succ]
    split
    · exact .inr ⟨M - 1 - j, by omega, by omega, rfl, rfl, fun q h1 h2 => by omega⟩
    · rename_i h
      have key : ∀ q, M - (j + 1) ≤ q → M - j ≤ q ∨ q = M - 1 - j := fun q hq => by omega
      rcases ih (by omega) with ⟨h1, h2⟩ | ⟨m, h1, h2, h3, h4, h5⟩
      · refine .inl ⟨h1, fun q a c => ?_⟩
        rcases key q a with h6 | rfl
        · exact h2 q h6 c
        · omega
      · refine .inr ⟨m, by omega, h2, h3, h4, fun q a c => ?_⟩
        rcases key q a with h6 | rfl
        · exact h5 q h6 c
        · omega
theorem al_mulP {a x : Int} (h0 : 0 ≤ a) (h1 : a ≤ 1000000000) (h2 : 0 ≤ x) (h3 : x ≤ 2000) : 0 ≤ a * x ∧ a * x ≤ 2000000000000 := by
  refine ⟨Int.mul_nonneg h0 h2, ?_⟩
  have := Int.mul_le_mul h1 h3 h2 (by omega : (0:Int) ≤ 1000000000)
  omega
theorem al_in_bP {o : Nat → Int} {b miss : Int} {nx : Nat → Int} {M k : Nat} (h0 : 0 ≤ miss) (hn : ∀ q, q ≤ M → 0 ≤ nx q) (hk : k ≤ M) : ∀ j, j ≤ M - k → 0 ≤ (al_in o b miss nx M k j).1 ∧ (al_in o b miss nx M k j).1 ≤ miss + nx k ∧ ((al_in o b miss nx M k j).2 = -1 ∨ ((k : Int) ≤ (al_in o b miss nx M k j).2 ∧ (al_in o b miss nx M k j).2 < M)) := by
  intro j
  induction j with
  | zero =>
    intro _
    have := hn k hk
    exact ⟨by show 0 ≤ miss + nx k; omega, Int.le_refl _, .inl rfl⟩
  | succ j ih =>
    intro hj
    have ih := ih (by omega)
    simp only [al_in]
    split
    · rename_i h
      refine ⟨?_, Int.le_trans h ih.2.1, .inr ⟨by omega, by omega⟩⟩
      have h1 : 0 ≤ miss * (((M - 1 - j : Nat) : Int) - k) := Int.mul_nonneg h0 (by omega)
      have h2 := hn (M - 1 - j + 1) (by omega)
      omega
    · exact ih
theorem al_row_bP (b o : Nat → Int) (miss : Int) (N M : Nat) (h0 : 0 ≤ miss) : ∀ r k, k ≤ M → 0 ≤ al_row b o miss N M r k ∧ al_row b o miss N M r k ≤ miss * M + miss * r := by
  intro r
  induction r with
  | zero =>
    intro k hk
    refine ⟨Int.mul_nonneg h0 (by omega), ?_⟩
    show miss * ((M : Int) - k) ≤ _
    have := Int.mul_le_mul_of_nonneg_left (show (M : Int) - k ≤ M by omega) h0
    rw [Int.ofNat_zero, Int.mul_zero]
    omega
  | succ r ih =>
    intro k hk
    have hb := al_in_bP (o := o) (b := b (N - 1 - r)) (nx := al_row b o miss N M r) h0 (fun q hq => (ih q hq).1) hk (M - k) (Nat.le_refl _)
    refine ⟨hb.1, Int.le_trans hb.2.1 ?_⟩
    have := (ih k hk).2
    rw [show ((r + 1 : Nat) : Int) = (r : Int) + 1 from rfl, Int.mul_add, Int.mul_one]
    omega
theorem al_row_maxP {b o : Nat → Int} {miss : Int} {N M : Nat} (h0 : 0 ≤ miss) (h1 : miss ≤ 1000000000) (hM : M ≤ 1000) {r k : Nat} (hr : r ≤ 1000) (hk : k ≤ M) : 0 ≤ al_row b o miss N M r k ∧ al_row b o miss N M r k ≤ 4000000000000 := by
  have h := al_row_bP b o miss N M h0 r k hk
  have a := (al_mulP h0 h1 (show (0 : Int) ≤ M by omega) (by omega)).2
  have c := (al_mulP h0 h1 (show (0 : Int) ≤ r by omega) (by omega)).2
  exact ⟨h.1, by omega⟩
def pp (i k : Nat) : Nat → Nat → Bool := fun i' k' => decide (i < i' ∨ (i' = i ∧ k ≤ k'))
def tb (N M : Nat) (C : Nat → Nat → Int) (p : Nat → Nat → Bool) : List (List Int) := (List.range (N + 1)).map fun i => (List.range (M + 1)).map fun k => if p i k then C i k else 0
theorem tb_len (N M : Nat) (C : Nat → Nat → Int) (p : Nat → Nat → Bool) : (tb N M C p).length = N + 1 := by simp [tb]
theorem tb_row (N M : Nat) (C : Nat → Nat → Int) (p : Nat → Nat → Bool) (i : Nat) (h : i ≤ N) : rd_L1 (tb N M C p) (i : Int) = (List.range (M + 1)).map fun k => if p i k then C i k else 0 := by
  unfold rd_L1 tb
  rw [Int.toNat_natCast, List.getD_eq_getElem?_getD, List.getElem?_map, List.getElem?_range (by omega)]
  rfl
theorem tb_rowlen (N M : Nat) (C : Nat → Nat → Int) (p : Nat → Nat → Bool) (i : Nat) (h : i ≤ N) : (rd_L1 (tb N M C p) (i : Int)).length = M + 1 := by rw [tb_row N M C p i h]; simp
theorem tb_at (N M : Nat) (C : Nat → Nat → Int) (p : Nat → Nat → Bool) (i k : Nat) (h : i ≤ N) (hk : k ≤ M) (hp : p i k = true) : rd (rd_L1 (tb N M C p) (i : Int)) (k : Int) = C i k := by
  rw [tb_row N M C p i h]
  unfold rd
  rw [Int.toNat_natCast, List.getD_eq_getElem?_getD, List.getElem?_map, List.getElem?_range (by omega)]
  simp [hp]
theorem tb_congr (N M : Nat) (C : Nat → Nat → Int) (p q : Nat → Nat → Bool) (h : ∀ i k, i ≤ N → k ≤ M → p i k = q i k) : tb N M C p = tb N M C q := by
  unfold tb
  refine List.map_congr_left fun i hi => List.map_congr_left fun k hk => ?_
  rw [h i k (by have := List.mem_range.1 hi; omega) (by have := List.mem_range.1 hk; omega)]
theorem tb_set (N M : Nat) (C : Nat → Nat → Int) (i k : Nat) (h : i ≤ N) (hk : k ≤ M) (v : Int) (hv : v = C i k) : (tb N M C (pp i (k + 1))).set i ((rd_L1 (tb N M C (pp i (k + 1))) (i : Int)).set k v) = tb N M C (pp i k) := by
  subst hv
  rw [tb_row N M C _ i h]
  apply List.ext_getElem?
  intro x
  rw [List.getElem?_set]
  unfold tb
  by_cases hx : x < N + 1
  · rw [List.getElem?_map, List.getElem?_map, List.getElem?_range hx]
    by_cases e : i = x
    · subst e
      rw [if_pos rfl, if_pos (by simp; omega)]
      simp only [Option.map_some, Option.some.injEq]
      apply List.ext_getElem?
      intro y
      rw [List.getElem?_set]
      by_cases hy : y < M + 1
      · rw [List.getElem?_map, List.getElem?_map, List.getElem?_range hy]
        by_cases e2 : k = y
        · subst e2
          rw [if_pos rfl, if_pos (by simp; omega)]
          simp [pp]
        · rw [if_neg e2]
          have : pp i (k + 1) i y = pp i k i y := by unfold pp; simp; omega
          simp only [Option.map_some, this]
      · rw [List.getElem?_eq_none (by simp; omega), List.getElem?_eq_none (by simp; omega)]
        split
        · split
          · simp at *; omega
          · rfl
        · rfl
    · rw [if_neg e]
      have : ∀ y, pp i (k + 1) x y = pp i k x y := fun y => by unfold pp; rw [Bool.eq_iff_iff]; simp only [decide_eq_true_eq]; omega
      simp only [Option.map_some, this]
  · rw [if_neg (by omega), List.getElem?_eq_none (by simp; omega), List.getElem?_eq_none (by simp; omega)]
theorem min_eq (a b : Int) : spec_l00Min.f a b = some (min a b) := by
  unfold spec_l00Min.f
  split <;> congr 1 <;> omega
/-- The bounds of a table of costs, and its laws. -/
structure IsC (b o : Nat → Int) (miss : Int) (N M : Nat) (C : Nat → Nat → Int) : Prop where
  bd : ∀ i k, i ≤ N → k ≤ M → 0 ≤ C i k ∧ C i k ≤ 4000000000000
  last : ∀ k, k ≤ M → C N k = miss * ((M : Int) - k)
  edge : ∀ i, i < N → C i M = C (i + 1) M + miss
  step : ∀ i k, i < N → k < M → C i k = min (min (C (i + 1) k + miss) (C i (k + 1) + miss)) (C (i + 1) (k + 1) + (((b i - o k).natAbs : Nat) : Int))
theorem isC (b o : Nat → Int) (miss : Int) (N M : Nat) (h0 : 0 ≤ miss) (h1 : miss ≤ 1000000000) (hN : N ≤ 1000) (hM : M ≤ 1000) : IsC b o miss N M (fun i k => al_row b o miss N M (N - i) k) := by
  refine ⟨fun i k hi hk => al_row_maxP h0 h1 hM (by omega) hk, fun k hk => ?_, fun i hi => ?_, fun i k hi hk => ?_⟩
  · show al_row b o miss N M (N - N) k = _
    rw [Nat.sub_self]; rfl
  · show al_row b o miss N M (N - i) M = al_row b o miss N M (N - (i + 1)) M + miss
    rw [show N - i = (N - (i + 1)) + 1 by omega, al_row_last]
    omega
  · show al_row b o miss N M (N - i) k = min (min (al_row b o miss N M (N - (i + 1)) k + miss) (al_row b o miss N M (N - i) (k + 1) + miss)) (al_row b o miss N M (N - (i + 1)) (k + 1) + _)
    rw [show N - i = (N - (i + 1)) + 1 by omega, (al_row_step b o miss N M (N - (i + 1))).2 k hk, show N - 1 - (N - (i + 1)) = i by omega, show (b i - o k).natAbs = (o k - b i).natAbs by omega]
theorem sCosts_l2 (l0 l1 : List Int) (miss : Int) (C : Nat → Nat → Int) (hC : IsC (l0.getD · 0) (l1.getD · 0) miss l0.length l1.length C) (h0 : 0 ≤ miss) (h1 : miss ≤ 1000000000) (hN : l0.length ≤ 1000) (hM : l1.length ≤ 1000) (hv0 : ∀ j, 0 ≤ l0.getD j 0 ∧ l0.getD j 0 ≤ 1000000000) (hv1 : ∀ j, 0 ≤ l1.getD j 0 ∧ l1.getD j 0 ≤ 1000000000) (i : Nat) (hi : i ≤ l0.length) (R : List (List Int))
    (next : Ev (fun f => spec_l24Costs.l1 f l0 l1 miss (tb l0.length l1.length C (pp i 0)) ((i : Int) - 1)) R) : ∀ k, k ≤ l1.length + 1 → Ev (fun f => spec_l24Costs.l2 f l0 l1 miss (tb l0.length l1.length C (pp i k)) (i : Int) ((k : Int) - 1)) R := by
  intro k
  induction k with
  | zero =>
    intro _
    refine Ev.shift ?_
    simp only [spec_l24Costs.l2]
    refine Ev.neg (by omega) ?_
    rw [wid (by omega)]
    exact next
  | succ k ih =>
    intro hk
    have ih := ih (by omega)
    have ek : ((k + 1 : Nat) : Int) - 1 = (k : Int) := by omega
    have w1 : wrap64 ((k : Int) - 1) = (k : Int) - 1 := wid (by omega)
    have tl := tb_len l0.length l1.length C (pp i (k + 1))
    have rl := tb_rowlen l0.length l1.length C (pp i (k + 1)) i hi
    refine Ev.shift ?_
    simp only [spec_l24Costs.l2, ek, w1]
    refine Ev.pos (by omega) ?_
    by_cases hiN : i = l0.length
    · have w2 : wrap64 ((l1.length : Int) - k) = (l1.length : Int) - k := wid (by omega)
      have hm := al_mulP h0 h1 (show 0 ≤ (l1.length : Int) - k by omega) (by omega)
      have w3 : wrap64 (miss * ((l1.length : Int) - k)) = miss * ((l1.length : Int) - k) := wid (by omega)
      refine Ev.pos (by omega) (Ev.pos (by omega) (Ev.pos (by omega) (Ev.pos (by omega) (Ev.pos (by omega) ?_))))
      rw [w2, w3]
      clear w1 w2 w3
      have e := tb_set l0.length l1.length C i k hi (by omega) (miss * ((l1.length : Int) - k)) (by rw [hiN, hC.last k (by omega)])
      simp only [Int.toNat_natCast]
      rw [e]
      exact ih
    · have hi1 : i < l0.length := by omega
      have w2 : wrap64 ((i : Int) + 1) = ((i + 1 : Nat) : Int) := by rw [wid (by omega)]; rfl
      have rl1 := tb_rowlen l0.length l1.length C (pp i (k + 1)) (i + 1) (by omega)
      have c1 := hC.bd (i + 1) k (by omega) (by omega)
      have w3 : wrap64 (C (i + 1) k + miss) = C (i + 1) k + miss := wid (by omega)
      refine Ev.neg (by omega) ?_
      rw [w2, tb_at l0.length l1.length C _ (i + 1) k (by omega) (by omega) (by simp [pp]), w3]
      clear w1 w2 w3
      refine Ev.pos (by omega) (Ev.pos (by omega) (Ev.pos (by omega) (Ev.pos (by omega) ?_)))
      by_cases hkM : k < l1.length
      · have w4 : wrap64 ((k : Int) + 1) = ((k + 1 : Nat) : Int) := by rw [wid (by omega)]; rfl
        have c2 := hC.bd i (k + 1) (by omega) (by omega)
        have c3 := hC.bd (i + 1) (k + 1) (by omega) (by omega)
        have v0 := hv0 i
        have v1 := hv1 k
        have w5 : wrap64 (C i (k + 1) + miss) = C i (k + 1) + miss := wid (by omega)
        have w6 : wrap64 (l0.getD i 0 - l1.getD k 0) = l0.getD i 0 - l1.getD k 0 := wid (by omega)
        have w7 : wrap64 (C (i + 1) (k + 1) + (((l0.getD i 0 - l1.getD k 0).natAbs : Nat) : Int)) = C (i + 1) (k + 1) + (((l0.getD i 0 - l1.getD k 0).natAbs : Nat) : Int) := wid (by omega)
        have ab := abs_s (l0.getD i 0 - l1.getD k 0) (by omega)
        refine Ev.pos (by omega) ?_
        simp only [w4, rd_nat, w6, ab, tb_at l0.length l1.length C _ i (k + 1) hi (show k + 1 ≤ l1.length by omega) (show pp i (k + 1) i (k + 1) = true by simp [pp]), tb_at l0.length l1.length C _ (i + 1) (k + 1) (show i + 1 ≤ l0.length by omega) (show k + 1 ≤ l1.length by omega) (show pp i (k + 1) (i + 1) (k + 1) = true by simp [pp]), w5, w7, min_eq, Option.bind_some]
        clear w4 w5 w6 w7 ab
        refine Ev.pos (by omega) (Ev.pos (by omega) (Ev.pos (by omega) (Ev.pos (by omega) (Ev.pos (by omega) (Ev.pos (by omega) (Ev.pos (by omega) ?_))))))
        have e := tb_set l0.length l1.length C i k hi (by omega) _ (hC.step i k hi1 hkM).symm
        simp only [Int.toNat_natCast]
        rw [e]
        exact ih
      · obtain rfl : k = l1.length := by omega
        refine Ev.neg (by omega) (Ev.pos (by omega) (Ev.pos (by omega) (Ev.pos (by omega) ?_)))
        have e := tb_set l0.length l1.length C i l1.length hi (by omega) _ (hC.edge i hi1).symm
        simp only [Int.toNat_natCast]
        rw [e]
        exact ih
theorem sCosts_l1 (l0 l1 : List Int) (miss : Int) (C : Nat → Nat → Int) (hC : IsC (l0.getD · 0) (l1.getD · 0) miss l0.length l1.length C) (h0 : 0 ≤ miss) (h1 : miss ≤ 1000000000) (hN : l0.length ≤ 1000) (hM : l1.length ≤ 1000) (hv0 : ∀ j, 0 ≤ l0.getD j 0 ∧ l0.getD j 0 ≤ 1000000000) (hv1 : ∀ j, 0 ≤ l1.getD j 0 ∧ l1.getD j 0 ≤ 1000000000) : ∀ i, i ≤ l0.length + 1 → Ev (fun f => spec_l24Costs.l1 f l0 l1 miss (tb l0.length l1.length C (pp i 0)) ((i : Int) - 1)) (tb l0.length l1.length C (pp 0 0)) := by
  intro i
  induction i with
  | zero =>
    intro _
    refine Ev.shift ?_
    simp only [spec_l24Costs.l1]
    exact Ev.neg (by omega) (Ev.now _)
  | succ i ih =>
    intro hi
    have ek : ((i + 1 : Nat) : Int) - 1 = (i : Int) := by omega
    refine Ev.shift ?_
    simp only [spec_l24Costs.l1, ek]
    refine Ev.pos (by omega) ?_
    have := sCosts_l2 l0 l1 miss C hC h0 h1 hN hM hv0 hv1 i (by omega) _ (ih (by omega)) (l1.length + 1) (Nat.le_refl _)
    rw [show ((l1.length + 1 : Nat) : Int) - 1 = (l1.length : Int) by omega] at this
    rw [tb_congr l0.length l1.length C (pp (i + 1) 0) (pp i (l1.length + 1)) (fun x y hx hy => by unfold pp; rw [Bool.eq_iff_iff]; simp only [decide_eq_true_eq]; omega)]
    exact this
theorem sCosts_l0 (l0 l1 : List Int) (miss : Int) (C : Nat → Nat → Int) (hC : IsC (l0.getD · 0) (l1.getD · 0) miss l0.length l1.length C) (h0 : 0 ≤ miss) (h1 : miss ≤ 1000000000) (hN : l0.length ≤ 1000) (hM : l1.length ≤ 1000) (hv0 : ∀ j, 0 ≤ l0.getD j 0 ∧ l0.getD j 0 ≤ 1000000000) (hv1 : ∀ j, 0 ≤ l1.getD j 0 ∧ l1.getD j 0 ≤ 1000000000) (d : Nat) : ∀ i, i + d = l0.length + 1 → Ev (fun f => spec_l24Costs.l0 f l0 l1 miss (List.replicate i (List.replicate (l1.length + 1) 0)) (i : Int)) (tb l0.length l1.length C (pp 0 0)) := by
  induction d with
  | zero =>
    intro i hi
    obtain rfl : i = l0.length + 1 := by omega
    refine Ev.shift ?_
    simp only [spec_l24Costs.l0]
    refine Ev.neg (by omega) ?_
    have := sCosts_l1 l0 l1 miss C hC h0 h1 hN hM hv0 hv1 (l0.length + 1) (Nat.le_refl _)
    rw [show ((l0.length + 1 : Nat) : Int) - 1 = (l0.length : Int) by omega] at this
    have e : tb l0.length l1.length C (pp (l0.length + 1) 0) = List.replicate (l0.length + 1) (List.replicate (l1.length + 1) 0) := by
      unfold tb
      rw [List.eq_replicate_iff]
      refine ⟨by simp, fun x hx => ?_⟩
      obtain ⟨y, hy, rfl⟩ := List.mem_map.1 hx
      rw [List.eq_replicate_iff]
      refine ⟨by simp, fun z hz => ?_⟩
      obtain ⟨q, hq, rfl⟩ := List.mem_map.1 hz
      have : pp (l0.length + 1) 0 y q = false := by
        have := List.mem_range.1 hy
        unfold pp; simp; omega
      rw [this]; rfl
    rw [e] at this
    exact this
  | succ d ih =>
    intro i hi
    have w1 : wrap64 ((l1.length : Int) + 1) = ((l1.length + 1 : Nat) : Int) := by rw [wid (by omega)]; rfl
    have w2 : wrap64 ((i : Int) + 1) = ((i + 1 : Nat) : Int) := by rw [wid (by omega)]; rfl
    refine Ev.shift ?_
    simp only [spec_l24Costs.l0, w1, w2, Int.toNat_natCast]
    clear w1 w2
    refine Ev.pos (by omega) (Ev.pos (by omega) (Ev.pos (by omega) (Ev.pos (by rw [List.length_replicate]; omega) ?_)))
    have := ih (i + 1) (by omega)
    rw [List.replicate_succ'] at this
    exact this
theorem sCosts (l0 l1 : List Int) (miss : Int) (C : Nat → Nat → Int) (hC : IsC (l0.getD · 0) (l1.getD · 0) miss l0.length l1.length C) (h0 : 0 ≤ miss) (h1 : miss ≤ 1000000000) (hN : l0.length ≤ 1000) (hM : l1.length ≤ 1000) (hv0 : ∀ j, 0 ≤ l0.getD j 0 ∧ l0.getD j 0 ≤ 1000000000) (hv1 : ∀ j, 0 ≤ l1.getD j 0 ∧ l1.getD j 0 ≤ 1000000000) : Ev (fun f => spec_l24Costs.f f l0 l1 miss) (tb l0.length l1.length C (pp 0 0)) := by
  unfold spec_l24Costs.f
  exact sCosts_l0 l0 l1 miss C hC h0 h1 hN hM hv0 hv1 (l0.length + 1) 0 (by omega)
def alC (l0 l1 : List Int) (miss : Int) : Nat → Nat → Int := fun i k => al_row (l0.getD · 0) (l1.getD · 0) miss l0.length l1.length (l0.length - i) k
def alT (l0 l1 : List Int) (miss : Int) : List (List Int) := tb l0.length l1.length (alC l0 l1 miss) (pp 0 0)
def alR (l0 l1 : List Int) (miss : Int) : List Int := al_m (l0.getD · 0) (l1.getD · 0) miss l0.length l1.length
def alX (l0 l1 : List Int) (miss : Int) (i : Nat) : Int := al_nx (l0.getD · 0) (l1.getD · 0) miss l0.length l1.length i
theorem alT_at (l0 l1 : List Int) (miss : Int) (i k : Nat) (hi : i ≤ l0.length) (hk : k ≤ l1.length) : rd (rd_L1 (alT l0 l1 miss) (i : Int)) (k : Int) = alC l0 l1 miss i k := tb_at _ _ _ _ i k hi hk (by unfold pp; simp; omega)
theorem ons_al {l : List Int} (h : onsetsB l = true) : l.length ≤ 1000 ∧ ∀ j, 0 ≤ l.getD j 0 ∧ l.getD j 0 ≤ 1000000000 := by
  have h48 := onsetsB_len h
  refine ⟨by omega, fun j => ?_⟩
  by_cases hj : j < l.length
  · have := onsetsB_get h j hj
    exact ⟨this.1, by omega⟩
  · rw [List.getD_eq_getElem?_getD, List.getElem?_eq_none (by omega)]
    exact ⟨by decide, by decide⟩
theorem ons_ok_al {l : List Int} (h : onsetsB l = true) : al_ok l = true := by
  have h48 := onsetsB_len h
  simp only [al_ok, Bool.and_eq_true, decide_eq_true_eq, List.all_eq_true]
  refine ⟨by omega, fun x hx => ?_⟩
  obtain ⟨j, hj, rfl⟩ := List.getElem_of_mem hx
  have := (ons_al h).2 j
  rwa [List.getD_eq_getElem?_getD, List.getElem?_eq_getElem hj] at this
theorem iAlign (l0 l1 : List Int) (miss : Int) (h : onsetsB l0 = true) (h' : onsetsB l1 = true) (h0 : 0 ≤ miss) (h1 : miss ≤ 1000000) : impl_align.f l0 l1 miss = some (alR l0 l1 miss, alC l0 l1 miss 0 0) := by
  unfold impl_align.f
  rw [if_pos ⟨ons_ok_al h, ons_ok_al h', h0, by omega⟩]
  rfl
def bsS (l0 l1 : List Int) (miss y : Int) (s : Int × Int) : Int × Int := if onsetsB (shL y l1) = true then (if alC l0 (shL y l1) miss 0 0 < s.2 then (y, alC l0 (shL y l1) miss 0 0) else s) else s
def bsN (l0 l1 : List Int) (miss step : Int) : Nat → Int → Int × Int → Int × Int
  | 0, _, s => s
  | d + 1, n, s => bsN l0 l1 miss step d (n + 1) (bsS l0 l1 miss (-n * step) (bsS l0 l1 miss (n * step) s))
def bsAns (l0 l1 : List Int) (miss most step : Int) : Int × Int × Int := if onsetsB l0 = true ∧ onsetsB l1 = true then (if (0 ≤ miss ∧ miss ≤ 1000000) ∧ (0 ≤ most ∧ most ≤ 20) ∧ 1 ≤ step ∧ step ≤ 10000000 then ((bsN l0 l1 miss step most.toNat 1 (0, alC l0 l1 miss 0 0)).1, (bsN l0 l1 miss step most.toNat 1 (0, alC l0 l1 miss 0 0)).2, 0) else (0, 0, 2)) else (0, 0, 1)
theorem iBsStep (l0 l1 : List Int) (miss y : Int) (s : Int × Int) (h : onsetsB l0 = true) (hl1 : l1.length ≤ 48) (h0 : 0 ≤ miss) (h1 : miss ≤ 1000000) : Ev (fun k => bs_step k l0 l1 miss y s) (bsS l0 l1 miss y s) := by
  unfold bs_step bsS
  refine Ev.bind (iShift y l1 (by omega)) (Ev.bind (iOnsets _ (by rw [shL_len]; omega)) ?_)
  by_cases h' : onsetsB (shL y l1) = true
  · refine Ev.same (Ev.pos h' ?_) (if_pos h').symm
    rw [iAlign l0 (shL y l1) miss h h' h0 h1]
    exact Ev.now _
  · exact Ev.same (Ev.neg h' (Ev.now _)) (if_neg h').symm
theorem iBsN (l0 l1 : List Int) (miss step : Int) (h : onsetsB l0 = true) (hl1 : l1.length ≤ 48) (h0 : 0 ≤ miss) (h1 : miss ≤ 1000000) (d : Nat) : ∀ n s, Ev (fun k => bs_n k l0 l1 miss step d n s) (bsN l0 l1 miss step d n s) := by
  induction d with
  | zero => intro n s; exact Ev.now _
  | succ d ih =>
    intro n s
    exact Ev.bind (iBsStep l0 l1 miss (n * step) s h hl1 h0 h1) (Ev.bind (iBsStep l0 l1 miss (-n * step) _ h hl1 h0 h1) (ih (n + 1) _))
theorem iBestShift (l0 l1 : List Int) (miss most step : Int) (hl0 : l0.length ≤ 35184372088832) (hl1 : l1.length ≤ 35184372088832) : Ev (fun k => impl_BestShift.f k l0 l1 miss most step) (bsAns l0 l1 miss most step) := by
  unfold impl_BestShift.f bsAns
  refine Ev.bind (iOnsets l0 hl0) ?_
  by_cases h : onsetsB l0 = true
  · refine Ev.pos h (Ev.bind (iOnsets l1 hl1) ?_)
    by_cases h' : onsetsB l1 = true
    · rw [if_pos ⟨h, h'⟩]
      refine Ev.pos h' ?_
      have h48 := onsetsB_len h'
      by_cases a : 0 ≤ miss ∧ miss ≤ 1000000
      · refine Ev.pos a ?_
        by_cases b : 0 ≤ most ∧ most ≤ 20
        · refine Ev.pos b ?_
          by_cases c : 1 ≤ step ∧ step ≤ 10000000
          · rw [if_pos ⟨a, b, c⟩, iAlign l0 l1 miss h h' a.1 a.2]
            exact Ev.pos c (Ev.bind (Ev.now _) (Ev.bind (iBsN l0 l1 miss step h h48 a.1 a.2 most.toNat 1 _) (Ev.now _)))
          · rw [if_neg (fun q => c q.2.2)]
            exact Ev.neg c (Ev.now _)
        · rw [if_neg (fun q => b q.2.1)]
          exact Ev.neg b (Ev.now _)
      · rw [if_neg (fun q => a q.1)]
        exact Ev.neg a (Ev.now _)
    · rw [if_neg (fun q => h' q.2)]
      exact Ev.neg h' (Ev.now _)
  · rw [if_neg (fun q => h q.1)]
    exact Ev.neg h (Ev.now _)
theorem sCost0 (l0 l1 : List Int) (miss : Int) (h : onsetsB l0 = true) (h' : onsetsB l1 = true) (h0 : 0 ≤ miss) (h1 : miss ≤ 1000000) : Ev (fun f => spec_l24Costs.f f l0 l1 miss) (alT l0 l1 miss) ∧ 0 < ((alT l0 l1 miss).length : Int) ∧ 0 < ((rd_L1 (alT l0 l1 miss) 0).length : Int) ∧ rd (rd_L1 (alT l0 l1 miss) 0) 0 = alC l0 l1 miss 0 0 := by
  have a := ons_al h
  have b := ons_al h'
  have hC := isC (l0.getD · 0) (l1.getD · 0) miss l0.length l1.length h0 (by omega) a.1 b.1
  have tl : (alT l0 l1 miss).length = l0.length + 1 := tb_len _ _ _ _
  have rl : (rd_L1 (alT l0 l1 miss) ((0 : Nat) : Int)).length = l1.length + 1 := tb_rowlen l0.length l1.length (alC l0 l1 miss) (pp 0 0) 0 (by omega)
  have at0 := alT_at l0 l1 miss 0 0 (by omega) (by omega)
  rw [Int.ofNat_zero] at rl at0
  exact ⟨sCosts l0 l1 miss _ hC h0 (by omega) a.1 b.1 a.2 b.2, by omega, by omega, at0⟩
theorem sBs_l1 (l0 l1 : List Int) (miss most step n y : Int) (side : Int) (s : Int × Int) (h : onsetsB l0 = true) (hl1 : l1.length ≤ 48) (h0 : 0 ≤ miss) (h1 : miss ≤ 1000000) (hs : side < 2) (hy : wrap64 ((wrap64 (n * step)) * (wrap64 (1 - (wrap64 (2 * side))))) = y) (R : Int × Int × Int)
    (next : Ev (fun k => spec_BestShift.l1 k l0 l1 miss most step (bsS l0 l1 miss y s).1 (bsS l0 l1 miss y s).2 n (wrap64 (side + 1))) R) : Ev (fun k => spec_BestShift.l1 k l0 l1 miss most step s.1 s.2 n side) R := by
  refine Ev.shift ?_
  simp only [spec_BestShift.l1, hy]
  clear hy
  refine Ev.pos hs (Ev.bind (sShift y l1 (by omega)) (Ev.bind (sOnsets _ (by rw [shL_len]; omega)) ?_))
  unfold bsS at next
  by_cases h' : onsetsB (shL y l1) = true
  · rw [if_pos h'] at next
    obtain ⟨c1, c2, c3, c4⟩ := sCost0 l0 (shL y l1) miss h h' h0 h1
    refine Ev.pos h' (Ev.bind c1 (Ev.pos c2 (Ev.pos c3 ?_)))
    rw [c4]
    by_cases hlt : alC l0 (shL y l1) miss 0 0 < s.2
    · rw [if_pos hlt] at next
      exact Ev.pos hlt next
    · rw [if_neg hlt] at next
      exact Ev.neg hlt next
  · rw [if_neg h'] at next
    exact Ev.neg h' next
theorem sBs_l0 (l0 l1 : List Int) (miss most step : Int) (h : onsetsB l0 = true) (hl1 : l1.length ≤ 48) (h0 : 0 ≤ miss) (h1 : miss ≤ 1000000) (hm : most ≤ 20) (hs0 : 1 ≤ step) (hs1 : step ≤ 10000000) (d : Nat) : ∀ (n : Int) (s : Int × Int), 1 ≤ n → n + d = most + 1 → Ev (fun k => spec_BestShift.l0 k l0 l1 miss most step s.1 s.2 n) ((bsN l0 l1 miss step d n s).1, (bsN l0 l1 miss step d n s).2, 0) := by
  induction d with
  | zero =>
    intro n s hn hd
    refine Ev.shift ?_
    simp only [spec_BestShift.l0]
    exact Ev.neg (by omega) (Ev.now _)
  | succ d ih =>
    intro n s hn hd
    have hb : 0 ≤ n * step ∧ n * step ≤ 2000000000000 := by rw [Int.mul_comm]; exact al_mulP (by omega) (by omega) (by omega) (by omega)
    have w1 : wrap64 (n + 1) = n + 1 := wid (by omega)
    have w2 : wrap64 (n * step) = n * step := wid (by omega)
    have w3 : wrap64 (-(n * step)) = -(n * step) := wid (by omega)
    have e1 : wrap64 ((wrap64 (n * step)) * (wrap64 (1 - (wrap64 (2 * 0))))) = n * step := by
      rw [w2, show wrap64 (1 - wrap64 (2 * 0)) = 1 by rw [show wrap64 (2 * 0) = 0 from wid (by omega)]; exact wid (by omega), Int.mul_one, w2]
    have e2 : wrap64 ((wrap64 (n * step)) * (wrap64 (1 - (wrap64 (2 * 1))))) = -n * step := by
      rw [w2, show wrap64 (1 - wrap64 (2 * 1)) = -1 by rw [show wrap64 (2 * 1) = 2 from wid (by omega)]; exact wid (by omega), Int.mul_neg, Int.mul_one, w3, Int.neg_mul]
    refine Ev.shift ?_
    simp only [spec_BestShift.l0]
    refine Ev.pos (by omega) ?_
    refine sBs_l1 l0 l1 miss most step n _ 0 s h hl1 h0 h1 (by omega) e1 _ ?_
    rw [show wrap64 (0 + 1) = 1 from wid (by omega)]
    refine sBs_l1 l0 l1 miss most step n _ 1 _ h hl1 h0 h1 (by omega) e2 _ ?_
    rw [show wrap64 (1 + 1) = 2 from wid (by omega)]
    refine Ev.shift ?_
    simp only [spec_BestShift.l1, w1]
    exact Ev.neg (by omega) (ih (n + 1) _ (by omega) (by omega))
theorem sBestShift (l0 l1 : List Int) (miss most step : Int) (hl0 : l0.length ≤ 35184372088832) (hl1 : l1.length ≤ 35184372088832) : Ev (fun k => spec_BestShift.f k l0 l1 miss most step) (bsAns l0 l1 miss most step) := by
  unfold spec_BestShift.f bsAns
  have bad : Ev (fun k => spec_BestShift.j0 k l0 l1 miss most step true) (0, 0, 1) := by
    refine Ev.shift ?_
    simp only [spec_BestShift.j0]
    exact Ev.pos trivial (Ev.now _)
  have bad2 : Ev (fun k => spec_BestShift.j1 k l0 l1 miss most step true) (0, 0, 2) := by
    refine Ev.shift ?_
    simp only [spec_BestShift.j1]
    exact Ev.pos trivial (Ev.now _)
  refine Ev.bind (sOnsets l0 hl0) ?_
  by_cases h : onsetsB l0 = true
  · refine Ev.pos h (Ev.bind (sOnsets l1 hl1) ?_)
    by_cases h' : onsetsB l1 = true
    · rw [h', if_pos ⟨h, rfl⟩]
      have h48 := onsetsB_len h'
      refine Ev.shift ?_
      simp only [spec_BestShift.j0, spec_l24Miss.f, in_eq, Option.bind_some, Bool.not_true]
      refine Ev.neg (by decide) ?_
      by_cases a : 0 ≤ miss ∧ miss ≤ 1000000
      · refine Ev.pos (decide_eq_true a) ?_
        by_cases b : 0 ≤ most ∧ most ≤ 20
        · refine Ev.pos (decide_eq_true b) ?_
          by_cases c : 1 ≤ step ∧ step ≤ 10000000
          · rw [if_pos ⟨a, b, c⟩, show (!decide (1 ≤ step ∧ step ≤ 10000000)) = false by simp [c]]
            refine Ev.shift ?_
            simp only [spec_BestShift.j1]
            obtain ⟨c1, c2, c3, c4⟩ := sCost0 l0 l1 miss h h' a.1 a.2
            refine Ev.neg (by decide) (Ev.bind c1 (Ev.pos c2 (Ev.pos c3 ?_)))
            rw [c4]
            exact sBs_l0 l0 l1 miss most step h h48 a.1 a.2 b.2 c.1 c.2 most.toNat 1 (0, alC l0 l1 miss 0 0) (by omega) (by omega)
          · rw [if_neg (fun q => c q.2.2), show (!decide (1 ≤ step ∧ step ≤ 10000000)) = true by simp [c]]
            exact bad2
        · rw [if_neg (fun q => b q.2.1)]
          exact Ev.neg (by rw [decide_eq_true_iff]; exact b) bad2
      · rw [if_neg (fun q => a q.1)]
        exact Ev.neg (by rw [decide_eq_true_iff]; exact a) bad2
    · rw [if_neg (fun q => h' q.2), show (!onsetsB l1) = true by simp [h']]
      exact bad
  · rw [if_neg (fun q => h q.1)]
    exact Ev.neg h bad
theorem FnExactBestShift : laws_FnExactBestShift.Pure := by
  intro l0 l1 a b c hm0 hs0 hw0 hm1 hs1 hw1 hwa hwb hwc
  refine Ev.rounds (g := fun k => laws_FnExactBestShift.f k l0 l1 a b c) ?_
  unfold laws_FnExactBestShift.f
  by_cases hl : (l0.length : Int) > 1048576
  · exact Ev.pos hl (Ev.now _)
  refine Ev.neg hl ?_
  by_cases hl2 : (l1.length : Int) > 1048576
  · exact Ev.pos hl2 (Ev.now _)
  refine Ev.neg hl2 ?_
  have hl0 : l0.length ≤ 35184372088832 := by omega
  have hl1 : l1.length ≤ 35184372088832 := by omega
  have hS := sBestShift l0 l1 a b c hl0 hl1
  have hI := iBestShift l0 l1 a b c hl0 hl1
  generalize bsAns l0 l1 a b c = R at hS hI
  obtain ⟨r, x, e⟩ := R
  repeat (first | exact Ev.now _ | refine Ev.bind hS ?_ | refine Ev.bind hI ?_ | refine Ev.bind (toI _ (by assumption)) ?_ | refine Ev.bind (eqI _ (by assumption)) ?_ | refine Ev.pos (by with_reducible rfl) ?_ | refine Ev.pos trivial ?_ | refine Ev.neg (by omega) ?_ | refine Ev.neg (by simp; done) ?_ | refine Ev.pos (by omega) ?_ | (refine Ev.shift ?_; simp only [laws_FnExactBestShift.j0]))

end Go.Proofs.Ytoohfhgmflgmcaa.Pure
