/- The pure statement of the law FnExactNearestOnset: what the Go functions compute, told by plain Lean functions, is what the law asks, for all arguments. No condition beyond the printed ones. -/
import Derived.Test.YtmkjjjpffakfiaaPFnExactNearestOnsetx3
import Derived.Test.YtmkjjjpffakfiaaXW
namespace Go.Proofs.Ytmkjjjpffakfiaa.Pure
open Go.RowKit Go.Proofs.Ytmkjjjpffakfiaa.PFnExactNearestOnset Go.Proofs.YtmkjjjpffakfiaaW.PrintWords Go.Proofs.YtmkjjjpffakfiaaW.PrintLast Go.Proofs.YtmkjjjpffakfiaaW.PrintMore Go.Proofs.YtmkjjjpffakfiaaXW
set_option linter.unusedVariables false
set_option linter.unusedSimpArgs false
theorem toI_l0 (l : List Int) (hl : l.length ≤ 35184372088832) (d : Nat) : ∀ (i : Nat) (acc : List Int), i + d = l.length → acc.length = l.length → acc.take i = l.take i → Ev (fun k => laws_toInt64S.l0 k l acc i) l := by
  induction d with
  | zero =>
    intro i acc h1 h2 h3
    refine Ev.shift ?_
    simp only [laws_toInt64S.l0]
    refine Ev.neg (by omega) ?_
    refine Ev.some ?_
    rw [List.take_of_length_le (by omega), List.take_of_length_le (by omega)] at h3
    rw [h3]
  | succ d ih =>
    intro i acc h1 h2 h3
    refine Ev.shift ?_
    simp only [laws_toInt64S.l0]
    refine Ev.pos (by omega) (Ev.pos (by omega) (Ev.pos (by omega) ?_))
    rw [wid (by omega), rd_get l i (by omega), Int.toNat_natCast]
    refine ih (i + 1) (acc.set i l[i]) (by omega) (by rw [List.length_set, h2]) ?_
    rw [List.take_succ_eq_append_getElem (by rw [List.length_set]; omega), List.take_succ_eq_append_getElem (by omega), List.take_set_of_le (by omega), List.getElem_set_self, h3]
theorem toI (l : List Int) (hl : l.length ≤ 35184372088832) : Ev (fun k => laws_toInt64S.f k l) l := by
  unfold laws_toInt64S.f
  refine Ev.pos (by omega) (Ev.pos (by omega) ?_)
  rw [Int.toNat_natCast]
  exact toI_l0 l hl l.length 0 _ (by omega) (by simp) (by simp)
theorem eqI_l0 (l : List Int) (hl : l.length ≤ 35184372088832) (d : Nat) : ∀ (i : Nat), i + d = l.length → Ev (fun k => laws_eqInt64S.l0 k l l i) true := by
  induction d with
  | zero =>
    intro i h1
    refine Ev.shift ?_
    simp only [laws_eqInt64S.l0]
    exact Ev.neg (by omega) (Ev.now _)
  | succ d ih =>
    intro i h1
    refine Ev.shift ?_
    simp only [laws_eqInt64S.l0]
    refine Ev.pos (by omega) (Ev.pos (by omega) (Ev.pos (by omega) (Ev.pos (by trivial) ?_)))
    rw [wid (by omega)]
    exact ih (i + 1) (by omega)
theorem eqI (l : List Int) (hl : l.length ≤ 35184372088832) : Ev (fun k => laws_eqInt64S.f k l l) true := by
  unfold laws_eqInt64S.f
  exact Ev.pos rfl (eqI_l0 l hl l.length 0 (by omega))
theorem in_eq (a b c : Int) : spec_l00In.f a b c = some (decide (b ≤ a ∧ a ≤ c)) := by
  unfold spec_l00In.f; split <;> simp_all; omega
theorem within_eq (a b c : Int) : impl_within.f a b c = some (decide (b ≤ a ∧ a ≤ c)) := by
  unfold impl_within.f; split <;> simp_all; omega
theorem allIn_eq (l : List Int) (a b : Int) : impl_allWithin.f l a b = some (l.all fun x => decide (a ≤ x ∧ x ≤ b)) := by
  unfold impl_allWithin.f
  rw [List.not_any_eq_all_not]
  congr 2
  funext x
  simp [allP]
def risQ (l : List Int) (lo hi : Int) (j : Nat) : Bool := decide (lo ≤ l.getD j 0 ∧ l.getD j 0 ≤ hi) && (decide (j = 0) || decide (l.getD (j - 1) 0 < l.getD j 0))
theorem rises_l0 (l : List Int) (lo hi : Int) (hl : l.length ≤ 35184372088832) (d : Nat) : ∀ (i : Nat), i + d = l.length → Ev (fun k => spec_l00Rises.l0 k l lo hi i) (allF (risQ l lo hi) l.length i) := by
  induction d with
  | zero =>
    intro i h1
    refine Ev.shift ?_
    simp only [spec_l00Rises.l0]
    exact Ev.neg (by omega) (Ev.some (by rw [allF_end _ (by omega)]))
  | succ d ih =>
    intro i h1
    refine Ev.shift ?_
    simp only [spec_l00Rises.l0, in_eq, Option.bind_some]
    refine Ev.pos (by omega) (Ev.pos (by omega) ?_)
    rw [rd_nat]
    by_cases hb : lo ≤ l.getD i 0 ∧ l.getD i 0 ≤ hi
    · refine Ev.pos (by simpa using hb) ?_
      cases i with
      | zero =>
        refine Ev.neg (by omega) ?_
        rw [wid (by omega), allF_yes _ (by simp only [risQ]; simp; exact hb)]
        exact ih 1 (by omega)
      | succ i =>
        refine Ev.pos (by omega) ?_
        have e1 : wrap64 (((i + 1 : Nat) : Int) - 1) = (i : Int) := by rw [wid (by omega)]; omega
        rw [e1, rd_nat]
        refine Ev.pos (by omega) (Ev.pos (by omega) ?_)
        by_cases hc : l.getD i 0 < l.getD (i + 1) 0
        · refine Ev.neg (by omega) ?_
          rw [wid (by omega), allF_yes _ (by simp only [risQ]; simp; exact ⟨hb, hc⟩)]
          exact ih (i + 2) (by omega)
        · refine Ev.pos (by omega) (Ev.some ?_)
          rw [allF_no _ (by omega) (by simp only [risQ, Nat.add_sub_cancel, decide_eq_false hc]; simp)]
    · refine Ev.neg (by simpa using hb) (Ev.some ?_)
      rw [allF_no _ (by omega) (by simp only [risQ]; rw [decide_eq_false hb]; rfl)]
theorem rises_ev (l : List Int) (lo hi : Int) (hl : l.length ≤ 35184372088832) : Ev (fun k => spec_l00Rises.f k l lo hi) (allF (risQ l lo hi) l.length 0) := by
  unfold spec_l00Rises.f
  exact rises_l0 l lo hi hl l.length 0 (by omega)
def incQ (l : List Int) (j : Nat) : Bool := decide (l.getD (j - 1) 0 < l.getD j 0)
theorem inc_l0 (l : List Int) (hl : l.length ≤ 35184372088832) (d : Nat) : ∀ (i : Nat), 1 ≤ i → l.length ≤ i + d → Ev (fun k => impl_increasing.l0 k l i) (allF (incQ l) l.length i) := by
  induction d with
  | zero =>
    intro i h0 h1
    refine Ev.shift ?_
    simp only [impl_increasing.l0]
    exact Ev.neg (by omega) (Ev.some (by rw [allF_end _ (by omega)]))
  | succ d ih =>
    intro i h0 h1
    by_cases hi : i < l.length
    · refine Ev.shift ?_
      simp only [impl_increasing.l0]
      have e1 : wrap64 ((i : Int) - 1) = ((i - 1 : Nat) : Int) := by rw [wid (by omega)]; omega
      rw [e1, rd_nat, rd_nat]
      refine Ev.pos (by omega) (Ev.pos (by omega) (Ev.pos (by omega) (Ev.pos (by omega) ?_)))
      by_cases hc : l.getD (i - 1) 0 < l.getD i 0
      · refine Ev.neg (by omega) ?_
        rw [wid (by omega), allF_yes _ (by simp only [incQ]; simpa using hc)]
        exact ih (i + 1) (by omega) (by omega)
      · refine Ev.pos (by omega) (Ev.some ?_)
        rw [allF_no _ (by omega) (by simp only [incQ]; simpa using hc)]
    · refine Ev.shift ?_
      simp only [impl_increasing.l0]
      exact Ev.neg (by omega) (Ev.some (by rw [allF_end _ (by omega)]))
theorem inc_ev (l : List Int) (hl : l.length ≤ 35184372088832) : Ev (fun k => impl_increasing.f k l) (allF (incQ l) l.length 1) := by
  unfold impl_increasing.f
  exact inc_l0 l hl l.length 1 (by omega) (by omega)
/-- The one test is the two others. -/
theorem rises_inc (l : List Int) (lo hi : Int) : (allF (incQ l) l.length 1 && l.all fun x => decide (lo ≤ x ∧ x ≤ hi)) = allF (risQ l lo hi) l.length 0 := by
  rw [Bool.eq_iff_iff, Bool.and_eq_true, allF_iff, allF_iff, all_iff_get]
  constructor
  · rintro ⟨h1, h2⟩ j hj _
    simp only [risQ, Bool.and_eq_true, Bool.or_eq_true]
    refine ⟨h2 j hj, ?_⟩
    by_cases e : j = 0
    · left; simpa using e
    · right; exact h1 j hj (by omega)
  · intro h
    refine ⟨fun j hj h1 => ?_, fun j hj => ?_⟩
    · have := h j hj (by omega)
      simp only [risQ, Bool.and_eq_true, Bool.or_eq_true] at this
      rcases this.2 with e | e
      · simp at e; omega
      · exact e
    · have := h j hj (by omega)
      simp only [risQ, Bool.and_eq_true] at this
      exact this.1
def onsetsB (l : List Int) : Bool := decide (l.length ≤ 48) && allF (risQ l 0 10000000) l.length 0
theorem sOnsets (l : List Int) (hl : l.length ≤ 35184372088832) : Ev (fun k => spec_l24Ok.f k l) (onsetsB l) := by
  unfold spec_l24Ok.f onsetsB
  by_cases h : l.length ≤ 48
  · refine Ev.pos (by omega) (Ev.bind (rises_ev l _ _ hl) (Ev.some ?_))
    simp [h]
  · refine Ev.neg (by omega) (Ev.some ?_)
    simp [h]
theorem iOnsets (l : List Int) (hl : l.length ≤ 35184372088832) : Ev (fun k => impl_ValidOnsets.f k l) (onsetsB l) := by
  unfold impl_ValidOnsets.f onsetsB
  by_cases h : l.length ≤ 48
  · refine Ev.pos (by omega) (Ev.bind (inc_ev l hl) ?_)
    rw [← rises_inc]
    simp only [allIn_eq, Option.bind_some, h, decide_true, Bool.true_and]
    cases e : allF (incQ l) l.length 1
    · exact Ev.neg (by decide) (Ev.now _)
    · exact Ev.pos rfl (Ev.now _)
  · refine Ev.neg (by omega) (Ev.some ?_)
    simp [h]
theorem mx_abs (a : Int) (h : -9223372036854775807 ≤ a ∧ a ≤ 9223372036854775807) : mx a (wrap64 (-a)) = (a.natAbs : Int) := by
  rw [wid (by omega)]; unfold mx; split <;> omega

theorem abs_i (a : Int) (h : -9223372036854775807 ≤ a ∧ a ≤ 9223372036854775807) : impl_abs.f a = some (a.natAbs : Int) := by
  unfold impl_abs.f; rw [mx_abs a h]
theorem abs_s (a : Int) (h : -9223372036854775807 ≤ a ∧ a ≤ 9223372036854775807) : spec_l04Abs.f a = some (a.natAbs : Int) := by
  unfold spec_l04Abs.f spec_l00Max.f
  rw [wid (by omega)]
  split <;> simp <;> omega
theorem onsetsB_len {l : List Int} (h : onsetsB l = true) : l.length ≤ 48 := by
  unfold onsetsB at h; simp only [Bool.and_eq_true, decide_eq_true_eq] at h; exact h.1
theorem onsetsB_get {l : List Int} (h : onsetsB l = true) (j : Nat) (hj : j < l.length) : 0 ≤ l.getD j 0 ∧ l.getD j 0 ≤ 10000000 := by
  unfold onsetsB at h; simp only [Bool.and_eq_true] at h
  have := (allF_iff _).1 h.2 j hj (Nat.zero_le _)
  simp only [risQ, Bool.and_eq_true] at this
  exact of_decide_eq_true this.1
theorem onsetsB_lt {l : List Int} (h : onsetsB l = true) (j : Nat) (hj : j + 1 < l.length) : l.getD j 0 < l.getD (j + 1) 0 := by
  unfold onsetsB at h; simp only [Bool.and_eq_true] at h
  have := (allF_iff _).1 h.2 (j + 1) hj (Nat.zero_le _)
  simp only [risQ, Bool.and_eq_true, Bool.or_eq_true, Nat.add_sub_cancel] at this
  rcases this.2 with e | e
  · exact absurd (of_decide_eq_true e) (by omega)
  · exact of_decide_eq_true e
theorem onsetsB_rd {l : List Int} (h : onsetsB l = true) (x : Int) : 0 ≤ rd l x ∧ rd l x ≤ 10000000 := by
  unfold rd
  by_cases hx : x.toNat < l.length
  · exact onsetsB_get h _ hx
  · rw [List.getD_eq_getElem?_getD, List.getElem?_eq_none (by omega)]; simp
theorem near_loops (l : List Int) (t : Int) (ht : 0 ≤ t ∧ t ≤ 10000000) (v : onsetsB l = true) (d : Nat) : ∀ (i b : Nat), i + d = l.length → b < l.length →
    ∃ r, Ev (fun k => spec_NearestOnset.l0 k l t b i) r ∧ Ev (fun k => impl_NearestOnset.l0 k l t b l l.length i) r := by
  have hl := onsetsB_len v
  induction d with
  | zero =>
    intro i b h1 h2
    refine ⟨(b, wrap64 (rd l b - t), 0), Ev.shift ?_, Ev.shift ?_⟩
    · simp only [spec_NearestOnset.l0]
      exact Ev.neg (by omega) (Ev.pos (by omega) (Ev.pos (by omega) (Ev.now _)))
    · simp only [impl_NearestOnset.l0]
      exact Ev.neg (by omega) (Ev.pos (by omega) (Ev.pos (by omega) (Ev.now _)))
  | succ d ih =>
    intro i b h1 h2
    have w1 : wrap64 ((i : Int) + 1) = ((i + 1 : Nat) : Int) := by rw [wid (by omega)]; rfl
    have x1 := onsetsB_rd v i
    have x2 := onsetsB_rd v b
    have w2 : wrap64 (rd l i - t) = rd l i - t := wid (by omega)
    have w3 : wrap64 (rd l b - t) = rd l b - t := wid (by omega)
    by_cases c : ((rd l i - t).natAbs : Int) < ((rd l b - t).natAbs : Int)
    · obtain ⟨r, x, y⟩ := ih (i + 1) i (by omega) (by omega)
      refine ⟨r, Ev.shift ?_, Ev.shift ?_⟩
      · simp only [spec_NearestOnset.l0, w1, w2, w3, abs_s _ (show -9223372036854775807 ≤ rd l i - t ∧ rd l i - t ≤ 9223372036854775807 by omega), abs_s _ (show -9223372036854775807 ≤ rd l b - t ∧ rd l b - t ≤ 9223372036854775807 by omega), Option.bind_some]
        exact Ev.pos (by omega) (Ev.pos (by omega) (Ev.pos (by omega) (Ev.pos (by omega) (Ev.pos c x))))
      · simp only [impl_NearestOnset.l0, w1, w2, w3, abs_i _ (show -9223372036854775807 ≤ rd l i - t ∧ rd l i - t ≤ 9223372036854775807 by omega), abs_i _ (show -9223372036854775807 ≤ rd l b - t ∧ rd l b - t ≤ 9223372036854775807 by omega), Option.bind_some]
        exact Ev.pos (by omega) (Ev.pos (by omega) (Ev.pos (by omega) (Ev.pos (by omega) (Ev.pos (by omega) (Ev.pos c y)))))
    · obtain ⟨r, x, y⟩ := ih (i + 1) b (by omega) (by omega)
      refine ⟨r, Ev.shift ?_, Ev.shift ?_⟩
      · simp only [spec_NearestOnset.l0, w1, w2, w3, abs_s _ (show -9223372036854775807 ≤ rd l i - t ∧ rd l i - t ≤ 9223372036854775807 by omega), abs_s _ (show -9223372036854775807 ≤ rd l b - t ∧ rd l b - t ≤ 9223372036854775807 by omega), Option.bind_some]
        exact Ev.pos (by omega) (Ev.pos (by omega) (Ev.pos (by omega) (Ev.pos (by omega) (Ev.neg c x))))
      · simp only [impl_NearestOnset.l0, w1, w2, w3, abs_i _ (show -9223372036854775807 ≤ rd l i - t ∧ rd l i - t ≤ 9223372036854775807 by omega), abs_i _ (show -9223372036854775807 ≤ rd l b - t ∧ rd l b - t ≤ 9223372036854775807 by omega), Option.bind_some]
        exact Ev.pos (by omega) (Ev.pos (by omega) (Ev.pos (by omega) (Ev.pos (by omega) (Ev.pos (by omega) (Ev.neg c y)))))
theorem nearest (l : List Int) (t : Int) (hl : l.length ≤ 35184372088832) : ∃ r, Ev (fun k => spec_NearestOnset.f k l t) r ∧ Ev (fun k => impl_NearestOnset.f k l t) r := by
  unfold spec_NearestOnset.f impl_NearestOnset.f spec_l24Time.f
  simp only [in_eq, within_eq, Option.bind_some]
  cases v : onsetsB l with
  | false =>
    refine ⟨(0, 0, 1), Ev.bind (sOnsets l hl) ?_, Ev.bind (iOnsets l hl) ?_⟩
    · rw [v]; exact Ev.neg (by decide) (Ev.now _)
    · rw [v]; exact Ev.neg (by decide) (Ev.now _)
  | true =>
    by_cases ht : 0 ≤ t ∧ t ≤ 10000000
    · by_cases h0 : l.length = 0
      · refine ⟨(0, 0, 3), Ev.bind (sOnsets l hl) ?_, Ev.bind (iOnsets l hl) ?_⟩
        · rw [v]; exact Ev.pos rfl (Ev.pos (by simpa using ht) (Ev.pos (by omega) (Ev.now _)))
        · rw [v]; exact Ev.pos rfl (Ev.pos (by simpa using ht) (Ev.pos (by omega) (Ev.now _)))
      · obtain ⟨r, x, y⟩ := near_loops l t ht v (l.length - 1) 1 0 (by omega) (by omega)
        refine ⟨r, Ev.bind (sOnsets l hl) ?_, Ev.bind (iOnsets l hl) ?_⟩
        · rw [v]; exact Ev.pos rfl (Ev.pos (by simpa using ht) (Ev.neg (by omega) x))
        · rw [v]
          refine Ev.pos rfl (Ev.pos (by simpa using ht) (Ev.neg (by omega) (Ev.shift ?_)))
          have x2 := onsetsB_rd v 0
          simp only [impl_NearestOnset.l0, wid (x := rd l 0 - t) (by omega), abs_i _ (show -9223372036854775807 ≤ rd l 0 - t ∧ rd l 0 - t ≤ 9223372036854775807 by omega), Option.bind_some]
          refine Ev.pos (by omega) (Ev.pos (by omega) (Ev.pos (by omega) (Ev.pos (by omega) (Ev.pos (by omega) (Ev.neg (by omega) ?_)))))
          rw [wid (by omega)]
          exact y
    · refine ⟨(0, 0, 2), Ev.bind (sOnsets l hl) ?_, Ev.bind (iOnsets l hl) ?_⟩
      · rw [v]; exact Ev.pos rfl (Ev.neg (by simp; omega) (Ev.now _))
      · rw [v]; exact Ev.pos rfl (Ev.neg (by simp; omega) (Ev.now _))
theorem FnExactNearestOnset : laws_FnExactNearestOnset.Pure := by
  intro l t hm hs _ _
  refine Ev.rounds (g := fun k => laws_FnExactNearestOnset.f k l t) ?_
  unfold laws_FnExactNearestOnset.f
  by_cases hl : (l.length : Int) > 1048576
  · exact Ev.pos hl (Ev.now _)
  refine Ev.neg hl ?_
  have hl' : l.length ≤ 35184372088832 := by omega
  obtain ⟨⟨r, s, c⟩, hS, hI⟩ := nearest l t hl'
  repeat (first | exact Ev.now _ | refine Ev.bind hS ?_ | refine Ev.bind hI ?_ | refine Ev.bind (toI _ (by assumption)) ?_ | refine Ev.bind (eqI _ (by assumption)) ?_ | refine Ev.pos (by with_reducible rfl) ?_ | refine Ev.neg (by omega) ?_ | refine Ev.neg (by simp; done) ?_ | refine Ev.pos (by omega) ?_ | (refine Ev.shift ?_; simp only [laws_FnExactNearestOnset.j0]))

end Go.Proofs.Ytmkjjjpffakfiaa.Pure
