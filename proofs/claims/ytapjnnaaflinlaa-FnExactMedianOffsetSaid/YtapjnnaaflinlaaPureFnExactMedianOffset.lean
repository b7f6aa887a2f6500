/- The pure statement of the law FnExactMedianOffset: what the Go functions compute, told by plain Lean functions, is what the law asks, for all arguments. No condition beyond the printed ones. -/
import Derived.Test.YtapjnnaaflinlaaPFnExactMedianOffsetx4
import Derived.Test.YtapjnnaaflinlaaXW
namespace Go.Proofs.Ytapjnnaaflinlaa.Pure
open Go.RowKit Go.Proofs.Ytapjnnaaflinlaa.PFnExactMedianOffset Go.Proofs.YtapjnnaaflinlaaW.PrintWords Go.Proofs.YtapjnnaaflinlaaW.PrintLast Go.Proofs.YtapjnnaaflinlaaW.PrintMore Go.Proofs.YtapjnnaaflinlaaXW
set_option linter.unusedVariables false
set_option linter.unusedSimpArgs false
theorem toI_l0 (l : List Int) (hl : l.length ≤ 35184372088832) (d : Nat) : ∀ (i : Nat) (acc : List Int), i + d = l.length → acc.length = l.length → acc.take i = l.take i → Ev (fun k => laws_toInt64S.l0 k l acc i) l := by
  induction d with
  | zero =>
    intro i acc h1 h2 h3
    refine Ev.shift ?_
    simp only [laws_toInt64S.l0]
    refine Ev.neg (by omega) ?_
    refine Ev.some ?_
    rw [List.take_of_length_le (by omega), List.take_of_length_le (by omega)] at h3
    rw [h3]
  | succ d ih =>
    intro i acc h1 h2 h3
    refine Ev.shift ?_
    simp only [laws_toInt64S.l0]
    refine Ev.pos (by omega) (Ev.pos (by omega) (Ev.pos (by omega) ?_))
    rw [wid (by omega), rd_get l i (by omega), Int.toNat_natCast]
    refine ih (i + 1) (acc.set i l[i]) (by omega) (by rw [List.length_set, h2]) ?_
    rw [List.take_succ_eq_append_getElem (by rw [List.length_set]; omega), List.take_succ_eq_append_getElem (by omega), List.take_set_of_le (by omega), List.getElem_set_self, h3]
theorem toI (l : List Int) (hl : l.length ≤ 35184372088832) : Ev (fun k => laws_toInt64S.f k l) l := by
  unfold laws_toInt64S.f
  refine Ev.pos (by omega) (Ev.pos (by omega) ?_)
  rw [Int.toNat_natCast]
  exact toI_l0 l hl l.length 0 _ (by omega) (by simp) (by simp)
theorem eqI_l0 (l : List Int) (hl : l.length ≤ 35184372088832) (d : Nat) : ∀ (i : Nat), i + d = l.length → Ev (fun k => laws_eqInt64S.l0 k l l i) true := by
  induction d with
  | zero =>
    intro i h1
    refine Ev.shift ?_
    simp only [laws_eqInt64S.l0]
    exact Ev.neg (by omega) (Ev.now _)
  | succ d ih =>
    intro i h1
    refine Ev.shift ?_
    simp only [laws_eqInt64S.l0]
    refine Ev.pos (by omega) (Ev.pos (by omega) (Ev.pos (by omega) (Ev.pos (by trivial) ?_)))
    rw [wid (by omega)]
    exact ih (i + 1) (by omega)
theorem eqI (l : List Int) (hl : l.length ≤ 35184372088832) : Ev (fun k => laws_eqInt64S.f k l l) true := by
  unfold laws_eqInt64S.f
  exact Ev.pos rfl (eqI_l0 l hl l.length 0 (by omega))
theorem in_eq (a b c : Int) : spec_l00In.f a b c = some (decide (b ≤ a ∧ a ≤ c)) := by
  unfold spec_l00In.f; split <;> simp_all; omega
theorem within_eq (a b c : Int) : impl_within.f a b c = some (decide (b ≤ a ∧ a ≤ c)) := by
  unfold impl_within.f; split <;> simp_all; omega
theorem allIn_eq (l : List Int) (a b : Int) : impl_allWithin.f l a b = some (l.all fun x => decide (a ≤ x ∧ x ≤ b)) := by
  unfold impl_allWithin.f
  rw [List.not_any_eq_all_not]
  congr 2
  funext x
  simp [allP]
def risQ (l : List Int) (lo hi : Int) (j : Nat) : Bool := decide (lo ≤ l.getD j 0 ∧ l.getD j 0 ≤ hi) && (decide (j = 0) || decide (l.getD (j - 1) 0 < l.getD j 0))
theorem rises_l0 (l : List Int) (lo hi : Int) (hl : l.length ≤ 35184372088832) (d : Nat) : ∀ (i : Nat), i + d = l.length → Ev (fun k => spec_l00Rises.l0 k l lo hi i) (allF (risQ l lo hi) l.length i) := by
  induction d with
  | zero =>
    intro i h1
    refine Ev.shift ?_
    simp only [spec_l00Rises.l0]
    exact Ev.neg (by omega) (Ev.some (by rw [allF_end _ (by omega)]))
  | succ d ih =>
    intro i h1
    refine Ev.shift ?_
    simp only [spec_l00Rises.l0, in_eq, Option.bind_some]
    refine Ev.pos (by omega) (Ev.pos (by omega) ?_)
    rw [rd_nat]
    by_cases hb : lo ≤ l.getD i 0 ∧ l.getD i 0 ≤ hi
    · refine Ev.pos (by simpa using hb) ?_
      cases i with
      | zero =>
        refine Ev.neg (by omega) ?_
        rw [wid (by omega), allF_yes _ (by simp only [risQ]; simp; exact hb)]
        exact ih 1 (by omega)
      | succ i =>
        refine Ev.pos (by omega) ?_
        have e1 : wrap64 (((i + 1 : Nat) : Int) - 1) = (i : Int) := by rw [wid (by omega)]; omega
        rw [e1, rd_nat]
        refine Ev.pos (by omega) (Ev.pos (by omega) ?_)
        by_cases hc : l.getD i 0 < l.getD (i + 1) 0
        · refine Ev.neg (by omega) ?_
          rw [wid (by omega), allF_yes _ (by simp only [risQ]; simp; exact ⟨hb, hc⟩)]
          exact ih (i + 2) (by omega)
        · refine Ev.pos (by omega) (Ev.some ?_)
          rw [allF_no _ (by omega) (by simp only [risQ, Nat.add_sub_cancel, decide_eq_false hc]; simp)]
    · refine Ev.neg (by simpa using hb) (Ev.some ?_)
      rw [allF_no _ (by omega) (by simp only [risQ]; rw [decide_eq_false hb]; rfl)]
theorem rises_ev (l : List Int) (lo hi : Int) (hl : l.length ≤ 35184372088832) : Ev (fun k => spec_l00Rises.f k l lo hi) (allF (risQ l lo hi) l.length 0) := by
  unfold spec_l00Rises.f
  exact rises_l0 l lo hi hl l.length 0 (by omega)
def incQ (l : List Int) (j : Nat) : Bool := decide (l.getD (j - 1) 0 < l.getD j 0)
theorem inc_l0 (l : List Int) (hl : l.length ≤ 35184372088832) (d : Nat) : ∀ (i : Nat), 1 ≤ i → l.length ≤ i + d → Ev (fun k => impl_increasing.l0 k l i) (allF (incQ l) l.length i) := by
  induction d with
  | zero =>
    intro i h0 h1
    refine Ev.shift ?_
    simp only [impl_increasing.l0]
    exact Ev.neg (by omega) (Ev.some (by rw [allF_end _ (by omega)]))
  | succ d ih =>
    intro i h0 h1
    by_cases hi : i < l.length
    · refine Ev.shift ?_
      simp only [impl_increasing.l0]
      have e1 : wrap64 ((i : Int) - 1) = ((i - 1 : Nat) : Int) := by rw [wid (by omega)]; omega
      rw [e1, rd_nat, rd_nat]
      refine Ev.pos (by omega) (Ev.pos (by omega) (Ev.pos (by omega) (Ev.pos (by omega) ?_)))
      by_cases hc : l.getD (i - 1) 0 < l.getD i 0
      · refine Ev.neg (by omega) ?_
        rw [wid (by omega), allF_yes _ (by simp only [incQ]; simpa using hc)]
        exact ih (i + 1) (by omega) (by omega)
      · refine Ev.pos (by omega) (Ev.some ?_)
        rw [allF_no _ (by omega) (by simp only [incQ]; simpa using hc)]
    · refine Ev.shift ?_
      simp only [impl_increasing.l0]
      exact Ev.neg (by omega) (Ev.some (by rw [allF_end _ (by omega)]))
theorem inc_ev (l : List Int) (hl : l.length ≤ 35184372088832) : Ev (fun k => impl_increasing.f k l) (allF (incQ l) l.length 1) := by
  unfold impl_increasing.f
  exact inc_l0 l hl l.length 1 (by omega) (by omega)
/-- The one test is the two others. -/
theorem rises_inc (l : List Int) (lo hi : Int) : (allF (incQ l) l.length 1 && l.all fun x => decide (lo ≤ x ∧ x ≤ hi)) = allF (risQ l lo hi) l.length 0 := by
  rw [Bool.eq_iff_iff, Bool.and_eq_true, allF_iff, allF_iff, all_iff_get]
  constructor
  · rintro ⟨h1, h2⟩ j hj _
    simp only [risQ, Bool.and_eq_true, Bool.or_eq_true]
    refine ⟨h2 j hj, ?_⟩
    by_cases e : j = 0
    · left; simpa using e
    · right; exact h1 j hj (by omega)
  · intro h
    refine ⟨fun j hj h1 => ?_, fun j hj => ?_⟩
    · have := h j hj (by omega)
      simp only [risQ, Bool.and_eq_true, Bool.or_eq_true] at this
      rcases this.2 with e | e
      · simp at e; omega
      · exact e
    · have := h j hj (by omega)
      simp only [risQ, Bool.and_eq_true] at this
      exact this.1
def onsetsB (l : List Int) : Bool := decide (l.length ≤ 48) && allF (risQ l 0 10000000) l.length 0
theorem sOnsets (l : List Int) (hl : l.length ≤ 35184372088832) : Ev (fun k => spec_l24Ok.f k l) (onsetsB l) := by
  unfold spec_l24Ok.f onsetsB
  by_cases h : l.length ≤ 48
  · refine Ev.pos (by omega) (Ev.bind (rises_ev l _ _ hl) (Ev.some ?_))
    simp [h]
  · refine Ev.neg (by omega) (Ev.some ?_)
    simp [h]
theorem iOnsets (l : List Int) (hl : l.length ≤ 35184372088832) : Ev (fun k => impl_ValidOnsets.f k l) (onsetsB l) := by
  unfold impl_ValidOnsets.f onsetsB
  by_cases h : l.length ≤ 48
  · refine Ev.pos (by omega) (Ev.bind (inc_ev l hl) ?_)
    rw [← rises_inc]
    simp only [allIn_eq, Option.bind_some, h, decide_true, Bool.true_and]
    cases e : allF (incQ l) l.length 1
    · exact Ev.neg (by decide) (Ev.now _)
    · exact Ev.pos rfl (Ev.now _)
  · refine Ev.neg (by omega) (Ev.some ?_)
    simp [h]
theorem onsetsB_len {l : List Int} (h : onsetsB l = true) : l.length ≤ 48 := by
  unfold onsetsB at h; simp only [Bool.and_eq_true, decide_eq_true_eq] at h; exact h.1
theorem onsetsB_get {l : List Int} (h : onsetsB l = true) (j : Nat) (hj : j < l.length) : 0 ≤ l.getD j 0 ∧ l.getD j 0 ≤ 10000000 := by
  unfold onsetsB at h; simp only [Bool.and_eq_true] at h
  have := (allF_iff _).1 h.2 j hj (Nat.zero_le _)
  simp only [risQ, Bool.and_eq_true] at this
  exact of_decide_eq_true this.1
theorem onsetsB_lt {l : List Int} (h : onsetsB l = true) (j : Nat) (hj : j + 1 < l.length) : l.getD j 0 < l.getD (j + 1) 0 := by
  unfold onsetsB at h; simp only [Bool.and_eq_true] at h
  have := (allF_iff _).1 h.2 (j + 1) hj (Nat.zero_le _)
  simp only [risQ, Bool.and_eq_true, Bool.or_eq_true, Nat.add_sub_cancel] at this
  rcases this.2 with e | e
  · exact absurd (of_decide_eq_true e) (by omega)
  · exact of_decide_eq_true e
theorem onsetsB_rd {l : List Int} (h : onsetsB l = true) (x : Int) : 0 ≤ rd l x ∧ rd l x ≤ 10000000 := by
  unfold rd
  by_cases hx : x.toNat < l.length
  · exact onsetsB_get h _ hx
  · rw [List.getD_eq_getElem?_getD, List.getElem?_eq_none (by omega)]; simp
/-- what is matched is an index each or -1, rising -/
def mOk (n : Int) : Int → List Int → Bool
  | _, [] => true
  | last, m :: ms => if m = -1 then mOk n last ms else decide (last + 1 ≤ m ∧ m ≤ n - 1) && mOk n m ms
theorem drop_cons' (l : List Int) (i : Nat) (h : i < l.length) : l.drop i = l.getD i 0 :: l.drop (i + 1) := by
  rw [List.drop_eq_getElem_cons h, List.getD_eq_getElem?_getD, List.getElem?_eq_getElem h, Option.getD_some]
theorem sMatched_l0 (x0 x1 l : List Int) (h1 : x1.length ≤ 48) (hl : l.length ≤ 35184372088832) (d : Nat) : ∀ (i : Nat) (last : Int), i + d = l.length → -1 ≤ last → last ≤ (x1.length : Int) →
    Ev (fun k => spec_l24Matched.l0 k x0 x1 l last i) (mOk x1.length last (l.drop i) && decide (l.length = x0.length)) := by
  induction d with
  | zero =>
    intro i last h2 h3 h4
    refine Ev.shift ?_
    simp only [spec_l24Matched.l0]
    refine Ev.neg (by omega) (Ev.some ?_)
    rw [List.drop_of_length_le (by omega), mOk, Bool.true_and]
    congr 1
    rw [Bool.eq_iff_iff]; simp; omega
  | succ d ih =>
    intro i last h2 h3 h4
    refine Ev.shift ?_
    simp only [spec_l24Matched.l0, in_eq, Option.bind_some]
    rw [drop_cons' l i (by omega), mOk, rd_nat]
    rw [wid (x := (i : Int) + 1) (by omega), wid (x := last + 1) (by omega), wid (x := (x1.length : Int) - 1) (by omega)]
    refine Ev.pos (by omega) (Ev.pos (by omega) ?_)
    by_cases c : l.getD i 0 = -1
    · rw [if_pos c]
      exact Ev.pos c (ih (i + 1) last (by omega) h3 h4)
    · rw [if_neg c]
      refine Ev.neg c ?_
      by_cases c2 : last + 1 ≤ l.getD i 0 ∧ l.getD i 0 ≤ (x1.length : Int) - 1
      · rw [decide_eq_true c2, Bool.true_and]
        exact Ev.pos rfl (ih (i + 1) (l.getD i 0) (by omega) (by omega) (by omega))
      · rw [decide_eq_false c2, Bool.false_and, Bool.false_and]
        exact Ev.neg (by decide) (Ev.now _)
theorem sMatched (x0 x1 l : List Int) (h1 : x1.length ≤ 48) (hl : l.length ≤ 35184372088832) : Ev (fun k => spec_l24Matched.f k x0 x1 l) (mOk x1.length (-1) l && decide (l.length = x0.length)) := by
  unfold spec_l24Matched.f
  have := sMatched_l0 x0 x1 l h1 hl l.length 0 (-1) (by omega) (by omega) (by omega)
  rwa [List.drop_zero] at this
theorem mOk_get (n : Int) (l : List Int) : ∀ last, -1 ≤ last → mOk n last l = true → ∀ j, j < l.length → l.getD j 0 = -1 ∨ 0 ≤ l.getD j 0 ∧ l.getD j 0 ≤ n - 1 := by
  induction l with
  | nil => intro last _ _ j hj; simp at hj
  | cons m ms ih =>
    intro last h0 h j hj
    rw [mOk] at h
    by_cases c : m = -1
    · rw [if_pos c] at h
      cases j with
      | zero => left; simpa using c
      | succ j => exact ih last h0 h j (by simpa using hj)
    · rw [if_neg c, Bool.and_eq_true] at h
      have h1 := of_decide_eq_true h.1
      cases j with
      | zero => right; show 0 ≤ m ∧ m ≤ n - 1; omega
      | succ j => exact ih m (by omega) h.2 j (by simpa using hj)
def rf (n : Int) : Int → List Int → Bool
  | _, [] => true
  | last, m :: ms => decide (last + 1 ≤ m ∧ m ≤ n - 1) && rf n m ms
theorem mOk_rf (n : Int) (l : List Int) : ∀ last, mOk n last l = rf n last (l.filter fun x => !(x == -1)) := by
  induction l with
  | nil => intro last; rfl
  | cons m ms ih =>
    intro last
    rw [mOk]
    by_cases c : m = -1
    · rw [if_pos c, ih, List.filter_cons_of_neg (by simp [c])]
    · rw [if_neg c, ih, List.filter_cons_of_pos (by simp [c]), rf]
theorem rf_iff (n : Int) (f : List Int) : ∀ last, rf n last f = true ↔ (∀ j, j < f.length → last < f.getD j 0 ∧ f.getD j 0 ≤ n - 1) ∧ ∀ j, j + 1 < f.length → f.getD j 0 < f.getD (j + 1) 0 := by
  induction f with
  | nil => intro last; simp [rf]
  | cons m ms ih =>
    intro last
    rw [rf, Bool.and_eq_true, decide_eq_true_iff, ih]
    constructor
    · rintro ⟨h1, h2, h3⟩
      refine ⟨fun j hj => ?_, fun j hj => ?_⟩
      · cases j with
        | zero => show last < m ∧ m ≤ n - 1; omega
        | succ j =>
          have := h2 j (by simpa using hj)
          show last < ms.getD j 0 ∧ ms.getD j 0 ≤ n - 1
          omega
      · cases j with
        | zero => exact (h2 0 (by simpa using hj)).1
        | succ j => exact h3 j (by simpa using hj)
    · rintro ⟨h1, h2⟩
      have h0 := h1 0 (by simp)
      refine ⟨⟨by have : last < m := h0.1; omega, h0.2⟩, fun j hj => ?_, fun j hj => h2 (j + 1) (by simpa using hj)⟩
      have hlt : ∀ j, j < ms.length → m < ms.getD j 0 := by
        intro j
        induction j with
        | zero => intro hj; exact h2 0 (by simpa using hj)
        | succ j ihj =>
          intro hj
          have a := ihj (by omega)
          have b : ms.getD j 0 < ms.getD (j + 1) 0 := h2 (j + 1) (by simpa using hj)
          omega
      exact ⟨hlt j hj, (h1 (j + 1) (by simpa using hj)).2⟩
theorem rf_inc (n : Int) (f : List Int) : (allF (incQ f) f.length 1 && f.all fun x => decide (0 ≤ x ∧ x ≤ n - 1)) = rf n (-1) f := by
  rw [rises_inc, Bool.eq_iff_iff, allF_iff, rf_iff]
  constructor
  · intro h
    refine ⟨fun j hj => ?_, fun j hj => ?_⟩
    · have := h j hj (by omega)
      simp only [risQ, Bool.and_eq_true] at this
      have := of_decide_eq_true this.1
      omega
    · have := h (j + 1) hj (by omega)
      simp only [risQ, Bool.and_eq_true, Bool.or_eq_true, Nat.add_sub_cancel] at this
      rcases this.2 with e | e
      · exact absurd (of_decide_eq_true e) (by omega)
      · exact of_decide_eq_true e
  · rintro ⟨h1, h2⟩ j hj _
    have a := h1 j hj
    simp only [risQ, Bool.and_eq_true, Bool.or_eq_true]
    refine ⟨decide_eq_true (by omega), ?_⟩
    cases j with
    | zero => left; rfl
    | succ j => right; rw [Nat.add_sub_cancel]; exact decide_eq_true (h2 j hj)
theorem iMatched_l0 (x0 x1 l : List Int) (h1 : x1.length ≤ 48) (hl : l.length ≤ 35184372088) (d : Nat) : ∀ (i : Nat) (acc : List Int), i + d = l.length → acc.length ≤ i →
    Ev (fun k => impl_matchedOk.l0 k x0 x1 l acc l l.length i) (decide (l.length = x0.length) && rf x1.length (-1) (acc ++ (l.drop i).filter fun x => !(x == -1))) := by
  induction d with
  | zero =>
    intro i acc h2 h3
    refine Ev.shift ?_
    simp only [impl_matchedOk.l0]
    refine Ev.neg (by omega) ?_
    rw [List.drop_of_length_le (by omega), List.filter_nil, List.append_nil]
    by_cases c : l.length = x0.length
    · rw [decide_eq_true c, Bool.true_and, ← rf_inc]
      refine Ev.pos (by omega) (Ev.bind (inc_ev acc (by omega)) ?_)
      rw [wid (by omega)]
      simp only [allIn_eq, Option.bind_some]
      cases e : allF (incQ acc) acc.length 1
      · exact Ev.neg (by decide) (Ev.now _)
      · exact Ev.pos rfl (Ev.now _)
    · rw [decide_eq_false c, Bool.false_and]
      exact Ev.neg (by omega) (Ev.now _)
  | succ d ih =>
    intro i acc h2 h3
    refine Ev.shift ?_
    simp only [impl_matchedOk.l0]
    rw [drop_cons' l i (by omega), rd_nat, wid (x := (i : Int) + 1) (by omega)]
    refine Ev.pos (by omega) (Ev.pos (by omega) (Ev.pos (by omega) ?_))
    by_cases c : l.getD i 0 = -1
    · rw [List.filter_cons_of_neg (by rw [c]; decide)]
      exact Ev.pos c (ih (i + 1) acc (by omega) (by omega))
    · rw [List.filter_cons_of_pos (by simpa using c)]
      refine Ev.neg c (Ev.pos (by omega) ?_)
      exact Ev.same (ih (i + 1) (acc ++ [l.getD i 0]) (by omega) (by rw [List.length_append, List.length_singleton]; omega)) (by simp)
theorem iMatched (x0 x1 l : List Int) (h1 : x1.length ≤ 48) (hl : l.length ≤ 35184372088) : Ev (fun k => impl_matchedOk.f k x0 x1 l) (mOk x1.length (-1) l && decide (l.length = x0.length)) := by
  unfold impl_matchedOk.f
  have := iMatched_l0 x0 x1 l h1 hl l.length 0 [] (by omega) (by simp)
  rw [List.drop_zero, List.nil_append, ← mOk_rf, Bool.and_comm] at this
  exact this
/-- how matched onsets differ from their beats -/
def offsL (x1 : List Int) : List Int → List Int → List Int
  | b :: bs, m :: ms => if m ≥ 0 then (rd x1 m - b) :: offsL x1 bs ms else offsL x1 bs ms
  | _, _ => []
theorem offsL_length (x1 : List Int) (bs : List Int) : ∀ ms, (offsL x1 bs ms).length ≤ bs.length := by
  induction bs with
  | nil => intro ms; simp [offsL]
  | cons b bs ih =>
    intro ms
    cases ms with
    | nil => simp [offsL]
    | cons m ms =>
      rw [offsL]
      have := ih ms
      split
      · simp; exact this
      · simp; omega
theorem sOffs_l0 (x0 x1 l : List Int) (v0 : onsetsB x0 = true) (v1 : onsetsB x1 = true) (hm : mOk x1.length (-1) l = true) (hl : l.length = x0.length) (d : Nat) : ∀ (i : Nat) (acc : List Int), i + d = l.length → acc.length ≤ i →
    Ev (fun k => spec_l24Offsets.l0 k x0 x1 l acc i) (acc ++ offsL x1 (x0.drop i) (l.drop i), 0) := by
  have h0 := onsetsB_len v0
  induction d with
  | zero =>
    intro i acc h2 h3
    refine Ev.shift ?_
    simp only [spec_l24Offsets.l0]
    refine Ev.neg (by omega) (Ev.some ?_)
    rw [List.drop_of_length_le (by omega), List.drop_of_length_le (by omega), offsL, List.append_nil]
    intro _ _ _ _ h; cases h
  | succ d ih =>
    intro i acc h2 h3
    refine Ev.shift ?_
    simp only [spec_l24Offsets.l0]
    have hg := mOk_get _ _ _ (by omega) hm i (by omega)
    have hb := onsetsB_get v0 i (by omega)
    have ho := onsetsB_rd v1 (l.getD i 0)
    rw [drop_cons' l i (by omega), drop_cons' x0 i (by omega), offsL, rd_nat, rd_nat, wid (x := (i : Int) + 1) (by omega), wid (x := rd x1 (l.getD i 0) - x0.getD i 0) (by omega)]
    refine Ev.pos (by omega) (Ev.pos (by omega) ?_)
    by_cases c : l.getD i 0 ≥ 0
    · rw [if_pos c]
      refine Ev.pos c (Ev.pos (by omega) (Ev.pos (by omega) (Ev.pos (by omega) (Ev.pos (by omega) ?_))))
      exact Ev.same (ih (i + 1) (acc ++ [rd x1 (l.getD i 0) - x0.getD i 0]) (by omega) (by rw [List.length_append, List.length_singleton]; omega)) (by simp)
    · rw [if_neg c]
      exact Ev.neg c (ih (i + 1) acc (by omega) (by omega))
def offsR (x0 x1 l : List Int) : List Int × Int := if onsetsB x0 = true ∧ onsetsB x1 = true then (if mOk x1.length (-1) l = true ∧ l.length = x0.length then (offsL x1 x0 l, 0) else ([], 7)) else ([], 1)
theorem offsR_len (x0 x1 l : List Int) : (offsR x0 x1 l).1.length ≤ 48 := by
  unfold offsR
  split
  · rename_i h
    split
    · have := offsL_length x1 x0 l
      have := onsetsB_len h.1
      simp only; omega
    · simp
  · simp
theorem sOffs (x0 x1 l : List Int) (hl0 : x0.length ≤ 35184372088) (hl1 : x1.length ≤ 35184372088) (hl : l.length ≤ 35184372088) : Ev (fun k => spec_l24Offsets.f k x0 x1 l) (offsR x0 x1 l) := by
  unfold spec_l24Offsets.f offsR
  refine Ev.bind (sOnsets x0 (by omega)) ?_
  cases v0 : onsetsB x0 with
  | false =>
    rw [if_neg (by simp)]
    refine Ev.neg (by decide) (Ev.shift ?_)
    simp only [spec_l24Offsets.j0]; exact Ev.now _
  | true =>
    refine Ev.pos rfl (Ev.bind (sOnsets x1 (by omega)) (Ev.shift ?_))
    simp only [spec_l24Offsets.j0]
    cases v1 : onsetsB x1 with
    | false => rw [if_neg (by simp)]; exact Ev.pos rfl (Ev.now _)
    | true =>
      rw [if_pos (by simp)]
      refine Ev.neg (by decide) (Ev.bind (sMatched x0 x1 l (onsetsB_len v1) (by omega)) ?_)
      by_cases c : mOk x1.length (-1) l = true ∧ l.length = x0.length
      · rw [if_pos c, c.1, decide_eq_true c.2]
        refine Ev.pos rfl ?_
        have := sOffs_l0 x0 x1 l v0 v1 c.1 c.2 l.length 0 [] (by omega) (by simp)
        rwa [List.drop_zero, List.drop_zero, List.nil_append] at this
      · rw [if_neg c]
        refine Ev.neg ?_ (Ev.now _)
        intro h
        rw [Bool.and_eq_true] at h
        exact c ⟨h.1, of_decide_eq_true h.2⟩
theorem iOffs_l0 (x0 x1 l : List Int) (v0 : onsetsB x0 = true) (v1 : onsetsB x1 = true) (hm : mOk x1.length (-1) l = true) (hl : l.length = x0.length) (d : Nat) : ∀ (i : Nat) (acc : List Int), i + d = l.length → acc.length ≤ i →
    Ev (fun k => impl_OffsetsOf.l0 k x0 x1 acc l l.length i) (acc ++ offsL x1 (x0.drop i) (l.drop i), 0) := by
  have h0 := onsetsB_len v0
  induction d with
  | zero =>
    intro i acc h2 h3
    refine Ev.shift ?_
    simp only [impl_OffsetsOf.l0]
    refine Ev.neg (by omega) (Ev.some ?_)
    rw [List.drop_of_length_le (by omega), List.drop_of_length_le (by omega), offsL, List.append_nil]
    intro _ _ _ _ h; cases h
  | succ d ih =>
    intro i acc h2 h3
    refine Ev.shift ?_
    simp only [impl_OffsetsOf.l0]
    have hg := mOk_get _ _ _ (by omega) hm i (by omega)
    have hb := onsetsB_get v0 i (by omega)
    have ho := onsetsB_rd v1 (l.getD i 0)
    rw [drop_cons' l i (by omega), drop_cons' x0 i (by omega), offsL, rd_nat, rd_nat, wid (x := (i : Int) + 1) (by omega), wid (x := rd x1 (l.getD i 0) - x0.getD i 0) (by omega)]
    refine Ev.pos (by omega) (Ev.pos (by omega) (Ev.pos (by omega) ?_))
    by_cases c : l.getD i 0 ≥ 0
    · rw [if_pos c]
      refine Ev.pos c (Ev.pos (by omega) (Ev.pos (by omega) (Ev.pos (by omega) (Ev.pos (by omega) ?_))))
      exact Ev.same (ih (i + 1) (acc ++ [rd x1 (l.getD i 0) - x0.getD i 0]) (by omega) (by rw [List.length_append, List.length_singleton]; omega)) (by simp)
    · rw [if_neg c]
      exact Ev.neg c (ih (i + 1) acc (by omega) (by omega))
theorem iOffs (x0 x1 l : List Int) (hl0 : x0.length ≤ 35184372088) (hl1 : x1.length ≤ 35184372088) (hl : l.length ≤ 35184372088) : Ev (fun k => impl_OffsetsOf.f k x0 x1 l) (offsR x0 x1 l) := by
  unfold impl_OffsetsOf.f offsR
  refine Ev.bind (iOnsets x0 (by omega)) ?_
  cases v0 : onsetsB x0 with
  | false =>
    rw [if_neg (by simp)]
    refine Ev.neg (by decide) (Ev.shift ?_)
    simp only [impl_OffsetsOf.j0]; exact Ev.now _
  | true =>
    refine Ev.pos rfl (Ev.bind (iOnsets x1 (by omega)) (Ev.shift ?_))
    simp only [impl_OffsetsOf.j0]
    cases v1 : onsetsB x1 with
    | false => rw [if_neg (by simp)]; exact Ev.pos rfl (Ev.now _)
    | true =>
      rw [if_pos (by simp)]
      refine Ev.neg (by decide) (Ev.bind (iMatched x0 x1 l (onsetsB_len v1) (by omega)) ?_)
      by_cases c : mOk x1.length (-1) l = true ∧ l.length = x0.length
      · rw [if_pos c, c.1, decide_eq_true c.2]
        refine Ev.pos rfl ?_
        have := iOffs_l0 x0 x1 l v0 v1 c.1 c.2 l.length 0 [] (by omega) (by simp)
        rwa [List.drop_zero, List.drop_zero, List.nil_append] at this
      · rw [if_neg c]
        refine Ev.neg ?_ (Ev.now _)
        intro h
        rw [Bool.and_eq_true] at h
        exact c ⟨h.1, of_decide_eq_true h.2⟩
theorem sorted_eq {L S : List Int} (hp : S.Perm L) (hs : S.Pairwise (· ≤ ·)) : S = L.mergeSort fun x y => decide (x ≤ y) := by
  have h2 : (L.mergeSort fun x y => decide (x ≤ y)).Pairwise fun a b => decide (a ≤ b) = true := List.pairwise_mergeSort (fun a b c h1 h2 => by simp only [decide_eq_true_eq] at *; omega) (fun a b => by simp only [Bool.or_eq_true, decide_eq_true_eq]; omega) L
  refine List.Perm.eq_of_pairwise (le := fun a b : Int => a ≤ b) (fun a b _ _ h1 h2 => by omega) hs (h2.imp fun h => of_decide_eq_true h) (hp.trans (List.mergeSort_perm L _).symm)
theorem ms_pairwise (L : List Int) : (L.mergeSort fun x y => decide (x ≤ y)).Pairwise (· ≤ ·) := by
  have h2 : (L.mergeSort fun x y => decide (x ≤ y)).Pairwise fun a b => decide (a ≤ b) = true := List.pairwise_mergeSort (fun a b c h1 h2 => by simp only [decide_eq_true_eq] at *; omega) (fun a b => by simp only [Bool.or_eq_true, decide_eq_true_eq]; omega) L
  exact h2.imp fun h => of_decide_eq_true h
/-- sorted by insertion -/
theorem ins_sorted (S : List Int) (x : Int) (a : Nat) (hs : S.Pairwise (· ≤ ·)) (h1 : ∀ y ∈ S.drop a, x ≤ y) (h2 : ∀ y ∈ S.take a, y ≤ x) : (S.take a ++ x :: S.drop a).Pairwise (· ≤ ·) := by
  rw [List.pairwise_append]
  refine ⟨hs.sublist (List.take_sublist _ _), List.pairwise_cons.2 ⟨h1, hs.sublist (List.drop_sublist _ _)⟩, ?_⟩
  intro y hy z hz
  rcases List.mem_cons.1 hz with rfl | hz
  · exact h2 y hy
  · exact Int.le_trans (h2 y hy) (h1 z hz)
theorem ins_perm (S : List Int) (x : Int) (a : Nat) : (S.take a ++ x :: S.drop a).Perm (x :: S) :=
  List.perm_middle.trans (List.Perm.cons _ (by rw [List.take_append_drop]))
theorem own_f (l : List Int) (h : l.length < 17592186044416) : spec_l00Own.f l = some l := by
  unfold spec_l00Own.f
  simp only [Option.bind_some, List.nil_append, List.length_nil, Nat.zero_add]
  rw [if_pos h]
theorem sMed_l1 (G : List Int) (hG : G.length ≤ 48) (S : List Int) (hs : S.Pairwise (· ≤ ·)) (i : Nat) (hi : i < G.length) (hp : S.Perm (G.take i)) (hl : S.length = i) (r : Int)
    (H : ∀ S' : List Int, S'.Pairwise (· ≤ ·) → S'.Perm (G.take (i + 1)) → S'.length = i + 1 → Ev (fun k => spec_l24Median.l0 k G S' ((i + 1 : Nat) : Int)) r) :
    ∀ a : Nat, a ≤ S.length → (∀ y ∈ S.drop a, G.getD i 0 ≤ y) → Ev (fun k => spec_l24Median.l1 k G S i a) r := by
  have HI : ∀ a : Nat, a ≤ S.length → (∀ y ∈ S.drop a, G.getD i 0 ≤ y) → (∀ y ∈ S.take a, y ≤ G.getD i 0) → Ev (fun k => spec_l24Median.l0 k G ((S.take a ++ [G.getD i 0]) ++ S.drop a) ((i + 1 : Nat) : Int)) r := by
    intro a ha h1 h2
    have e : (S.take a ++ [G.getD i 0]) ++ S.drop a = S.take a ++ G.getD i 0 :: S.drop a := by simp
    rw [e]
    refine H _ (ins_sorted S _ a hs h1 h2) ?_ ?_
    · rw [show G.take (i + 1) = G.take i ++ [G.getD i 0] by rw [List.take_add_one, List.getElem?_eq_getElem hi, Option.toList_some, List.getD_eq_getElem?_getD, List.getElem?_eq_getElem hi]; rfl]
      exact (ins_perm S _ a).trans ((List.Perm.cons _ hp).trans (List.perm_append_singleton _ _).symm)
    · simp; omega
  intro a
  induction a with
  | zero =>
    intro ha h1
    refine Ev.shift ?_
    simp only [spec_l24Median.l1]
    refine Ev.neg (by omega) (Ev.pos (by omega) (Ev.pos (by omega) ?_))
    rw [own_f _ (by simp)]
    simp only [Option.bind_some, rd_nat]
    refine Ev.pos (by omega) (Ev.pos (by omega) (Ev.pos (by simp) (Ev.pos (by simp; omega) ?_)))
    rw [wid (by omega)]
    exact HI 0 (by omega) h1 (by simp)
  | succ a ih =>
    intro ha h1
    refine Ev.shift ?_
    have e1 : wrap64 (((a + 1 : Nat) : Int) - 1) = (a : Int) := by rw [wid (by omega)]; omega
    simp only [spec_l24Median.l1, e1, rd_nat]
    refine Ev.pos (by omega) (Ev.pos (by omega) (Ev.pos (by omega) (Ev.pos (by omega) (Ev.pos (by omega) ?_))))
    by_cases c : S.getD a 0 > G.getD i 0
    · refine Ev.pos c (ih (by omega) ?_)
      rw [List.drop_eq_getElem_cons (by omega : a < S.length)]
      intro y hy
      rcases List.mem_cons.1 hy with rfl | hy
      · rw [List.getD_eq_getElem?_getD, List.getElem?_eq_getElem (by omega : a < S.length)] at c
        simp only [Option.getD_some] at c; omega
      · exact h1 y hy
    · refine Ev.neg c (Ev.pos (by omega) (Ev.pos (by omega) ?_))
      rw [own_f _ (by simp; omega)]
      simp only [Option.bind_some]
      refine Ev.pos (by simp; omega) (Ev.pos (by simp; omega) ?_)
      rw [wid (by omega)]
      refine HI (a + 1) ha h1 ?_
      intro y hy
      obtain ⟨j, hj, rfl⟩ := List.getElem_of_mem hy
      rw [List.length_take] at hj
      rw [List.getElem_take]
      rw [List.getD_eq_getElem?_getD, List.getElem?_eq_getElem (by omega : a < S.length)] at c
      simp only [Option.getD_some] at c
      rcases Nat.lt_or_ge j a with h | h
      · have := List.pairwise_iff_getElem.1 hs j a (by omega) (by omega) h
        omega
      · obtain rfl : j = a := by omega
        omega
def medR (G : List Int) : Int := rd (G.mergeSort fun x y => decide (x ≤ y)) (((G.length - 1) / 2 : Nat) : Int)
theorem med_ix (n : Nat) (h : n ≤ 48) (h1 : 0 < n) : wrap64 (Int.tdiv (wrap64 ((n : Int) - 1)) 2) = (((n - 1) / 2 : Nat) : Int) := by
  rw [wid (x := (n : Int) - 1) (by omega), Int.tdiv_eq_ediv_of_nonneg (by omega), wid (by omega)]
  omega
theorem sMed_l0 (G : List Int) (hG : G.length ≤ 48) (h1 : 0 < G.length) (d : Nat) : ∀ (i : Nat) (S : List Int), i + d = G.length → S.Pairwise (· ≤ ·) → S.Perm (G.take i) → S.length = i → Ev (fun k => spec_l24Median.l0 k G S i) (medR G) := by
  induction d with
  | zero =>
    intro i S h2 h3 h4 h5
    rw [List.take_of_length_le (by omega)] at h4
    refine Ev.shift ?_
    simp only [spec_l24Median.l0]
    rw [show (S.length : Int) = (G.length : Int) by omega, med_ix _ hG h1]
    refine Ev.neg (by omega) (Ev.pos (by omega) (Ev.pos (by omega) (Ev.some ?_)))
    rw [sorted_eq h4 h3]; rfl
  | succ d ih =>
    intro i S h2 h3 h4 h5
    refine Ev.shift ?_
    simp only [spec_l24Median.l0]
    refine Ev.pos (by omega) ?_
    exact sMed_l1 G hG S h3 i (by omega) h4 h5 _ (fun S' a1 a2 a3 => ih (i + 1) S' (by omega) a1 a2 a3) S.length (Nat.le_refl _) (by rw [List.drop_of_length_le (Nat.le_refl _)]; simp)
theorem sMed (G : List Int) (hG : G.length ≤ 48) (h1 : 0 < G.length) : Ev (fun k => spec_l24Median.f k G) (medR G) := by
  unfold spec_l24Median.f
  exact sMed_l0 G hG h1 G.length 0 [] (by omega) List.Pairwise.nil (by rw [List.take_zero]) rfl
theorem medOff (l0 l1 l2 : List Int) (g0 : l0.length ≤ 35184372088) (g1 : l1.length ≤ 35184372088) (g2 : l2.length ≤ 35184372088) : ∃ q, Ev (fun k => spec_MedianOffset.f k l0 l1 l2) q ∧ Ev (fun k => impl_MedianOffset.f k l0 l1 l2) q := by
  have hS := sOffs l0 l1 l2 g0 g1 g2
  have hI0 : Ev (fun k => impl_OffsetsOf.f k l0 l1 l2) (offsR l0 l1 l2) := iOffs l0 l1 l2 g0 g1 g2
  have hr := offsR_len l0 l1 l2
  generalize offsR l0 l1 l2 = q at hS hI0 hr
  obtain ⟨G, c⟩ := q
  simp only at hr
  unfold spec_MedianOffset.f impl_MedianOffset.f
  by_cases hc : c = 0
  · subst hc
    by_cases z : G.length = 0
    · refine ⟨(0, 3), Ev.bind hS ?_, Ev.bind hI0 ?_⟩
      · refine Ev.pos rfl (Ev.shift ?_)
        simp only [spec_MedianOffset.j0]
        exact Ev.pos (by simpa using z) (Ev.neg (by decide) (Ev.now _))
      · exact Ev.pos rfl (Ev.pos (by simp only; omega) (Ev.now _))
    · refine ⟨(medR G, 0), Ev.bind hS ?_, Ev.bind hI0 ?_⟩
      · refine Ev.pos rfl (Ev.shift ?_)
        simp only [spec_MedianOffset.j0]
        refine Ev.neg (by simpa using z) (Ev.pos (by trivial) (Ev.bind (sMed G (by omega) (by omega)) (Ev.now _)))
      · refine Ev.pos rfl (Ev.neg (by simp only; omega) ?_)
        unfold slices_Sort_int64_int64.f
        simp only
        rw [if_pos (by omega)]
        simp only [Option.bind_some]
        rw [med_ix _ (by omega) (by omega)]
        exact Ev.pos (by omega) (Ev.pos (by omega) (Ev.now _))
  · refine ⟨(0, c), Ev.bind hS ?_, Ev.bind hI0 ?_⟩
    · refine Ev.neg hc (Ev.shift ?_)
      simp only [spec_MedianOffset.j0]
      exact Ev.neg (by simp) (Ev.neg hc (Ev.now _))
    · exact Ev.neg hc (Ev.now _)
theorem FnExactMedianOffset : laws_FnExactMedianOffset.Pure := by
  intro l0 l1 l2 _ _ _ _ _ _ _ _ _
  refine Ev.rounds (g := fun k => laws_FnExactMedianOffset.f k l0 l1 l2) ?_
  unfold laws_FnExactMedianOffset.f
  by_cases h0 : (l0.length : Int) > 1048576
  · exact Ev.pos h0 (Ev.now _)
  refine Ev.neg h0 ?_
  by_cases h1 : (l1.length : Int) > 1048576
  · exact Ev.pos h1 (Ev.now _)
  refine Ev.neg h1 ?_
  by_cases h2 : (l2.length : Int) > 1048576
  · exact Ev.pos h2 (Ev.now _)
  refine Ev.neg h2 ?_
  have g0 : l0.length ≤ 35184372088832 := by omega
  have g1 : l1.length ≤ 35184372088832 := by omega
  have g2 : l2.length ≤ 35184372088832 := by omega
  obtain ⟨⟨q1, q2⟩, hS, hI⟩ := medOff l0 l1 l2 (by omega) (by omega) (by omega)
  repeat (first | exact Ev.now _ | refine Ev.bind hS ?_ | refine Ev.bind hI ?_ | refine Ev.bind (toI _ (by assumption)) ?_ | refine Ev.bind (eqI _ (by assumption)) ?_ | refine Ev.pos (by with_reducible rfl) ?_ | refine Ev.neg (by omega) ?_ | refine Ev.neg (by simp; done) ?_ | refine Ev.pos (by omega) ?_ | (refine Ev.shift ?_; simp only [laws_FnExactMedianOffset.j0]))

end Go.Proofs.Ytapjnnaaflinlaa.Pure
