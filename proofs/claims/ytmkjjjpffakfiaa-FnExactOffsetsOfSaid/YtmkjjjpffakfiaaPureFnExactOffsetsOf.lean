/- The pure statement of the law FnExactOffsetsOf: what the Go functions compute, told by plain Lean functions, is what the law asks, for all arguments. No condition beyond the printed ones. -/
import Derived.Test.YtmkjjjpffakfiaaPFnExactOffsetsOfx4
import Derived.Test.YtmkjjjpffakfiaaXW
namespace Go.Proofs.Ytmkjjjpffakfiaa.Pure
open Go.RowKit Go.Proofs.Ytmkjjjpffakfiaa.PFnExactOffsetsOf Go.Proofs.YtmkjjjpffakfiaaW.PrintWords Go.Proofs.YtmkjjjpffakfiaaW.PrintLast Go.Proofs.YtmkjjjpffakfiaaW.PrintMore Go.Proofs.YtmkjjjpffakfiaaXW
set_option linter.unusedVariables false
set_option linter.unusedSimpArgs false
theorem toI_l0 (l : List Int) (hl : l.length ≤ 35184372088832) (d : Nat) : ∀ (i : Nat) (acc : List Int), i + d = l.length → acc.length = l.length → acc.take i = l.take i → Ev (fun k => laws_toInt64S.l0 k l acc i) l := by
  induction d with
  | zero =>
    intro i acc h1 h2 h3
    refine Ev.shift ?_
    simp only [laws_toInt64S.l0]
    refine Ev.neg (by omega) ?_
    refine Ev.some ?_
    rw [List.take_of_length_le (by omega), List.take_of_length_le (by omega)] at h3
    rw [h3]
  | succ d ih =>
    intro i acc h1 h2 h3
    refine Ev.shift ?_
    simp only [laws_toInt64S.l0]
    refine Ev.pos (by omega) (Ev.pos (by omega) (Ev.pos (by omega) ?_))
    rw [wid (by omega), rd_get l i (by omega), Int.toNat_natCast]
    refine ih (i + 1) (acc.set i l[i]) (by omega) (by rw [List.length_set, h2]) ?_
    rw [List.take_succ_eq_append_getElem (by rw [List.length_set]; omega), List.take_succ_eq_append_getElem (by omega), List.take_set_of_le (by omega), List.getElem_set_self, h3]
theorem toI (l : List Int) (hl : l.length ≤ 35184372088832) : Ev (fun k => laws_toInt64S.f k l) l := by
  unfold laws_toInt64S.f
  refine Ev.pos (by omega) (Ev.pos (by omega) ?_)
  rw [Int.toNat_natCast]
  exact toI_l0 l hl l.length 0 _ (by omega) (by simp) (by simp)
theorem eqI_l0 (l : List Int) (hl : l.length ≤ 35184372088832) (d : Nat) : ∀ (i : Nat), i + d = l.length → Ev (fun k => laws_eqInt64S.l0 k l l i) true := by
  induction d with
  | zero =>
    intro i h1
    refine Ev.shift ?_
    simp only [laws_eqInt64S.l0]
    exact Ev.neg (by omega) (Ev.now _)
  | succ d ih =>
    intro i h1
    refine Ev.shift ?_
    simp only [laws_eqInt64S.l0]
    refine Ev.pos (by omega) (Ev.pos (by omega) (Ev.pos (by omega) (Ev.pos (by trivial) ?_)))
    rw [wid (by omega)]
    exact ih (i + 1) (by omega)
theorem eqI (l : List Int) (hl : l.length ≤ 35184372088832) : Ev (fun k => laws_eqInt64S.f k l l) true := by
  unfold laws_eqInt64S.f
  exact Ev.pos rfl (eqI_l0 l hl l.length 0 (by omega))
/-- what marks leave: from m on, one by one -/
def marks (m : Int) : Nat → List Int
  | 0 => []
  | n + 1 => m :: marks (m + 1) n
theorem marks_length (n : Nat) : ∀ m, (marks m n).length = n := by
  induction n with
  | zero => intro m; rfl
  | succ n ih => intro m; simp [marks, ih]
theorem marks_get (n : Nat) : ∀ (m : Int) (i : Nat) (h : i < (marks m n).length), (marks m n)[i] = m + i := by
  induction n with
  | zero => intro m i h; simp [marks] at h
  | succ n ih =>
    intro m i h
    cases i with
    | zero => simp [marks]
    | succ i => simp only [marks, List.getElem_cons_succ]; rw [ih]; omega
theorem marks_snoc (n : Nat) : ∀ m, marks m (n + 1) = marks m n ++ [m + n] := by
  induction n with
  | zero => intro m; simp [marks]
  | succ n ih =>
    intro m
    rw [marks, ih, marks, List.cons_append]
    congr 3
    simp; omega
theorem markI_l0 (m0 : Int) (n : Nat) (h0 : 0 ≤ m0) (h1 : m0 + n ≤ 9000000000000000000) (d : Nat) : ∀ (i : Nat) (acc : List Int), i + d = n → acc.length = n → acc.take i = marks m0 i → Ev (fun k => laws_markInt64S.l0 k acc (m0 + i) i) (m0 + n, marks m0 n) := by
  induction d with
  | zero =>
    intro i acc h2 h3 h4
    refine Ev.shift ?_
    simp only [laws_markInt64S.l0]
    refine Ev.neg (by omega) (Ev.some ?_)
    rw [List.take_of_length_le (by omega)] at h4
    rw [h4, show i = n by omega]
  | succ d ih =>
    intro i acc h2 h3 h4
    refine Ev.shift ?_
    simp only [laws_markInt64S.l0]
    refine Ev.pos (by omega) (Ev.pos (by omega) ?_)
    rw [wid (x := m0 + i + 1) (by omega), wid (x := (i : Int) + 1) (by omega), Int.toNat_natCast, show m0 + (i : Int) + 1 = m0 + ((i + 1 : Nat) : Int) by omega]
    refine ih (i + 1) _ (by omega) (by rw [List.length_set, h3]) ?_
    rw [List.take_succ_eq_append_getElem (by rw [List.length_set]; omega), List.take_set_of_le (by omega), List.getElem_set_self, h4, marks_snoc]
theorem markI (l : List Int) (m : Int) (h0 : 0 ≤ m) (h1 : m + l.length ≤ 9000000000000000000) : Ev (fun k => laws_markInt64S.f k l m) (m + l.length, marks m l.length) := by
  unfold laws_markInt64S.f
  have := markI_l0 m l.length h0 h1 l.length 0 l (by omega) rfl (by simp [marks])
  simpa using this
theorem heldI_l0 (m0 : Int) (n : Nat) (h0 : 0 ≤ m0) (h1 : m0 + n ≤ 9000000000000000000) (d : Nat) : ∀ (i : Nat), i + d = n → Ev (fun k => laws_heldInt64S.l0 k (marks m0 n) (m0 + i) i) (m0 + n) := by
  induction d with
  | zero =>
    intro i h2
    refine Ev.shift ?_
    simp only [laws_heldInt64S.l0, marks_length]
    exact Ev.neg (by omega) (Ev.some (by rw [show i = n by omega]))
  | succ d ih =>
    intro i h2
    refine Ev.shift ?_
    simp only [laws_heldInt64S.l0, marks_length]
    refine Ev.pos (by omega) (Ev.pos (by omega) (Ev.pos (by rw [rd_get _ _ (by rw [marks_length]; omega), marks_get]) ?_))
    rw [wid (x := m0 + i + 1) (by omega), wid (x := (i : Int) + 1) (by omega), show m0 + (i : Int) + 1 = m0 + ((i + 1 : Nat) : Int) by omega]
    exact ih (i + 1) (by omega)
theorem heldI (n : Nat) (m : Int) (h0 : 0 ≤ m) (h1 : m + n ≤ 9000000000000000000) : Ev (fun k => laws_heldInt64S.f k (marks m n) m) (m + n) := by
  unfold laws_heldInt64S.f
  have := heldI_l0 m n h0 h1 n 0 (by omega)
  simpa using this
theorem in_eq (a b c : Int) : spec_l00In.f a b c = some (decide (b ≤ a ∧ a ≤ c)) := by
  unfold spec_l00In.f; split <;> simp_all; omega
theorem within_eq (a b c : Int) : impl_within.f a b c = some (decide (b ≤ a ∧ a ≤ c)) := by
  unfold impl_within.f; split <;> simp_all; omega
theorem allIn_eq (l : List Int) (a b : Int) : impl_allWithin.f l a b = some (l.all fun x => decide (a ≤ x ∧ x ≤ b)) := by
  unfold impl_allWithin.f
  rw [List.not_any_eq_all_not]
  congr 2
  funext x
  simp [allP]
def risQ (l : List Int) (lo hi : Int) (j : Nat) : Bool := decide (lo ≤ l.getD j 0 ∧ l.getD j 0 ≤ hi) && (decide (j = 0) || decide (l.getD (j - 1) 0 < l.getD j 0))
theorem rises_l0 (l : List Int) (lo hi : Int) (hl : l.length ≤ 35184372088832) (d : Nat) : ∀ (i : Nat), i + d = l.length → Ev (fun k => spec_l00Rises.l0 k l lo hi i) (allF (risQ l lo hi) l.length i) := by
  induction d with
  | zero =>
    intro i h1
    refine Ev.shift ?_
    simp only [spec_l00Rises.l0]
    exact Ev.neg (by omega) (Ev.some (by rw [allF_end _ (by omega)]))
  | succ d ih =>
    intro i h1
    refine Ev.shift ?_
    simp only [spec_l00Rises.l0, in_eq, Option.bind_some]
    refine Ev.pos (by omega) (Ev.pos (by omega) ?_)
    rw [rd_nat]
    by_cases hb : lo ≤ l.getD i 0 ∧ l.getD i 0 ≤ hi
    · refine Ev.pos (by simpa using hb) ?_
      cases i with
      | zero =>
        refine Ev.neg (by omega) ?_
        rw [wid (by omega), allF_yes _ (by simp only [risQ]; simp; exact hb)]
        exact ih 1 (by omega)
      | succ i =>
        refine Ev.pos (by omega) ?_
        have e1 : wrap64 (((i + 1 : Nat) : Int) - 1) = (i : Int) := by rw [wid (by omega)]; omega
        rw [e1, rd_nat]
        refine Ev.pos (by omega) (Ev.pos (by omega) ?_)
        by_cases hc : l.getD i 0 < l.getD (i + 1) 0
        · refine Ev.neg (by omega) ?_
          rw [wid (by omega), allF_yes _ (by simp only [risQ]; simp; exact ⟨hb, hc⟩)]
          exact ih (i + 2) (by omega)
        · refine Ev.pos (by omega) (Ev.some ?_)
          rw [allF_no _ (by omega) (by simp only [risQ, Nat.add_sub_cancel, decide_eq_false hc]; simp)]
    · refine Ev.neg (by simpa using hb) (Ev.some ?_)
      rw [allF_no _ (by omega) (by simp only [risQ]; rw [decide_eq_false hb]; rfl)]
theorem rises_ev (l : List Int) (lo hi : Int) (hl : l.length ≤ 35184372088832) : Ev (fun k => spec_l00Rises.f k l lo hi) (allF (risQ l lo hi) l.length 0) := by
  unfold spec_l00Rises.f
  exact rises_l0 l lo hi hl l.length 0 (by omega)
def incQ (l : List Int) (j : Nat) : Bool := decide (l.getD (j - 1) 0 < l.getD j 0)
theorem inc_l0 (l : List Int) (hl : l.length ≤ 35184372088832) (d : Nat) : ∀ (i : Nat), 1 ≤ i → l.length ≤ i + d → Ev (fun k => impl_increasing.l0 k l i) (allF (incQ l) l.length i) := by
  induction d with
  | zero =>
    intro i h0 h1
    refine Ev.shift ?_
    simp only [impl_increasing.l0]
    exact Ev.neg (by omega) (Ev.some (by rw [allF_end _ (by omega)]))
  | succ d ih =>
    intro i h0 h1
    by_cases hi : i < l.length
    · refine Ev.shift ?_
      simp only [impl_increasing.l0]
      have e1 : wrap64 ((i : Int) - 1) = ((i - 1 : Nat) : Int) := by rw [wid (by omega)]; omega
      rw [e1, rd_nat, rd_nat]
      refine Ev.pos (by omega) (Ev.pos (by omega) (Ev.pos (by omega) (Ev.pos (by omega) ?_)))
      by_cases hc : l.getD (i - 1) 0 < l.getD i 0
      · refine Ev.neg (by omega) ?_
        rw [wid (by omega), allF_yes _ (by simp only [incQ]; simpa using hc)]
        exact ih (i + 1) (by omega) (by omega)
      · refine Ev.pos (by omega) (Ev.some ?_)
        rw [allF_no _ (by omega) (by simp only [incQ]; simpa using hc)]
    · refine Ev.shift ?_
      simp only [impl_increasing.l0]
      exact Ev.neg (by omega) (Ev.some (by rw [allF_end _ (by omega)]))
theorem inc_ev (l : List Int) (hl : l.length ≤ 35184372088832) : Ev (fun k => impl_increasing.f k l) (allF (incQ l) l.length 1) := by
  unfold impl_increasing.f
  exact inc_l0 l hl l.length 1 (by omega) (by omega)
/-- The one test is the two others. -/
theorem rises_inc (l : List Int) (lo hi : Int) : (allF (incQ l) l.length 1 && l.all fun x => decide (lo ≤ x ∧ x ≤ hi)) = allF (risQ l lo hi) l.length 0 := by
  rw [Bool.eq_iff_iff, Bool.and_eq_true, allF_iff, allF_iff, all_iff_get]
  constructor
  · rintro ⟨h1, h2⟩ j hj _
    simp only [risQ, Bool.and_eq_true, Bool.or_eq_true]
    refine ⟨h2 j hj, ?_⟩
    by_cases e : j = 0
    · left; simpa using e
    · right; exact h1 j hj (by omega)
  · intro h
    refine ⟨fun j hj h1 => ?_, fun j hj => ?_⟩
    · have := h j hj (by omega)
      simp only [risQ, Bool.and_eq_true, Bool.or_eq_true] at this
      rcases this.2 with e | e
      · simp at e; omega
      · exact e
    · have := h j hj (by omega)
      simp only [risQ, Bool.and_eq_true] at this
      exact this.1
def onsetsB (l : List Int) : Bool := decide (l.length ≤ 48) && allF (risQ l 0 10000000) l.length 0
theorem sOnsets (l : List Int) (hl : l.length ≤ 35184372088832) : Ev (fun k => spec_l24Ok.f k l) (onsetsB l) := by
  unfold spec_l24Ok.f onsetsB
  by_cases h : l.length ≤ 48
  · refine Ev.pos (by omega) (Ev.bind (rises_ev l _ _ hl) (Ev.some ?_))
    simp [h]
  · refine Ev.neg (by omega) (Ev.some ?_)
    simp [h]
theorem iOnsets (l : List Int) (hl : l.length ≤ 35184372088832) : Ev (fun k => impl_ValidOnsets.f k l) (onsetsB l) := by
  unfold impl_ValidOnsets.f onsetsB
  by_cases h : l.length ≤ 48
  · refine Ev.pos (by omega) (Ev.bind (inc_ev l hl) ?_)
    rw [← rises_inc]
    simp only [allIn_eq, Option.bind_some, h, decide_true, Bool.true_and]
    cases e : allF (incQ l) l.length 1
    · exact Ev.neg (by decide) (Ev.now _)
    · exact Ev.pos rfl (Ev.now _)
  · refine Ev.neg (by omega) (Ev.some ?_)
    simp [h]
theorem onsetsB_len {l : List Int} (h : onsetsB l = true) : l.length ≤ 48 := by
  unfold onsetsB at h; simp only [Bool.and_eq_true, decide_eq_true_eq] at h; exact h.1
theorem onsetsB_get {l : List Int} (h : onsetsB l = true) (j : Nat) (hj : j < l.length) : 0 ≤ l.getD j 0 ∧ l.getD j 0 ≤ 10000000 := by
  unfold onsetsB at h; simp only [Bool.and_eq_true] at h
  have := (allF_iff _).1 h.2 j hj (Nat.zero_le _)
  simp only [risQ, Bool.and_eq_true] at this
  exact of_decide_eq_true this.1
theorem onsetsB_lt {l : List Int} (h : onsetsB l = true) (j : Nat) (hj : j + 1 < l.length) : l.getD j 0 < l.getD (j + 1) 0 := by
  unfold onsetsB at h; simp only [Bool.and_eq_true] at h
  have := (allF_iff _).1 h.2 (j + 1) hj (Nat.zero_le _)
  simp only [risQ, Bool.and_eq_true, Bool.or_eq_true, Nat.add_sub_cancel] at this
  rcases this.2 with e | e
  · exact absurd (of_decide_eq_true e) (by omega)
  · exact of_decide_eq_true e
theorem onsetsB_rd {l : List Int} (h : onsetsB l = true) (x : Int) : 0 ≤ rd l x ∧ rd l x ≤ 10000000 := by
  unfold rd
  by_cases hx : x.toNat < l.length
  · exact onsetsB_get h _ hx
  · rw [List.getD_eq_getElem?_getD, List.getElem?_eq_none (by omega)]; simp
/-- what is matched is an index each or -1, rising -/
def mOk (n : Int) : Int → List Int → Bool
  | _, [] => true
  | last, m :: ms => if m = -1 then mOk n last ms else decide (last + 1 ≤ m ∧ m ≤ n - 1) && mOk n m ms
theorem drop_cons' (l : List Int) (i : Nat) (h : i < l.length) : l.drop i = l.getD i 0 :: l.drop (i + 1) := by
  rw [List.drop_eq_getElem_cons h, List.getD_eq_getElem?_getD, List.getElem?_eq_getElem h, Option.getD_some]
theorem sMatched_l0 (x0 x1 l : List Int) (h1 : x1.length ≤ 48) (hl : l.length ≤ 35184372088832) (d : Nat) : ∀ (i : Nat) (last : Int), i + d = l.length → -1 ≤ last → last ≤ (x1.length : Int) →
    Ev (fun k => spec_l24Matched.l0 k x0 x1 l last i) (mOk x1.length last (l.drop i) && decide (l.length = x0.length)) := by
  induction d with
  | zero =>
    intro i last h2 h3 h4
    refine Ev.shift ?_
    simp only [spec_l24Matched.l0]
    refine Ev.neg (by omega) (Ev.some ?_)
    rw [List.drop_of_length_le (by omega), mOk, Bool.true_and]
    congr 1
    rw [Bool.eq_iff_iff]; simp; omega
  | succ d ih =>
    intro i last h2 h3 h4
    refine Ev.shift ?_
    simp only [spec_l24Matched.l0, in_eq, Option.bind_some]
    rw [drop_cons' l i (by omega), mOk, rd_nat]
    rw [wid (x := (i : Int) + 1) (by omega), wid (x := last + 1) (by omega), wid (x := (x1.length : Int) - 1) (by omega)]
    refine Ev.pos (by omega) (Ev.pos (by omega) ?_)
    by_cases c : l.getD i 0 = -1
    · rw [if_pos c]
      exact Ev.pos c (ih (i + 1) last (by omega) h3 h4)
    · rw [if_neg c]
      refine Ev.neg c ?_
      by_cases c2 : last + 1 ≤ l.getD i 0 ∧ l.getD i 0 ≤ (x1.length : Int) - 1
      · rw [decide_eq_true c2, Bool.true_and]
        exact Ev.pos rfl (ih (i + 1) (l.getD i 0) (by omega) (by omega) (by omega))
      · rw [decide_eq_false c2, Bool.false_and, Bool.false_and]
        exact Ev.neg (by decide) (Ev.now _)
theorem sMatched (x0 x1 l : List Int) (h1 : x1.length ≤ 48) (hl : l.length ≤ 35184372088832) : Ev (fun k => spec_l24Matched.f k x0 x1 l) (mOk x1.length (-1) l && decide (l.length = x0.length)) := by
  unfold spec_l24Matched.f
  have := sMatched_l0 x0 x1 l h1 hl l.length 0 (-1) (by omega) (by omega) (by omega)
  rwa [List.drop_zero] at this
theorem mOk_get (n : Int) (l : List Int) : ∀ last, -1 ≤ last → mOk n last l = true → ∀ j, j < l.length → l.getD j 0 = -1 ∨ 0 ≤ l.getD j 0 ∧ l.getD j 0 ≤ n - 1 := by
  induction l with
  | nil => intro last _ _ j hj; simp at hj
  | cons m ms ih =>
    intro last h0 h j hj
    rw [mOk] at h
    by_cases c : m = -1
    · rw [if_pos c] at h
      cases j with
      | zero => left; simpa using c
      | succ j => exact ih last h0 h j (by simpa using hj)
    · rw [if_neg c, Bool.and_eq_true] at h
      have h1 := of_decide_eq_true h.1
      cases j with
      | zero => right; show 0 ≤ m ∧ m ≤ n - 1; omega
      | succ j => exact ih m (by omega) h.2 j (by simpa using hj)
def rf (n : Int) : Int → List Int → Bool
  | _, [] => true
  | last, m :: ms => decide (last + 1 ≤ m ∧ m ≤ n - 1) && rf n m ms
theorem mOk_rf (n : Int) (l : List Int) : ∀ last, mOk n last l = rf n last (l.filter fun x => !(x == -1)) := by
  induction l with
  | nil => intro last; rfl
  | cons m ms ih =>
    intro last
    rw [mOk]
    by_cases c : m = -1
    · rw [if_pos c, ih, List.filter_cons_of_neg (by simp [c])]
    · rw [if_neg c, ih, List.filter_cons_of_pos (by simp [c]), rf]
theorem rf_iff (n : Int) (f : List Int) : ∀ last, rf n last f = true ↔ (∀ j, j < f.length → last < f.getD j 0 ∧ f.getD j 0 ≤ n - 1) ∧ ∀ j, j + 1 < f.length → f.getD j 0 < f.getD (j + 1) 0 := by
  induction f with
  | nil => intro last; simp [rf]
  | cons m ms ih =>
    intro last
    rw [rf, Bool.and_eq_true, decide_eq_true_iff, ih]
    constructor
    · rintro ⟨h1, h2, h3⟩
      refine ⟨fun j hj => ?_, fun j hj => ?_⟩
      · cases j with
        | zero => show last < m ∧ m ≤ n - 1; omega
        | succ j =>
          have := h2 j (by simpa using hj)
          show last < ms.getD j 0 ∧ ms.getD j 0 ≤ n - 1
          omega
      · cases j with
        | zero => exact (h2 0 (by simpa using hj)).1
        | succ j => exact h3 j (by simpa using hj)
    · rintro ⟨h1, h2⟩
      have h0 := h1 0 (by simp)
      refine ⟨⟨by have : last < m := h0.1; omega, h0.2⟩, fun j hj => ?_, fun j hj => h2 (j + 1) (by simpa using hj)⟩
      have hlt : ∀ j, j < ms.length → m < ms.getD j 0 := by
        intro j
        induction j with
        | zero => intro hj; exact h2 0 (by simpa using hj)
        | succ j ihj =>
          intro hj
          have a := ihj (by omega)
          have b : ms.getD j 0 < ms.getD (j + 1) 0 := h2 (j + 1) (by simpa using hj)
          omega
      exact ⟨hlt j hj, (h1 (j + 1) (by simpa using hj)).2⟩
theorem rf_inc (n : Int) (f : List Int) : (allF (incQ f) f.length 1 && f.all fun x => decide (0 ≤ x ∧ x ≤ n - 1)) = rf n (-1) f := by
  rw [rises_inc, Bool.eq_iff_iff, allF_iff, rf_iff]
  constructor
  · intro h
    refine ⟨fun j hj => ?_, fun j hj => ?_⟩
    · have := h j hj (by omega)
      simp only [risQ, Bool.and_eq_true] at this
      have := of_decide_eq_true this.1
      omega
    · have := h (j + 1) hj (by omega)
      simp only [risQ, Bool.and_eq_true, Bool.or_eq_true, Nat.add_sub_cancel] at this
      rcases this.2 with e | e
      · exact absurd (of_decide_eq_true e) (by omega)
      · exact of_decide_eq_true e
  · rintro ⟨h1, h2⟩ j hj _
    have a := h1 j hj
    simp only [risQ, Bool.and_eq_true, Bool.or_eq_true]
    refine ⟨decide_eq_true (by omega), ?_⟩
    cases j with
    | zero => left; rfl
    | succ j => right; rw [Nat.add_sub_cancel]; exact decide_eq_true (h2 j hj)
theorem iMatched_l0 (x0 x1 l : List Int) (h1 : x1.length ≤ 48) (hl : l.length ≤ 35184372088) (d : Nat) : ∀ (i : Nat) (acc : List Int), i + d = l.length → acc.length ≤ i →
    Ev (fun k => impl_matchedOk.l0 k x0 x1 l acc l l.length i) (decide (l.length = x0.length) && rf x1.length (-1) (acc ++ (l.drop i).filter fun x => !(x == -1))) := by
  induction d with
  | zero =>
    intro i acc h2 h3
    refine Ev.shift ?_
    simp only [impl_matchedOk.l0]
    refine Ev.neg (by omega) ?_
    rw [List.drop_of_length_le (by omega), List.filter_nil, List.append_nil]
    by_cases c : l.length = x0.length
    · rw [decide_eq_true c, Bool.true_and, ← rf_inc]
      refine Ev.pos (by omega) (Ev.bind (inc_ev acc (by omega)) ?_)
      rw [wid (by omega)]
      simp only [allIn_eq, Option.bind_some]
      cases e : allF (incQ acc) acc.length 1
      · exact Ev.neg (by decide) (Ev.now _)
      · exact Ev.pos rfl (Ev.now _)
    · rw [decide_eq_false c, Bool.false_and]
      exact Ev.neg (by omega) (Ev.now _)
  | succ d ih =>
    intro i acc h2 h3
    refine Ev.shift ?_
    simp only [impl_matchedOk.l0]
    rw [drop_cons' l i (by omega), rd_nat, wid (x := (i : Int) + 1) (by omega)]
    refine Ev.pos (by omega) (Ev.pos (by omega) (Ev.pos (by omega) ?_))
    by_cases c : l.getD i 0 = -1
    · rw [List.filter_cons_of_neg (by rw [c]; decide)]
      exact Ev.pos c (ih (i + 1) acc (by omega) (by omega))
    · rw [List.filter_cons_of_pos (by simpa using c)]
      refine Ev.neg c (Ev.pos (by omega) ?_)
      exact Ev.same (ih (i + 1) (acc ++ [l.getD i 0]) (by omega) (by rw [List.length_append, List.length_singleton]; omega)) (by simp)
theorem iMatched (x0 x1 l : List Int) (h1 : x1.length ≤ 48) (hl : l.length ≤ 35184372088) : Ev (fun k => impl_matchedOk.f k x0 x1 l) (mOk x1.length (-1) l && decide (l.length = x0.length)) := by
  unfold impl_matchedOk.f
  have := iMatched_l0 x0 x1 l h1 hl l.length 0 [] (by omega) (by simp)
  rw [List.drop_zero, List.nil_append, ← mOk_rf, Bool.and_comm] at this
  exact this
/-- how matched onsets differ from their beats -/
def offsL (x1 : List Int) : List Int → List Int → List Int
  | b :: bs, m :: ms => if m ≥ 0 then (rd x1 m - b) :: offsL x1 bs ms else offsL x1 bs ms
  | _, _ => []
theorem offsL_length (x1 : List Int) (bs : List Int) : ∀ ms, (offsL x1 bs ms).length ≤ bs.length := by
  induction bs with
  | nil => intro ms; simp [offsL]
  | cons b bs ih =>
    intro ms
    cases ms with
    | nil => simp [offsL]
    | cons m ms =>
      rw [offsL]
      have := ih ms
      split
      · simp; exact this
      · simp; omega
theorem sOffs_l0 (x0 x1 l : List Int) (v0 : onsetsB x0 = true) (v1 : onsetsB x1 = true) (hm : mOk x1.length (-1) l = true) (hl : l.length = x0.length) (d : Nat) : ∀ (i : Nat) (acc : List Int), i + d = l.length → acc.length ≤ i →
    Ev (fun k => spec_l24Offsets.l0 k x0 x1 l acc i) (acc ++ offsL x1 (x0.drop i) (l.drop i), 0) := by
  have h0 := onsetsB_len v0
  induction d with
  | zero =>
    intro i acc h2 h3
    refine Ev.shift ?_
    simp only [spec_l24Offsets.l0]
    refine Ev.neg (by omega) (Ev.some ?_)
    rw [List.drop_of_length_le (by omega), List.drop_of_length_le (by omega), offsL, List.append_nil]
    intro _ _ _ _ h; cases h
  | succ d ih =>
    intro i acc h2 h3
    refine Ev.shift ?_
    simp only [spec_l24Offsets.l0]
    have hg := mOk_get _ _ _ (by omega) hm i (by omega)
    have hb := onsetsB_get v0 i (by omega)
    have ho := onsetsB_rd v1 (l.getD i 0)
    rw [drop_cons' l i (by omega), drop_cons' x0 i (by omega), offsL, rd_nat, rd_nat, wid (x := (i : Int) + 1) (by omega), wid (x := rd x1 (l.getD i 0) - x0.getD i 0) (by omega)]
    refine Ev.pos (by omega) (Ev.pos (by omega) ?_)
    by_cases c : l.getD i 0 ≥ 0
    · rw [if_pos c]
      refine Ev.pos c (Ev.pos (by omega) (Ev.pos (by omega) (Ev.pos (by omega) (Ev.pos (by omega) ?_))))
      exact Ev.same (ih (i + 1) (acc ++ [rd x1 (l.getD i 0) - x0.getD i 0]) (by omega) (by rw [List.length_append, List.length_singleton]; omega)) (by simp)
    · rw [if_neg c]
      exact Ev.neg c (ih (i + 1) acc (by omega) (by omega))
def offsR (x0 x1 l : List Int) : List Int × Int := if onsetsB x0 = true ∧ onsetsB x1 = true then (if mOk x1.length (-1) l = true ∧ l.length = x0.length then (offsL x1 x0 l, 0) else ([], 7)) else ([], 1)
theorem offsR_len (x0 x1 l : List Int) : (offsR x0 x1 l).1.length ≤ 48 := by
  unfold offsR
  split
  · rename_i h
    split
    · have := offsL_length x1 x0 l
      have := onsetsB_len h.1
      simp only; omega
    · simp
  · simp
theorem sOffs (x0 x1 l : List Int) (hl0 : x0.length ≤ 35184372088) (hl1 : x1.length ≤ 35184372088) (hl : l.length ≤ 35184372088) : Ev (fun k => spec_l24Offsets.f k x0 x1 l) (offsR x0 x1 l) := by
  unfold spec_l24Offsets.f offsR
  refine Ev.bind (sOnsets x0 (by omega)) ?_
  cases v0 : onsetsB x0 with
  | false =>
    rw [if_neg (by simp)]
    refine Ev.neg (by decide) (Ev.shift ?_)
    simp only [spec_l24Offsets.j0]; exact Ev.now _
  | true =>
    refine Ev.pos rfl (Ev.bind (sOnsets x1 (by omega)) (Ev.shift ?_))
    simp only [spec_l24Offsets.j0]
    cases v1 : onsetsB x1 with
    | false => rw [if_neg (by simp)]; exact Ev.pos rfl (Ev.now _)
    | true =>
      rw [if_pos (by simp)]
      refine Ev.neg (by decide) (Ev.bind (sMatched x0 x1 l (onsetsB_len v1) (by omega)) ?_)
      by_cases c : mOk x1.length (-1) l = true ∧ l.length = x0.length
      · rw [if_pos c, c.1, decide_eq_true c.2]
        refine Ev.pos rfl ?_
        have := sOffs_l0 x0 x1 l v0 v1 c.1 c.2 l.length 0 [] (by omega) (by simp)
        rwa [List.drop_zero, List.drop_zero, List.nil_append] at this
      · rw [if_neg c]
        refine Ev.neg ?_ (Ev.now _)
        intro h
        rw [Bool.and_eq_true] at h
        exact c ⟨h.1, of_decide_eq_true h.2⟩
theorem iOffs_l0 (x0 x1 l : List Int) (v0 : onsetsB x0 = true) (v1 : onsetsB x1 = true) (hm : mOk x1.length (-1) l = true) (hl : l.length = x0.length) (d : Nat) : ∀ (i : Nat) (acc : List Int), i + d = l.length → acc.length ≤ i →
    Ev (fun k => impl_OffsetsOf.l0 k x0 x1 acc l l.length i) (acc ++ offsL x1 (x0.drop i) (l.drop i), 0) := by
  have h0 := onsetsB_len v0
  induction d with
  | zero =>
    intro i acc h2 h3
    refine Ev.shift ?_
    simp only [impl_OffsetsOf.l0]
    refine Ev.neg (by omega) (Ev.some ?_)
    rw [List.drop_of_length_le (by omega), List.drop_of_length_le (by omega), offsL, List.append_nil]
    intro _ _ _ _ h; cases h
  | succ d ih =>
    intro i acc h2 h3
    refine Ev.shift ?_
    simp only [impl_OffsetsOf.l0]
    have hg := mOk_get _ _ _ (by omega) hm i (by omega)
    have hb := onsetsB_get v0 i (by omega)
    have ho := onsetsB_rd v1 (l.getD i 0)
    rw [drop_cons' l i (by omega), drop_cons' x0 i (by omega), offsL, rd_nat, rd_nat, wid (x := (i : Int) + 1) (by omega), wid (x := rd x1 (l.getD i 0) - x0.getD i 0) (by omega)]
    refine Ev.pos (by omega) (Ev.pos (by omega) (Ev.pos (by omega) ?_))
    by_cases c : l.getD i 0 ≥ 0
    · rw [if_pos c]
      refine Ev.pos c (Ev.pos (by omega) (Ev.pos (by omega) (Ev.pos (by omega) (Ev.pos (by omega) ?_))))
      exact Ev.same (ih (i + 1) (acc ++ [rd x1 (l.getD i 0) - x0.getD i 0]) (by omega) (by rw [List.length_append, List.length_singleton]; omega)) (by simp)
    · rw [if_neg c]
      exact Ev.neg c (ih (i + 1) acc (by omega) (by omega))
theorem iOffs (x0 x1 l : List Int) (hl0 : x0.length ≤ 35184372088) (hl1 : x1.length ≤ 35184372088) (hl : l.length ≤ 35184372088) : Ev (fun k => impl_OffsetsOf.f k x0 x1 l) (offsR x0 x1 l) := by
  unfold impl_OffsetsOf.f offsR
  refine Ev.bind (iOnsets x0 (by omega)) ?_
  cases v0 : onsetsB x0 with
  | false =>
    rw [if_neg (by simp)]
    refine Ev.neg (by decide) (Ev.shift ?_)
    simp only [impl_OffsetsOf.j0]; exact Ev.now _
  | true =>
    refine Ev.pos rfl (Ev.bind (iOnsets x1 (by omega)) (Ev.shift ?_))
    simp only [impl_OffsetsOf.j0]
    cases v1 : onsetsB x1 with
    | false => rw [if_neg (by simp)]; exact Ev.pos rfl (Ev.now _)
    | true =>
      rw [if_pos (by simp)]
      refine Ev.neg (by decide) (Ev.bind (iMatched x0 x1 l (onsetsB_len v1) (by omega)) ?_)
      by_cases c : mOk x1.length (-1) l = true ∧ l.length = x0.length
      · rw [if_pos c, c.1, decide_eq_true c.2]
        refine Ev.pos rfl ?_
        have := iOffs_l0 x0 x1 l v0 v1 c.1 c.2 l.length 0 [] (by omega) (by simp)
        rwa [List.drop_zero, List.drop_zero, List.nil_append] at this
      · rw [if_neg c]
        refine Ev.neg ?_ (Ev.now _)
        intro h
        rw [Bool.and_eq_true] at h
        exact c ⟨h.1, of_decide_eq_true h.2⟩
theorem FnExactOffsetsOf : laws_FnExactOffsetsOf.Pure := by
  intro l0 l1 l2 _ _ _ _ _ _ _ _ _
  refine Ev.rounds (g := fun k => laws_FnExactOffsetsOf.f k l0 l1 l2) ?_
  unfold laws_FnExactOffsetsOf.f
  by_cases h0 : (l0.length : Int) > 1048576
  · exact Ev.pos h0 (Ev.now _)
  refine Ev.neg h0 ?_
  by_cases h1 : (l1.length : Int) > 1048576
  · exact Ev.pos h1 (Ev.now _)
  refine Ev.neg h1 ?_
  by_cases h2 : (l2.length : Int) > 1048576
  · exact Ev.pos h2 (Ev.now _)
  refine Ev.neg h2 ?_
  have g0 : l0.length ≤ 35184372088832 := by omega
  have g1 : l1.length ≤ 35184372088832 := by omega
  have g2 : l2.length ≤ 35184372088832 := by omega
  have hS : Ev (fun k => spec_OffsetsOf.f k l0 l1 l2) (offsR l0 l1 l2) := by
    unfold spec_OffsetsOf.f; exact Ev.bind (sOffs l0 l1 l2 (by omega) (by omega) (by omega)) (Ev.now _)
  have hI := iOffs l0 l1 l2 (by omega) (by omega) (by omega)
  have hr0 := offsR_len l0 l1 l2
  generalize offsR l0 l1 l2 = q at hS hI hr0
  obtain ⟨r, c⟩ := q
  have hr : r.length ≤ 35184372088832 := by simp only at hr0; omega
  simp only at hr0
  have hmk := markI r 1 (by omega) (by omega)
  have hhl := heldI r.length 1 (by omega) (by omega)
  have hm0 := markI l0 1 (by omega) (by omega)
  have hm1 := markI l1 (1 + l0.length) (by omega) (by omega)
  have hm2 := markI l2 (1 + l0.length + l1.length) (by omega) (by omega)
  repeat (first | exact Ev.now _ | refine Ev.bind hS ?_ | refine Ev.bind hI ?_ | refine Ev.bind (toI _ (by assumption)) ?_ | refine Ev.bind (eqI _ (by assumption)) ?_ | refine Ev.bind hmk ?_ | refine Ev.bind hm0 ?_ | refine Ev.bind hm1 ?_ | refine Ev.bind hm2 ?_ | refine Ev.bind hhl ?_ | refine Ev.pos (by with_reducible rfl) ?_ | refine Ev.neg (by omega) ?_ | refine Ev.neg (by simp; done) ?_ | refine Ev.pos (by omega) ?_ | (refine Ev.shift ?_; simp only [laws_FnExactOffsetsOf.j0, laws_FnExactOffsetsOf.j1, laws_FnExactOffsetsOf.j2]))

end Go.Proofs.Ytmkjjjpffakfiaa.Pure
