/- The pure statement of the law FnAlignment: what the Go functions compute, told by plain Lean functions, is what the law asks, for all arguments. No condition beyond the printed ones. -/
import Derived.Test.YtoohfhgmflgmcaaPFnAlignmentx9
import Derived.Test.YtoohfhgmflgmcaaXW
namespace Go.Proofs.Ytoohfhgmflgmcaa.Pure
open Go.RowKit Go.Proofs.Ytoohfhgmflgmcaa.PFnAlignment Go.Proofs.YtoohfhgmflgmcaaW.PrintWords Go.Proofs.YtoohfhgmflgmcaaW.PrintLast Go.Proofs.YtoohfhgmflgmcaaW.PrintMore Go.Proofs.YtoohfhgmflgmcaaXW
set_option linter.unusedVariables false
set_option linter.unusedSimpArgs false
def risQ (l : List Int) (lo hi : Int) (j : Nat) : Bool := decide (lo ≤ l.getD j 0 ∧ l.getD j 0 ≤ hi) && (decide (j = 0) || decide (l.getD (j - 1) 0 < l.getD j 0))
theorem within_eq (a b c : Int) : impl_within.f a b c = some (decide (b ≤ a ∧ a ≤ c)) := by
  unfold impl_within.f; split <;> simp_all; omega
theorem allIn_eq (l : List Int) (a b : Int) : impl_allWithin.f l a b = some (l.all fun x => decide (a ≤ x ∧ x ≤ b)) := by
  unfold impl_allWithin.f
  rw [List.not_any_eq_all_not]
  congr 2
  funext x
  simp [allP]
def incQ (l : List Int) (j : Nat) : Bool := decide (l.getD (j - 1) 0 < l.getD j 0)
theorem inc_l0 (l : List Int) (hl : l.length ≤ 35184372088832) (d : Nat) : ∀ (i : Nat), 1 ≤ i → l.length ≤ i + d → Ev (fun k => impl_increasing.l0 k l i) (allF (incQ l) l.length i) := by
  induction d with
  | zero =>
    intro i h0 h1
    refine Ev.shift ?_
    simp only [impl_increasing.l0]
    exact Ev.neg (by omega) (Ev.some (by rw [allF_end _ (by omega)]))
  | succ d ih =>
    intro i h0 h1
    by_cases hi : i < l.length
    · refine Ev.shift ?_
      simp only [impl_increasing.l0]
      have e1 : wrap64 ((i : Int) - 1) = ((i - 1 : Nat) : Int) := by rw [wid (by omega)]; omega
      rw [e1, rd_nat, rd_nat]
      refine Ev.pos (by omega) (Ev.pos (by omega) (Ev.pos (by omega) (Ev.pos (by omega) ?_)))
      by_cases hc : l.getD (i - 1) 0 < l.getD i 0
      · refine Ev.neg (by omega) ?_
        rw [wid (by omega), allF_yes _ (by simp only [incQ]; simpa using hc)]
        exact ih (i + 1) (by omega) (by omega)
      · refine Ev.pos (by omega) (Ev.some ?_)
        rw [allF_no _ (by omega) (by simp only [incQ]; simpa using hc)]
    · refine Ev.shift ?_
      simp only [impl_increasing.l0]
      exact Ev.neg (by omega) (Ev.some (by rw [allF_end _ (by omega)]))
theorem inc_ev (l : List Int) (hl : l.length ≤ 35184372088832) : Ev (fun k => impl_increasing.f k l) (allF (incQ l) l.length 1) := by
  unfold impl_increasing.f
  exact inc_l0 l hl l.length 1 (by omega) (by omega)
/-- The one test is the two others. -/
theorem rises_inc (l : List Int) (lo hi : Int) : (allF (incQ l) l.length 1 && l.all fun x => decide (lo ≤ x ∧ x ≤ hi)) = allF (risQ l lo hi) l.length 0 := by
  rw [Bool.eq_iff_iff, Bool.and_eq_true, allF_iff, allF_iff, all_iff_get]
  constructor
  · rintro ⟨h1, h2⟩ j hj _
    simp only [risQ, Bool.and_eq_true, Bool.or_eq_true]
    refine ⟨h2 j hj, ?_⟩
    by_cases e : j = 0
    · left; simpa using e
    · right; exact h1 j hj (by omega)
  · intro h
    refine ⟨fun j hj h1 => ?_, fun j hj => ?_⟩
    · have := h j hj (by omega)
      simp only [risQ, Bool.and_eq_true, Bool.or_eq_true] at this
      rcases this.2 with e | e
      · simp at e; omega
      · exact e
    · have := h j hj (by omega)
      simp only [risQ, Bool.and_eq_true] at this
      exact this.1
def onsetsB (l : List Int) : Bool := decide (l.length ≤ 48) && allF (risQ l 0 10000000) l.length 0
theorem iOnsets (l : List Int) (hl : l.length ≤ 35184372088832) : Ev (fun k => impl_ValidOnsets.f k l) (onsetsB l) := by
  unfold impl_ValidOnsets.f onsetsB
  by_cases h : l.length ≤ 48
  · refine Ev.pos (by omega) (Ev.bind (inc_ev l hl) ?_)
    rw [← rises_inc]
    simp only [allIn_eq, Option.bind_some, h, decide_true, Bool.true_and]
    cases e : allF (incQ l) l.length 1
    · exact Ev.neg (by decide) (Ev.now _)
    · exact Ev.pos rfl (Ev.now _)
  · refine Ev.neg (by omega) (Ev.some ?_)
    simp [h]
theorem mx_abs (a : Int) (h : -9223372036854775807 ≤ a ∧ a ≤ 9223372036854775807) : mx a (wrap64 (-a)) = (a.natAbs : Int) := by
  rw [wid (by omega)]; unfold mx; split <;> omega

theorem abs_i (a : Int) (h : -9223372036854775807 ≤ a ∧ a ≤ 9223372036854775807) : impl_abs.f a = some (a.natAbs : Int) := by
  unfold impl_abs.f; rw [mx_abs a h]
theorem onsetsB_len {l : List Int} (h : onsetsB l = true) : l.length ≤ 48 := by
  unfold onsetsB at h; simp only [Bool.and_eq_true, decide_eq_true_eq] at h; exact h.1
theorem onsetsB_get {l : List Int} (h : onsetsB l = true) (j : Nat) (hj : j < l.length) : 0 ≤ l.getD j 0 ∧ l.getD j 0 ≤ 10000000 := by
  unfold onsetsB at h; simp only [Bool.and_eq_true] at h
  have := (allF_iff _).1 h.2 j hj (Nat.zero_le _)
  simp only [risQ, Bool.and_eq_true] at this
  exact of_decide_eq_true this.1
theorem onsetsB_lt {l : List Int} (h : onsetsB l = true) (j : Nat) (hj : j + 1 < l.length) : l.getD j 0 < l.getD (j + 1) 0 := by
  unfold onsetsB at h; simp only [Bool.and_eq_true] at h
  have := (allF_iff _).1 h.2 (j + 1) hj (Nat.zero_le _)
  simp only [risQ, Bool.and_eq_true, Bool.or_eq_true, Nat.add_sub_cancel] at this
  rcases this.2 with e | e
  · exact absurd (of_decide_eq_true e) (by omega)
  · exact of_decide_eq_true e
theorem onsetsB_rd {l : List Int} (h : onsetsB l = true) (x : Int) : 0 ≤ rd l x ∧ rd l x ≤ 10000000 := by
  unfold rd
  by_cases hx : x.toNat < l.length
  · exact onsetsB_get h _ hx
  · rw [List.getD_eq_getElem?_getD, List.getElem?_eq_none (by omega)]; simp
/-- what is matched is an index each or -1, rising -/
def mOk (n : Int) : Int → List Int → Bool
  | _, [] => true
  | last, m :: ms => if m = -1 then mOk n last ms else decide (last + 1 ≤ m ∧ m ≤ n - 1) && mOk n m ms
theorem drop_cons' (l : List Int) (i : Nat) (h : i < l.length) : l.drop i = l.getD i 0 :: l.drop (i + 1) := by
  rw [List.drop_eq_getElem_cons h, List.getD_eq_getElem?_getD, List.getElem?_eq_getElem h, Option.getD_some]
theorem mOk_get (n : Int) (l : List Int) : ∀ last, -1 ≤ last → mOk n last l = true → ∀ j, j < l.length → l.getD j 0 = -1 ∨ 0 ≤ l.getD j 0 ∧ l.getD j 0 ≤ n - 1 := by
  induction l with
  | nil => intro last _ _ j hj; simp at hj
  | cons m ms ih =>
    intro last h0 h j hj
    rw [mOk] at h
    by_cases c : m = -1
    · rw [if_pos c] at h
      cases j with
      | zero => left; simpa using c
      | succ j => exact ih last h0 h j (by simpa using hj)
    · rw [if_neg c, Bool.and_eq_true] at h
      have h1 := of_decide_eq_true h.1
      cases j with
      | zero => right; show 0 ≤ m ∧ m ≤ n - 1; omega
      | succ j => exact ih m (by omega) h.2 j (by simpa using hj)
def rf (n : Int) : Int → List Int → Bool
  | _, [] => true
  | last, m :: ms => decide (last + 1 ≤ m ∧ m ≤ n - 1) && rf n m ms
theorem mOk_rf (n : Int) (l : List Int) : ∀ last, mOk n last l = rf n last (l.filter fun x => !(x == -1)) := by
  induction l with
  | nil => intro last; rfl
  | cons m ms ih =>
    intro last
    rw [mOk]
    by_cases c : m = -1
    · rw [if_pos c, ih, List.filter_cons_of_neg (by simp [c])]
    · rw [if_neg c, ih, List.filter_cons_of_pos (by simp [c]), rf]
theorem rf_iff (n : Int) (f : List Int) : ∀ last, rf n last f = true ↔ (∀ j, j < f.length → last < f.getD j 0 ∧ f.getD j 0 ≤ n - 1) ∧ ∀ j, j + 1 < f.length → f.getD j 0 < f.getD (j + 1) 0 := by
  induction f with
  | nil => intro last; simp [rf]
  | cons m ms ih =>
    intro last
    rw [rf, Bool.and_eq_true, decide_eq_true_iff, ih]
    constructor
    · rintro ⟨h1, h2, h3⟩
      refine ⟨fun j hj => ?_, fun j hj => ?_⟩
      · cases j with
        | zero => show last < m ∧ m ≤ n - 1; omega
        | succ j =>
          have := h2 j (by simpa using hj)
          show last < ms.getD j 0 ∧ ms.getD j 0 ≤ n - 1
          omega
      · cases j with
        | zero => exact (h2 0 (by simpa using hj)).1
        | succ j => exact h3 j (by simpa using hj)
    · rintro ⟨h1, h2⟩
      have h0 := h1 0 (by simp)
      refine ⟨⟨by have : last < m := h0.1; omega, h0.2⟩, fun j hj => ?_, fun j hj => h2 (j + 1) (by simpa using hj)⟩
      have hlt : ∀ j, j < ms.length → m < ms.getD j 0 := by
        intro j
        induction j with
        | zero => intro hj; exact h2 0 (by simpa using hj)
        | succ j ihj =>
          intro hj
          have a := ihj (by omega)
          have b : ms.getD j 0 < ms.getD (j + 1) 0 := h2 (j + 1) (by simpa using hj)
          omega
      exact ⟨hlt j hj, (h1 (j + 1) (by simpa using hj)).2⟩
theorem rf_inc (n : Int) (f : List Int) : (allF (incQ f) f.length 1 && f.all fun x => decide (0 ≤ x ∧ x ≤ n - 1)) = rf n (-1) f := by
  rw [rises_inc, Bool.eq_iff_iff, allF_iff, rf_iff]
  constructor
  · intro h
    refine ⟨fun j hj => ?_, fun j hj => ?_⟩
    · have := h j hj (by omega)
      simp only [risQ, Bool.and_eq_true] at this
      have := of_decide_eq_true this.1
      omega
    · have := h (j + 1) hj (by omega)
      simp only [risQ, Bool.and_eq_true, Bool.or_eq_true, Nat.add_sub_cancel] at this
      rcases this.2 with e | e
      · exact absurd (of_decide_eq_true e) (by omega)
      · exact of_decide_eq_true e
  · rintro ⟨h1, h2⟩ j hj _
    have a := h1 j hj
    simp only [risQ, Bool.and_eq_true, Bool.or_eq_true]
    refine ⟨decide_eq_true (by omega), ?_⟩
    cases j with
    | zero => left; rfl
    | succ j => right; rw [Nat.add_sub_cancel]; exact decide_eq_true (h2 j hj)
theorem iMatched_l0 (x0 x1 l : List Int) (h1 : x1.length ≤ 48) (hl : l.length ≤ 35184372088) (d : Nat) : ∀ (i : Nat) (acc : List Int), i + d = l.length → acc.length ≤ i →
    Ev (fun k => impl_matchedOk.l0 k x0 x1 l acc l l.length i) (decide (l.length = x0.length) && rf x1.length (-1) (acc ++ (l.drop i).filter fun x => !(x == -1))) := by
  induction d with
  | zero =>
    intro i acc h2 h3
    refine Ev.shift ?_
    simp only [impl_matchedOk.l0]
    refine Ev.neg (by omega) ?_
    rw [List.drop_of_length_le (by omega), List.filter_nil, List.append_nil]
    by_cases c : l.length = x0.length
    · rw [decide_eq_true c, Bool.true_and, ← rf_inc]
      refine Ev.pos (by omega) (Ev.bind (inc_ev acc (by omega)) ?_)
      rw [wid (by omega)]
      simp only [allIn_eq, Option.bind_some]
      cases e : allF (incQ acc) acc.length 1
      · exact Ev.neg (by decide) (Ev.now _)
      · exact Ev.pos rfl (Ev.now _)
    · rw [decide_eq_false c, Bool.false_and]
      exact Ev.neg (by omega) (Ev.now _)
  | succ d ih =>
    intro i acc h2 h3
    refine Ev.shift ?_
    simp only [impl_matchedOk.l0]
    rw [drop_cons' l i (by omega), rd_nat, wid (x := (i : Int) + 1) (by omega)]
    refine Ev.pos (by omega) (Ev.pos (by omega) (Ev.pos (by omega) ?_))
    by_cases c : l.getD i 0 = -1
    · rw [List.filter_cons_of_neg (by rw [c]; decide)]
      exact Ev.pos c (ih (i + 1) acc (by omega) (by omega))
    · rw [List.filter_cons_of_pos (by simpa using c)]
      refine Ev.neg c (Ev.pos (by omega) ?_)
      exact Ev.same (ih (i + 1) (acc ++ [l.getD i 0]) (by omega) (by rw [List.length_append, List.length_singleton]; omega)) (by simp)
theorem iMatched (x0 x1 l : List Int) (h1 : x1.length ≤ 48) (hl : l.length ≤ 35184372088) : Ev (fun k => impl_matchedOk.f k x0 x1 l) (mOk x1.length (-1) l && decide (l.length = x0.length)) := by
  unfold impl_matchedOk.f
  have := iMatched_l0 x0 x1 l h1 hl l.length 0 [] (by omega) (by simp)
  rw [List.drop_zero, List.nil_append, ← mOk_rf, Bool.and_comm] at this
  exact this
/-- how matched onsets differ from their beats -/
def offsL (x1 : List Int) : List Int → List Int → List Int
  | b :: bs, m :: ms => if m ≥ 0 then (rd x1 m - b) :: offsL x1 bs ms else offsL x1 bs ms
  | _, _ => []
theorem offsL_length (x1 : List Int) (bs : List Int) : ∀ ms, (offsL x1 bs ms).length ≤ bs.length := by
  induction bs with
  | nil => intro ms; simp [offsL]
  | cons b bs ih =>
    intro ms
    cases ms with
    | nil => simp [offsL]
    | cons m ms =>
      rw [offsL]
      have := ih ms
      split
      · simp; exact this
      · simp; omega
def offsR (x0 x1 l : List Int) : List Int × Int := if onsetsB x0 = true ∧ onsetsB x1 = true then (if mOk x1.length (-1) l = true ∧ l.length = x0.length then (offsL x1 x0 l, 0) else ([], 7)) else ([], 1)
theorem offsR_len (x0 x1 l : List Int) : (offsR x0 x1 l).1.length ≤ 48 := by
  unfold offsR
  split
  · rename_i h
    split
    · have := offsL_length x1 x0 l
      have := onsetsB_len h.1
      simp only; omega
    · simp
  · simp
theorem iOffs_l0 (x0 x1 l : List Int) (v0 : onsetsB x0 = true) (v1 : onsetsB x1 = true) (hm : mOk x1.length (-1) l = true) (hl : l.length = x0.length) (d : Nat) : ∀ (i : Nat) (acc : List Int), i + d = l.length → acc.length ≤ i →
    Ev (fun k => impl_OffsetsOf.l0 k x0 x1 acc l l.length i) (acc ++ offsL x1 (x0.drop i) (l.drop i), 0) := by
  have h0 := onsetsB_len v0
  induction d with
  | zero =>
    intro i acc h2 h3
    refine Ev.shift ?_
    simp only [impl_OffsetsOf.l0]
    refine Ev.neg (by omega) (Ev.some ?_)
    rw [List.drop_of_length_le (by omega), List.drop_of_length_le (by omega), offsL, List.append_nil]
    intro _ _ _ _ h; cases h
  | succ d ih =>
    intro i acc h2 h3
    refine Ev.shift ?_
    simp only [impl_OffsetsOf.l0]
    have hg := mOk_get _ _ _ (by omega) hm i (by omega)
    have hb := onsetsB_get v0 i (by omega)
    have ho := onsetsB_rd v1 (l.getD i 0)
    rw [drop_cons' l i (by omega), drop_cons' x0 i (by omega), offsL, rd_nat, rd_nat, wid (x := (i : Int) + 1) (by omega), wid (x := rd x1 (l.getD i 0) - x0.getD i 0) (by omega)]
    refine Ev.pos (by omega) (Ev.pos (by omega) (Ev.pos (by omega) ?_))
    by_cases c : l.getD i 0 ≥ 0
    · rw [if_pos c]
      refine Ev.pos c (Ev.pos (by omega) (Ev.pos (by omega) (Ev.pos (by omega) (Ev.pos (by omega) ?_))))
      exact Ev.same (ih (i + 1) (acc ++ [rd x1 (l.getD i 0) - x0.getD i 0]) (by omega) (by rw [List.length_append, List.length_singleton]; omega)) (by simp)
    · rw [if_neg c]
      exact Ev.neg c (ih (i + 1) acc (by omega) (by omega))
theorem iOffs (x0 x1 l : List Int) (hl0 : x0.length ≤ 35184372088) (hl1 : x1.length ≤ 35184372088) (hl : l.length ≤ 35184372088) : Ev (fun k => impl_OffsetsOf.f k x0 x1 l) (offsR x0 x1 l) := by
  unfold impl_OffsetsOf.f offsR
  refine Ev.bind (iOnsets x0 (by omega)) ?_
  cases v0 : onsetsB x0 with
  | false =>
    rw [if_neg (by simp)]
    refine Ev.neg (by decide) (Ev.shift ?_)
    simp only [impl_OffsetsOf.j0]; exact Ev.now _
  | true =>
    refine Ev.pos rfl (Ev.bind (iOnsets x1 (by omega)) (Ev.shift ?_))
    simp only [impl_OffsetsOf.j0]
    cases v1 : onsetsB x1 with
    | false => rw [if_neg (by simp)]; exact Ev.pos rfl (Ev.now _)
    | true =>
      rw [if_pos (by simp)]
      refine Ev.neg (by decide) (Ev.bind (iMatched x0 x1 l (onsetsB_len v1) (by omega)) ?_)
      by_cases c : mOk x1.length (-1) l = true ∧ l.length = x0.length
      · rw [if_pos c, c.1, decide_eq_true c.2]
        refine Ev.pos rfl ?_
        have := iOffs_l0 x0 x1 l v0 v1 c.1 c.2 l.length 0 [] (by omega) (by simp)
        rwa [List.drop_zero, List.drop_zero, List.nil_append] at this
      · rw [if_neg c]
        refine Ev.neg ?_ (Ev.now _)
        intro h
        rw [Bool.and_eq_true] at h
        exact c ⟨h.1, of_decide_eq_true h.2⟩
def shL (b : Int) (l : List Int) : List Int := l.map fun x => wrap64 (x + b)
theorem shL_len (b : Int) (l : List Int) : (shL b l).length = l.length := by simp [shL]
theorem shL_get (b : Int) (l : List Int) (i : Nat) (h : i < l.length) : (shL b l).getD i 0 = wrap64 (l.getD i 0 + b) := by
  simp [shL, List.getD_eq_getElem?_getD, h]
theorem take_snocD (l : List Int) (i : Nat) (h : i < l.length) : l.take i ++ [l.getD i 0] = l.take (i + 1) := by
  rw [List.take_add_one, List.getElem?_eq_getElem h, List.getD_eq_getElem?_getD, List.getElem?_eq_getElem h]; rfl
theorem ext_getD (a b : List Int) (hl : a.length = b.length) (h : ∀ j, j < a.length → a.getD j 0 = b.getD j 0) : a = b := by
  refine List.ext_getElem hl fun j h1 h2 => ?_
  have := h j h1
  rwa [List.getD_eq_getElem?_getD, List.getElem?_eq_getElem h1, List.getD_eq_getElem?_getD, List.getElem?_eq_getElem h2] at this
theorem getD_set' (l : List Int) (i j : Nat) (v : Int) (h : i < l.length) : (l.set i v).getD j 0 = if i = j then v else l.getD j 0 := by
  rw [List.getD_eq_getElem?_getD, List.getElem?_set, List.getD_eq_getElem?_getD]
  split
  · rfl
  · rfl
theorem iShift_l0 (b : Int) (l : List Int) (hl : l.length ≤ 35184372) (d : Nat) : ∀ (i : Nat) (acc : List Int), i + d = l.length → acc.length = l.length → (∀ j, j < i → acc.getD j 0 = (shL b l).getD j 0) → (∀ j, i ≤ j → acc.getD j 0 = l.getD j 0) → Ev (fun k => impl_shiftedBy.l0 k b acc (l.length : Int) i) (shL b l) := by
  have hL := shL_len b l
  induction d with
  | zero =>
    intro i acc hi ha h1 h2
    refine Ev.shift ?_
    simp only [impl_shiftedBy.l0]
    refine Ev.neg (by omega) ?_
    rw [ext_getD acc (shL b l) (by omega) (fun j hj => h1 j (by omega))]
    exact Ev.now _
  | succ d ih =>
    intro i acc hi ha h1 h2
    refine Ev.shift ?_
    simp only [impl_shiftedBy.l0]
    refine Ev.pos (by omega) (Ev.pos (by omega) (Ev.pos (by omega) ?_))
    rw [rd_nat, Int.toNat_natCast, show wrap64 ((i : Int) + 1) = ((i + 1 : Nat) : Int) by rw [wid (by omega)]; rfl]
    refine ih (i + 1) _ (by omega) (by rw [List.length_set]; exact ha) (fun j hj => ?_) (fun j hj => ?_)
    · rw [getD_set' acc i j _ (by omega)]
      split
      · rename_i e; subst e; rw [h2 i (Nat.le_refl _), shL_get b l i (by omega)]
      · exact h1 j (by omega)
    · rw [getD_set' acc i j _ (by omega), if_neg (by omega)]
      exact h2 j (by omega)
theorem iShift (b : Int) (l : List Int) (hl : l.length ≤ 35184372) : Ev (fun k => impl_shiftedBy.f k l b) (shL b l) := by
  unfold impl_shiftedBy.f slices_Clone_int64_int64.f
  rw [if_pos (by omega)]
  simp only [Option.bind_some]
  exact iShift_l0 b l hl l.length 0 l (by omega) rfl (fun j hj => by omega) (fun j _ => rfl)
theorem sorted_eq {L S : List Int} (hp : S.Perm L) (hs : S.Pairwise (· ≤ ·)) : S = L.mergeSort fun x y => decide (x ≤ y) := by
  have h2 : (L.mergeSort fun x y => decide (x ≤ y)).Pairwise fun a b => decide (a ≤ b) = true := List.pairwise_mergeSort (fun a b c h1 h2 => by simp only [decide_eq_true_eq] at *; omega) (fun a b => by simp only [Bool.or_eq_true, decide_eq_true_eq]; omega) L
  refine List.Perm.eq_of_pairwise (le := fun a b : Int => a ≤ b) (fun a b _ _ h1 h2 => by omega) hs (h2.imp fun h => of_decide_eq_true h) (hp.trans (List.mergeSort_perm L _).symm)
theorem ms_pairwise (L : List Int) : (L.mergeSort fun x y => decide (x ≤ y)).Pairwise (· ≤ ·) := by
  have h2 : (L.mergeSort fun x y => decide (x ≤ y)).Pairwise fun a b => decide (a ≤ b) = true := List.pairwise_mergeSort (fun a b c h1 h2 => by simp only [decide_eq_true_eq] at *; omega) (fun a b => by simp only [Bool.or_eq_true, decide_eq_true_eq]; omega) L
  exact h2.imp fun h => of_decide_eq_true h
def medR (G : List Int) : Int := rd (G.mergeSort fun x y => decide (x ≤ y)) (((G.length - 1) / 2 : Nat) : Int)
theorem med_ix (n : Nat) (h : n ≤ 48) (h1 : 0 < n) : wrap64 (Int.tdiv (wrap64 ((n : Int) - 1)) 2) = (((n - 1) / 2 : Nat) : Int) := by
  rw [wid (x := (n : Int) - 1) (by omega), Int.tdiv_eq_ediv_of_nonneg (by omega), wid (by omega)]
  omega
theorem and255 (x : Int) : 0 ≤ wrap64 (Go.bits .and .u64 x 255) ∧ wrap64 (Go.bits .and .u64 x 255) ≤ 255 := by
  have e : Go.bits .and .u64 x 255 = IntKind.u64.wrap ((BitVec.ofInt 64 x &&& BitVec.ofInt 64 255).toNat : Int) := rfl
  have h : (BitVec.ofInt 64 x &&& BitVec.ofInt 64 255).toNat ≤ 255 := by
    rw [BitVec.toNat_and]
    exact Nat.le_trans Nat.and_le_right (by decide)
  generalize (BitVec.ofInt 64 x &&& BitVec.ofInt 64 255).toNat = n at e h
  have e2 : IntKind.u64.wrap (n : Int) = n := by
    unfold IntKind.wrap
    simp [IntKind.bits, IntKind.signed]
    omega
  rw [e, e2, wid (by omega)]
  omega
def bytesB (l : List Int) : Prop := ∀ j, j < l.length → 0 ≤ l.getD j 0 ∧ l.getD j 0 ≤ 255
theorem next_ok (l : List Int) (hb : bytesB l) (a s : Int) (h0 : 0 ≤ a) (h1 : a ≤ 4000000000000000000) : ∃ v s', spec_l00Src_next.f l a s = some (v, a + 1, s') ∧ 0 ≤ v ∧ v ≤ 255 := by
  unfold spec_l00Src_next.f
  rw [wid (x := a + 1) (by omega)]
  by_cases c : a < (l.length : Int)
  · have q := hb a.toNat (by omega)
    have e : rd l a = l.getD a.toNat 0 := rfl
    rw [if_pos c, if_pos h0, if_pos (by omega), e, wid (x := l.getD a.toNat 0) (by omega)]
    exact ⟨_, _, rfl, q⟩
  · rw [if_neg c, if_neg (by omega)]
    exact ⟨_, _, rfl, and255 _⟩
theorem pick_ok (l : List Int) (hb : bytesB l) (a s n : Int) (h0 : 0 ≤ a) (h1 : a ≤ 3000000000000000000) (hn : n ≤ 1000000) : ∃ v a' s', spec_l00Src_pick.f l a s n = some (v, a', s') ∧ 0 ≤ v ∧ (v < n ∨ v = 0) ∧ a ≤ a' ∧ a' ≤ a + 2 := by
  unfold spec_l00Src_pick.f
  by_cases c : n ≤ 1
  · rw [if_pos c]; exact ⟨_, _, _, rfl, Int.le_refl _, .inr rfl, Int.le_refl _, by omega⟩
  rw [if_neg c]
  obtain ⟨v, s1, e1, v0, v1⟩ := next_ok l hb a s h0 (by omega)
  rw [e1]
  simp only [Option.bind_some]
  have tm : ∀ x : Int, 0 ≤ x → 0 ≤ Int.tmod x n ∧ Int.tmod x n < n := fun x hx => by
    rw [Int.tmod_eq_emod_of_nonneg hx]
    exact ⟨Int.emod_nonneg _ (by omega), Int.emod_lt_of_pos _ (by omega)⟩
  by_cases c2 : n > 200
  · rw [if_pos c2]
    obtain ⟨v', s2, e2, v0', v1'⟩ := next_ok l hb (a + 1) s1 (by omega) (by omega)
    rw [e2]
    simp only [Option.bind_some]
    rw [if_neg (by omega), wid (x := v * 256) (by omega), wid (x := v * 256 + v') (by omega)]
    have := tm (v * 256 + v') (by omega)
    exact ⟨_, _, _, rfl, this.1, .inl this.2, by omega, by omega⟩
  · rw [if_neg c2, if_neg (by omega)]
    have := tm v v0
    exact ⟨_, _, _, rfl, this.1, .inl this.2, by omega, by omega⟩
theorem among_ok (l : List Int) (hb : bytesB l) (a s : Int) (m : List Int) (h0 : 0 ≤ a) (h1 : a ≤ 3000000000000000000) (hm : 0 < m.length) (hm2 : m.length ≤ 1000000) : ∃ v a' s', spec_l00Src_among.f l a s m = some (v, a', s') ∧ v ∈ m ∧ a ≤ a' ∧ a' ≤ a + 2 := by
  unfold spec_l00Src_among.f
  obtain ⟨v, a', s', e, v0, v1, a0, a1⟩ := pick_ok l hb a s (m.length : Int) h0 h1 (by omega)
  rw [e]
  simp only [Option.bind_some]
  have hv : v < (m.length : Int) := by rcases v1 with h | h <;> omega
  rw [if_pos v0, if_pos hv]
  refine ⟨_, _, _, rfl, ?_, a0, a1⟩
  have : rd m v = m.getD v.toNat 0 := rfl
  rw [this, List.getD_eq_getElem?_getD, List.getElem?_eq_getElem (by omega)]
  exact List.getElem_mem _
theorem one_ok (l : List Int) (hb : bytesB l) (a s n : Int) (h0 : 0 ≤ a) (h1 : a ≤ 3000000000000000000) (hn : n ≤ 1000000) : ∃ v a' s', spec_l00Src_one.f l a s n = some (v, a', s') ∧ a ≤ a' ∧ a' ≤ a + 2 := by
  unfold spec_l00Src_one.f
  obtain ⟨v, a', s', e, v0, v1, a0, a1⟩ := pick_ok l hb a s n h0 h1 hn
  rw [e]
  exact ⟨_, _, _, rfl, a0, a1⟩
theorem put_l0 (x : List Int) (t : Int) (hx : x.length ≤ 1000000) (d : Nat) : ∀ (i : Nat) (acc : List Int) (b : Bool), i + d = x.length → acc.length ≤ i + 1 → ((b = false) → acc.length ≤ i) → ∃ r : List Int, r.length ≤ x.length + 1 ∧ Ev (fun k => spec_l00Put.l0 k x t acc b i) r := by
  induction d with
  | zero =>
    intro i acc b h1 h2 h3
    cases b with
    | true =>
      refine ⟨acc, by omega, Ev.shift ?_⟩
      simp only [spec_l00Put.l0]
      exact Ev.neg (by omega) (Ev.pos trivial (Ev.now _))
    | false =>
      have := h3 rfl
      refine ⟨acc ++ [t], by simp; omega, Ev.shift ?_⟩
      simp only [spec_l00Put.l0]
      exact Ev.neg (by omega) (Ev.neg (by simp) (Ev.pos (by omega) (Ev.now _)))
  | succ d ih =>
    intro i acc b h1 h2 h3
    have w1 : wrap64 ((i : Int) + 1) = ((i + 1 : Nat) : Int) := by rw [wid (by omega)]; rfl
    have jf : ∀ b' : Bool, b' = b → ∃ r : List Int, r.length ≤ x.length + 1 ∧ Ev (fun k => spec_l00Put.j1 k x t acc b' i false) r := by
      intro b' hb
      subst hb
      obtain ⟨r, r1, r2⟩ := ih (i + 1) (acc ++ [rd x i]) b' (by omega) (by simp; omega) (fun e => by have := h3 e; simp; omega)
      refine ⟨r, r1, Ev.shift ?_⟩
      simp only [spec_l00Put.j1, w1]
      exact Ev.neg (by simp) (Ev.pos (by omega) (Ev.pos (by omega) (Ev.pos (by omega) r2)))
    cases b with
    | true =>
      obtain ⟨r, r1, r2⟩ := jf true rfl
      refine ⟨r, r1, Ev.shift ?_⟩
      simp only [spec_l00Put.l0]
      exact Ev.pos (by omega) (Ev.pos trivial r2)
    | false =>
      have hle := h3 rfl
      by_cases c : rd x (i : Int) ≥ t
      · have hj : ∃ r : List Int, r.length ≤ x.length + 1 ∧ Ev (fun k => spec_l00Put.j1 k x t acc false i true) r := by
          by_cases c2 : rd x (i : Int) > t
          · obtain ⟨r, r1, r2⟩ := ih (i + 1) ((acc ++ [t]) ++ [rd x i]) true (by omega) (by simp; omega) (fun e => by cases e)
            refine ⟨r, r1, Ev.shift ?_⟩
            simp only [spec_l00Put.j1, w1]
            refine Ev.pos trivial (Ev.pos (by omega) (Ev.pos (by omega) (Ev.pos c2 (Ev.pos (by omega) ?_))))
            simp only [Option.bind_some]
            exact Ev.pos (by simp; omega) r2
          · obtain ⟨r, r1, r2⟩ := ih (i + 1) (acc ++ [rd x i]) true (by omega) (by simp; omega) (fun e => by cases e)
            refine ⟨r, r1, Ev.shift ?_⟩
            simp only [spec_l00Put.j1, w1]
            exact Ev.pos trivial (Ev.pos (by omega) (Ev.pos (by omega) (Ev.neg c2 (Ev.pos (by omega) r2))))
        obtain ⟨r, r1, r2⟩ := hj
        refine ⟨r, r1, Ev.shift ?_⟩
        simp only [spec_l00Put.l0]
        refine Ev.pos (by omega) (Ev.neg (by simp) (Ev.pos (by omega) ?_))
        rw [decide_eq_true c]; exact r2
      · obtain ⟨r, r1, r2⟩ := jf false rfl
        refine ⟨r, r1, Ev.shift ?_⟩
        simp only [spec_l00Put.l0]
        refine Ev.pos (by omega) (Ev.neg (by simp) (Ev.pos (by omega) ?_))
        rw [decide_eq_false c]; exact r2
theorem put_ok (x : List Int) (t : Int) (hx : x.length ≤ 1000000) : ∃ r : List Int, r.length ≤ x.length + 1 ∧ Ev (fun k => spec_l00Put.f k x t) r := by
  unfold spec_l00Put.f
  exact put_l0 x t hx x.length 0 [] false (by omega) (by simp) (fun _ => by simp)
theorem drawOk24_l0 (l : List Int) (hb : bytesB l) (g : Int) (d : Nat) (hd : d ≤ 100) : ∀ (x : List Int) (t a s : Int), x.length ≤ 1000 - d → 0 ≤ a → a ≤ 2000000 - 4 * d → ∃ r a' s', r.length ≤ 1000 ∧ 0 ≤ a' ∧ a' ≤ 2000000 ∧ Ev (fun k => spec_l24DrawOk.l0 k x t g d l a s) (r, a', s') := by
  induction d with
  | zero =>
    intro x t a s h1 h2 h3
    refine ⟨x, a, s, by omega, h2, by omega, Ev.shift ?_⟩
    simp only [spec_l24DrawOk.l0]
    exact Ev.neg (by omega) (Ev.now _)
  | succ d ih =>
    intro x t a s h1 h2 h3
    obtain ⟨p, p1, p2⟩ := put_ok x t (by omega)
    obtain ⟨v2, a2, s2, e2, _, b3, b4⟩ := among_ok l hb a s [0, 0, 10, 30, 100] (by omega) (by omega) (by simp) (by simp)
    obtain ⟨r, a', s', q1, q3, q4, q5⟩ := ih (by omega) p (wrap64 (t + (wrap64 (g + v2)))) a2 s2 (by omega) (by omega) (by omega)
    refine ⟨r, a', s', q1, q3, q4, Ev.shift ?_⟩
    simp only [spec_l24DrawOk.l0]
    refine Ev.pos (by omega) (Ev.bind p2 ?_)
    simp only [e2, Option.bind_some]
    rw [show wrap64 (((d + 1 : Nat) : Int) - 1) = (d : Int) by rw [wid (by omega)]; omega]
    exact q5
theorem draw24_l0 (l : List Int) (a s : Int) (n d : Nat) (hn : n ≤ 100) : ∀ (i : Nat) (x : List Int), i + d = n → x.length = i → ∃ r : List Int, r.length ≤ 1000 ∧ Ev (fun k => spec_l24Draw.l0 k x (n : Int) i l a s) (r, a, s) := by
  induction d with
  | zero =>
    intro i x h1 h2
    refine ⟨x, by omega, Ev.shift ?_⟩
    simp only [spec_l24Draw.l0]
    exact Ev.neg (by omega) (Ev.now _)
  | succ d ih =>
    intro i x h1 h2
    obtain ⟨r, q1, q2⟩ := ih (i + 1) (x ++ [wrap64 (500 * i)]) (by omega) (by simp; omega)
    refine ⟨r, q1, Ev.shift ?_⟩
    simp only [spec_l24Draw.l0]
    refine Ev.pos (by omega) (Ev.pos (by omega) ?_)
    rw [wid (x := (i : Int) + 1) (by omega)]
    exact q2
theorem draw24 (l : List Int) (hb : bytesB l) (a s : Int) (h0 : 0 ≤ a) (h1 : a ≤ 1000) : ∃ (r : List Int) (a' s' : Int), r.length ≤ 2000 ∧ 0 ≤ a' ∧ a' ≤ 3000000 ∧ Ev (fun k => spec_l24Draw.f k l a s) (r, a', s') := by
  unfold spec_l24Draw.f spec_l24DrawOk.f
  obtain ⟨v, a1, s1, e1, _, _, b1, b2⟩ := pick_ok l hb a s 8 h0 (by omega) (by omega)
  obtain ⟨v2, a2, s2, e2, _, _, b3, b4⟩ := pick_ok l hb a1 s1 8 (by omega) (by omega) (by omega)
  obtain ⟨v3, a3, s3, e3, v30, v31, b5, b6⟩ := pick_ok l hb a2 s2 9 (by omega) (by omega) (by omega)
  obtain ⟨n, rfl⟩ := Int.eq_ofNat_of_zero_le v30
  have hn : n ≤ 9 := by rcases v31 with h | h <;> omega
  obtain ⟨r, a4, s4, r1, b7, b8, ev⟩ := drawOk24_l0 l hb (wrap64 (100 * (wrap64 (2 + v2)))) n (by omega) [] (wrap64 (100 * v)) a3 s3 (by simp) (by omega) (by omega)
  obtain ⟨v5, a5, s5, e5, _, _, b9, b10⟩ := pick_ok l hb a4 s4 22 (by omega) (by omega) (by omega)
  simp only [e1, e2, e3, Option.bind_some]
  by_cases c0 : v5 = 0
  · obtain ⟨v6, a6, s6, e6, _, b11, b12⟩ := among_ok l hb a5 s5 [-1, 0, 10000000, 10000001] (by omega) (by omega) (by simp) (by simp)
    refine ⟨r ++ [v6], a6, s6, by simp; omega, by omega, by omega, Ev.bind ev ?_⟩
    simp only [e5, Option.bind_some]
    refine Ev.pos c0 ?_
    rw [e6]
    exact Ev.some (by simp only [Option.bind_some]; rw [if_pos (by omega)])
  by_cases c1 : v5 = 1
  · obtain ⟨v6, a6, s6, e6, hv6, b11, b12⟩ := among_ok l hb a5 s5 [48, 49] (by omega) (by omega) (by simp) (by simp)
    have h5 : 0 ≤ v6 ∧ v6 ≤ 49 := by simp at hv6; omega
    obtain ⟨m, rfl⟩ := Int.eq_ofNat_of_zero_le h5.1
    obtain ⟨r5, q1, q2⟩ := draw24_l0 l a6 s6 m m (by omega) 0 [] (by omega) rfl
    refine ⟨r5, a6, s6, by omega, by omega, by omega, Ev.bind ev ?_⟩
    simp only [e5, Option.bind_some]
    refine Ev.neg c0 (Ev.pos c1 ?_)
    simp only [e6, Option.bind_some]
    exact q2
  · refine ⟨r, a5, s5, by omega, by omega, by omega, Ev.bind ev ?_⟩
    simp only [e5, Option.bind_some]
    exact Ev.neg c0 (Ev.neg c1 (Ev.now _))
def alN (o : Nat → Int) (b miss : Int) (nx : Nat → Int) (k m : Nat) : Int := miss * ((m : Int) - k) + (((o m - b).natAbs : Nat) : Int) + nx (m + 1)
theorem al_in_succ (o : Nat → Int) (b miss : Int) (nx : Nat → Int) (M k j : Nat) : al_in o b miss nx M k (j + 1) = if alN o b miss nx k (M - 1 - j) ≤ (al_in o b miss nx M k j).1 then (alN o b miss nx k (M - 1 - j), ((M - 1 - j : Nat) : Int)) else al_in o b miss nx M k j := rfl
theorem alN_succ (o : Nat → Int) (b miss : Int) (nx : Nat → Int) (k m : Nat) : alN o b miss nx k m = alN o b miss nx (k + 1) m + miss := by
  unfold alN
  rw [show ((k + 1 : Nat) : Int) = (k : Int) + 1 from rfl, show (m : Int) - k = ((m : Int) - (k + 1)) + 1 by omega, Int.mul_add, Int.mul_one]
  omega
theorem alN_self (o : Nat → Int) (b miss : Int) (nx : Nat → Int) (k : Nat) : alN o b miss nx k k = (((o k - b).natAbs : Nat) : Int) + nx (k + 1) := by
  unfold alN
  rw [Int.sub_self, Int.mul_zero, Int.zero_add]
/-- The one-step law. -/
theorem al_rel {o : Nat → Int} {b miss : Int} {nx : Nat → Int} {M k : Nat} (hk : nx k ≤ nx (k + 1) + miss) : ∀ j, (al_in o b miss nx M k j).1 = min (miss + nx k) ((al_in o b miss nx M (k + 1) j).1 + miss) := by
  intro j
  induction j with
  | zero =>
    show miss + nx k = min (miss + nx k) (miss + nx (k + 1) + miss)
    omega
  | succ j ih =>
    rw [al_in_succ, al_in_succ, alN_succ]
    split <;> split <;> (try dsimp only) <;> omega
theorem al_row_zero (b o : Nat → Int) (miss : Int) (N M k : Nat) : al_row b o miss N M 0 k = miss * ((M : Int) - k) := rfl
theorem al_row_succ (b o : Nat → Int) (miss : Int) (N M r k : Nat) : al_row b o miss N M (r + 1) k = (al_in o (b (N - 1 - r)) miss (al_row b o miss N M r) M k (M - k)).1 := rfl
theorem al_row_last (b o : Nat → Int) (miss : Int) (N M r : Nat) : al_row b o miss N M (r + 1) M = miss + al_row b o miss N M r M := by
  rw [al_row_succ, Nat.sub_self]; rfl
theorem al_row_step (b o : Nat → Int) (miss : Int) (N M : Nat) : ∀ r, (∀ k, k < M → al_row b o miss N M r k ≤ al_row b o miss N M r (k + 1) + miss) ∧
    (∀ k, k < M → al_row b o miss N M (r + 1) k = min (min (al_row b o miss N M r k + miss) (al_row b o miss N M (r + 1) (k + 1) + miss)) (al_row b o miss N M r (k + 1) + (((o k - b (N - 1 - r)).natAbs : Nat) : Int))) := by
  have main : ∀ r, (∀ k, k < M → al_row b o miss N M r k ≤ al_row b o miss N M r (k + 1) + miss) → (∀ k, k < M → al_row b o miss N M (r + 1) k = min (min (al_row b o miss N M r k + miss) (al_row b o miss N M (r + 1) (k + 1) + miss)) (al_row b o miss N M r (k + 1) + (((o k - b (N - 1 - r)).natAbs : Nat) : Int))) := by
    intro r h k hk
    have e1 : M - k = (M - (k + 1)) + 1 := by omega
    have e2 : M - 1 - (M - (k + 1)) = k := by omega
    rw [al_row_succ, al_row_succ, e1, al_in_succ, e2, alN_self, al_rel (h k hk)]
    split <;> simp only [al_rel (h k hk)] <;> omega
  intro r
  induction r with
  | zero =>
    have h0 : ∀ k, k < M → al_row b o miss N M 0 k ≤ al_row b o miss N M 0 (k + 1) + miss := by
      intro k hk
      rw [al_row_zero, al_row_zero, show (M : Int) - k = ((M : Int) - ((k + 1 : Nat) : Int)) + 1 by omega, Int.mul_add, Int.mul_one]
      exact Int.le_refl _
    exact ⟨h0, main 0 h0⟩
  | succ r ih =>
    have h1 : ∀ k, k < M → al_row b o miss N M (r + 1) k ≤ al_row b o miss N M (r + 1) (k + 1) + miss := by
      intro k hk
      rw [ih.2 k hk]
      omega
    exact ⟨h1, main (r + 1) h1⟩
/-- What the choice is: the first onset that makes the cost, or none. -/
theorem al_ch_in (o : Nat → Int) (b miss : Int) (nx : Nat → Int) (M k : Nat) : ∀ j, j ≤ M → ((al_in o b miss nx M k j).2 = -1 ∧ ∀ m, M - j ≤ m → m < M → (al_in o b miss nx M k j).1 < alN o b miss nx k m) ∨
    (∃ m, M - j ≤ m ∧ m < M ∧ (al_in o b miss nx M k j).2 = (m : Int) ∧ alN o b miss nx k m = (al_in o b miss nx M k j).1 ∧ ∀ q, M - j ≤ q → q < m → (al_in o b miss nx M k j).1 < alN o b miss nx k q) := by
  intro j
  induction j with
  | zero => intro _; exact .inl ⟨rfl, fun m h1 h2 => by omega⟩
  | succ j ih =>
    intro hj
    rw [al_in_succ]
    split
    · exact .inr ⟨M - 1 - j, by omega, by omega, rfl, rfl, fun q h1 h2 => by omega⟩
    · rename_i h
      have key : ∀ q, M - (j + 1) ≤ q → M - j ≤ q ∨ q = M - 1 - j := fun q hq => by omega
      rcases ih (by omega) with ⟨h1, h2⟩ | ⟨m, h1, h2, h3, h4, h5⟩
      · refine .inl ⟨h1, fun q a c => ?_⟩
        rcases key q a with h6 | rfl
        · exact h2 q h6 c
        · omega
      · refine .inr ⟨m, by omega, h2, h3, h4, fun q a c => ?_⟩
        rcases key q a with h6 | rfl
        · exact h5 q h6 c
        · omega
theorem al_mulP {a x : Int} (h0 : 0 ≤ a) (h1 : a ≤ 1000000000) (h2 : 0 ≤ x) (h3 : x ≤ 2000) : 0 ≤ a * x ∧ a * x ≤ 2000000000000 := by
  refine ⟨Int.mul_nonneg h0 h2, ?_⟩
  have := Int.mul_le_mul h1 h3 h2 (by omega : (0:Int) ≤ 1000000000)
  omega
theorem al_in_bP {o : Nat → Int} {b miss : Int} {nx : Nat → Int} {M k : Nat} (h0 : 0 ≤ miss) (hn : ∀ q, q ≤ M → 0 ≤ nx q) (hk : k ≤ M) : ∀ j, j ≤ M - k → 0 ≤ (al_in o b miss nx M k j).1 ∧ (al_in o b miss nx M k j).1 ≤ miss + nx k ∧ ((al_in o b miss nx M k j).2 = -1 ∨ ((k : Int) ≤ (al_in o b miss nx M k j).2 ∧ (al_in o b miss nx M k j).2 < M)) := by
  intro j
  induction j with
  | zero =>
    intro _
    have := hn k hk
    exact ⟨by show 0 ≤ miss + nx k; omega, Int.le_refl _, .inl rfl⟩
  | succ j ih =>
    intro hj
    have ih := ih (by omega)
    simp only [al_in]
    split
    · rename_i h
      refine ⟨?_, Int.le_trans h ih.2.1, .inr ⟨by omega, by omega⟩⟩
      have h1 : 0 ≤ miss * (((M - 1 - j : Nat) : Int) - k) := Int.mul_nonneg h0 (by omega)
      have h2 := hn (M - 1 - j + 1) (by omega)
      omega
    · exact ih
theorem al_row_bP (b o : Nat → Int) (miss : Int) (N M : Nat) (h0 : 0 ≤ miss) : ∀ r k, k ≤ M → 0 ≤ al_row b o miss N M r k ∧ al_row b o miss N M r k ≤ miss * M + miss * r := by
  intro r
  induction r with
  | zero =>
    intro k hk
    refine ⟨Int.mul_nonneg h0 (by omega), ?_⟩
    show miss * ((M : Int) - k) ≤ _
    have := Int.mul_le_mul_of_nonneg_left (show (M : Int) - k ≤ M by omega) h0
    rw [Int.ofNat_zero, Int.mul_zero]
    omega
  | succ r ih =>
    intro k hk
    have hb := al_in_bP (o := o) (b := b (N - 1 - r)) (nx := al_row b o miss N M r) h0 (fun q hq => (ih q hq).1) hk (M - k) (Nat.le_refl _)
    refine ⟨hb.1, Int.le_trans hb.2.1 ?_⟩
    have := (ih k hk).2
    rw [show ((r + 1 : Nat) : Int) = (r : Int) + 1 from rfl, Int.mul_add, Int.mul_one]
    omega
theorem al_row_maxP {b o : Nat → Int} {miss : Int} {N M : Nat} (h0 : 0 ≤ miss) (h1 : miss ≤ 1000000000) (hM : M ≤ 1000) {r k : Nat} (hr : r ≤ 1000) (hk : k ≤ M) : 0 ≤ al_row b o miss N M r k ∧ al_row b o miss N M r k ≤ 4000000000000 := by
  have h := al_row_bP b o miss N M h0 r k hk
  have a := (al_mulP h0 h1 (show (0 : Int) ≤ M by omega) (by omega)).2
  have c := (al_mulP h0 h1 (show (0 : Int) ≤ r by omega) (by omega)).2
  exact ⟨h.1, by omega⟩
/-- The bounds of a table of costs, and its laws. -/
structure IsC (b o : Nat → Int) (miss : Int) (N M : Nat) (C : Nat → Nat → Int) : Prop where
  bd : ∀ i k, i ≤ N → k ≤ M → 0 ≤ C i k ∧ C i k ≤ 4000000000000
  last : ∀ k, k ≤ M → C N k = miss * ((M : Int) - k)
  edge : ∀ i, i < N → C i M = C (i + 1) M + miss
  step : ∀ i k, i < N → k < M → C i k = min (min (C (i + 1) k + miss) (C i (k + 1) + miss)) (C (i + 1) (k + 1) + (((b i - o k).natAbs : Nat) : Int))
theorem isC (b o : Nat → Int) (miss : Int) (N M : Nat) (h0 : 0 ≤ miss) (h1 : miss ≤ 1000000000) (hN : N ≤ 1000) (hM : M ≤ 1000) : IsC b o miss N M (fun i k => al_row b o miss N M (N - i) k) := by
  refine ⟨fun i k hi hk => al_row_maxP h0 h1 hM (by omega) hk, fun k hk => ?_, fun i hi => ?_, fun i k hi hk => ?_⟩
  · show al_row b o miss N M (N - N) k = _
    rw [Nat.sub_self]; rfl
  · show al_row b o miss N M (N - i) M = al_row b o miss N M (N - (i + 1)) M + miss
    rw [show N - i = (N - (i + 1)) + 1 by omega, al_row_last]
    omega
  · show al_row b o miss N M (N - i) k = min (min (al_row b o miss N M (N - (i + 1)) k + miss) (al_row b o miss N M (N - i) (k + 1) + miss)) (al_row b o miss N M (N - (i + 1)) (k + 1) + _)
    rw [show N - i = (N - (i + 1)) + 1 by omega, (al_row_step b o miss N M (N - (i + 1))).2 k hk, show N - 1 - (N - (i + 1)) = i by omega, show (b i - o k).natAbs = (o k - b i).natAbs by omega]
def alC (l0 l1 : List Int) (miss : Int) : Nat → Nat → Int := fun i k => al_row (l0.getD · 0) (l1.getD · 0) miss l0.length l1.length (l0.length - i) k
def alR (l0 l1 : List Int) (miss : Int) : List Int := al_m (l0.getD · 0) (l1.getD · 0) miss l0.length l1.length
def alX (l0 l1 : List Int) (miss : Int) (i : Nat) : Int := al_nx (l0.getD · 0) (l1.getD · 0) miss l0.length l1.length i
theorem al_ch_bP (b o : Nat → Int) (miss : Int) (N M : Nat) (h0 : 0 ≤ miss) (r k : Nat) (hk : k ≤ M) (hr : 0 < r) : al_ch b o miss N M r k = -1 ∨ (0 ≤ al_ch b o miss N M r k ∧ al_ch b o miss N M r k < M) := by
  obtain ⟨r, rfl⟩ : ∃ q, r = q + 1 := ⟨r - 1, by omega⟩
  have hb := (al_in_bP (o := o) (b := b (N - 1 - r)) (nx := al_row b o miss N M r) h0 (fun q hq => (al_row_bP b o miss N M h0 r q hq).1) hk (M - k) (Nat.le_refl _)).2.2
  rcases hb with h | ⟨h1, h2⟩
  · exact .inl h
  · exact .inr ⟨by show 0 ≤ (al_in _ _ _ _ _ _ _).2; omega, h2⟩
theorem al_nx_bP (b o : Nat → Int) (miss : Int) (N M : Nat) (h0 : 0 ≤ miss) : ∀ i, i ≤ N → 0 ≤ al_nx b o miss N M i ∧ al_nx b o miss N M i ≤ M := by
  intro i
  induction i with
  | zero => intro _; exact ⟨Int.le_refl _, by show (0 : Int) ≤ M; omega⟩
  | succ i ih =>
    intro hi
    have ih := ih (by omega)
    have hb := al_ch_bP b o miss N M h0 (N - i) (al_nx b o miss N M i).toNat (by omega) (by omega)
    simp only [al_nx]
    split <;> omega
theorem al_ch_p (b o : Nat → Int) (miss : Int) (N M i k : Nat) (hi : i < N) (hk : k ≤ M) : (al_ch b o miss N M (N - i) k = -1 ∧ ∀ m, k ≤ m → m < M → al_row b o miss N M (N - i) k < alN o (b i) miss (fun q => al_row b o miss N M (N - (i + 1)) q) k m) ∨
    (∃ m, k ≤ m ∧ m < M ∧ al_ch b o miss N M (N - i) k = (m : Int) ∧ alN o (b i) miss (fun q => al_row b o miss N M (N - (i + 1)) q) k m = al_row b o miss N M (N - i) k ∧ ∀ q, k ≤ q → q < m → al_row b o miss N M (N - i) k < alN o (b i) miss (fun q => al_row b o miss N M (N - (i + 1)) q) k q) := by
  have h := al_ch_in o (b i) miss (al_row b o miss N M (N - (i + 1))) M k (M - k) (by omega)
  rw [show M - (M - k) = k by omega] at h
  have e1 : al_ch b o miss N M (N - i) k = (al_in o (b i) miss (al_row b o miss N M (N - (i + 1))) M k (M - k)).2 := by
    rw [show N - i = (N - (i + 1)) + 1 by omega]
    show (al_in o (b (N - 1 - (N - (i + 1)))) miss _ M k (M - k)).2 = _
    rw [show N - 1 - (N - (i + 1)) = i by omega]
  have e2 : al_row b o miss N M (N - i) k = (al_in o (b i) miss (al_row b o miss N M (N - (i + 1))) M k (M - k)).1 := by
    rw [show N - i = (N - (i + 1)) + 1 by omega]
    show (al_in o (b (N - 1 - (N - (i + 1)))) miss _ M k (M - k)).1 = _
    rw [show N - 1 - (N - (i + 1)) = i by omega]
  rw [e1, e2]
  exact h
theorem ons_al {l : List Int} (h : onsetsB l = true) : l.length ≤ 1000 ∧ ∀ j, 0 ≤ l.getD j 0 ∧ l.getD j 0 ≤ 1000000000 := by
  have h48 := onsetsB_len h
  refine ⟨by omega, fun j => ?_⟩
  by_cases hj : j < l.length
  · have := onsetsB_get h j hj
    exact ⟨this.1, by omega⟩
  · rw [List.getD_eq_getElem?_getD, List.getElem?_eq_none (by omega)]
    exact ⟨by decide, by decide⟩
theorem ons_ok_al {l : List Int} (h : onsetsB l = true) : al_ok l = true := by
  have h48 := onsetsB_len h
  simp only [al_ok, Bool.and_eq_true, decide_eq_true_eq, List.all_eq_true]
  refine ⟨by omega, fun x hx => ?_⟩
  obtain ⟨j, hj, rfl⟩ := List.getElem_of_mem hx
  have := (ons_al h).2 j
  rwa [List.getD_eq_getElem?_getD, List.getElem?_eq_getElem hj] at this
theorem iAlign (l0 l1 : List Int) (miss : Int) (h : onsetsB l0 = true) (h' : onsetsB l1 = true) (h0 : 0 ≤ miss) (h1 : miss ≤ 1000000) : impl_align.f l0 l1 miss = some (alR l0 l1 miss, alC l0 l1 miss 0 0) := by
  unfold impl_align.f
  rw [if_pos ⟨ons_ok_al h, ons_ok_al h', h0, by omega⟩]
  rfl
def alAns (l0 l1 : List Int) (miss : Int) : List Int × Int × Int := if onsetsB l0 = true ∧ onsetsB l1 = true then (if 0 ≤ miss ∧ miss ≤ 1000000 then (alR l0 l1 miss, alC l0 l1 miss 0 0, 0) else ([], 0, 2)) else ([], 0, 1)
theorem alR_len (l0 l1 : List Int) (miss : Int) : (alR l0 l1 miss).length = l0.length := by unfold alR al_m; simp
theorem alAns_len (l0 l1 : List Int) (miss : Int) : (alAns l0 l1 miss).1.length ≤ 48 := by
  unfold alAns
  split
  · rename_i h
    split
    · show (alR l0 l1 miss).length ≤ 48
      rw [alR_len]; exact onsetsB_len h.1
    · exact Nat.zero_le _
  · exact Nat.zero_le _
theorem iAlignOnsets (l0 l1 : List Int) (miss : Int) (hl0 : l0.length ≤ 35184372088832) (hl1 : l1.length ≤ 35184372088832) : Ev (fun k => impl_AlignOnsets.f k l0 l1 miss) (alAns l0 l1 miss) := by
  unfold impl_AlignOnsets.f alAns
  have bad : Ev (fun k => impl_AlignOnsets.j0 k l0 l1 miss true) ([], 0, 1) := by
    refine Ev.shift ?_
    simp only [impl_AlignOnsets.j0]
    exact Ev.pos trivial (Ev.now _)
  refine Ev.bind (iOnsets l0 hl0) ?_
  by_cases h : onsetsB l0 = true
  · refine Ev.pos h (Ev.bind (iOnsets l1 hl1) ?_)
    by_cases h' : onsetsB l1 = true
    · rw [h', if_pos ⟨h, rfl⟩]
      refine Ev.shift ?_
      simp only [impl_AlignOnsets.j0, within_eq, Option.bind_some, Bool.not_true]
      refine Ev.neg (by decide) ?_
      by_cases hm : 0 ≤ miss ∧ miss ≤ 1000000
      · rw [if_pos hm, iAlign l0 l1 miss h h' hm.1 hm.2]
        exact Ev.pos (decide_eq_true hm) (Ev.now _)
      · rw [if_neg hm]
        exact Ev.neg (by rw [decide_eq_true_iff]; exact hm) (Ev.now _)
    · rw [if_neg (by simp [h']), show (!onsetsB l1) = true by simp [h']]
      exact bad
  · rw [if_neg (by simp [h])]
    exact Ev.neg h bad
def bsS (l0 l1 : List Int) (miss y : Int) (s : Int × Int) : Int × Int := if onsetsB (shL y l1) = true then (if alC l0 (shL y l1) miss 0 0 < s.2 then (y, alC l0 (shL y l1) miss 0 0) else s) else s
def bsN (l0 l1 : List Int) (miss step : Int) : Nat → Int → Int × Int → Int × Int
  | 0, _, s => s
  | d + 1, n, s => bsN l0 l1 miss step d (n + 1) (bsS l0 l1 miss (-n * step) (bsS l0 l1 miss (n * step) s))
def bsAns (l0 l1 : List Int) (miss most step : Int) : Int × Int × Int := if onsetsB l0 = true ∧ onsetsB l1 = true then (if (0 ≤ miss ∧ miss ≤ 1000000) ∧ (0 ≤ most ∧ most ≤ 20) ∧ 1 ≤ step ∧ step ≤ 10000000 then ((bsN l0 l1 miss step most.toNat 1 (0, alC l0 l1 miss 0 0)).1, (bsN l0 l1 miss step most.toNat 1 (0, alC l0 l1 miss 0 0)).2, 0) else (0, 0, 2)) else (0, 0, 1)
theorem iBsStep (l0 l1 : List Int) (miss y : Int) (s : Int × Int) (h : onsetsB l0 = true) (hl1 : l1.length ≤ 48) (h0 : 0 ≤ miss) (h1 : miss ≤ 1000000) : Ev (fun k => bs_step k l0 l1 miss y s) (bsS l0 l1 miss y s) := by
  unfold bs_step bsS
  refine Ev.bind (iShift y l1 (by omega)) (Ev.bind (iOnsets _ (by rw [shL_len]; omega)) ?_)
  by_cases h' : onsetsB (shL y l1) = true
  · refine Ev.same (Ev.pos h' ?_) (if_pos h').symm
    rw [iAlign l0 (shL y l1) miss h h' h0 h1]
    exact Ev.now _
  · exact Ev.same (Ev.neg h' (Ev.now _)) (if_neg h').symm
theorem iBsN (l0 l1 : List Int) (miss step : Int) (h : onsetsB l0 = true) (hl1 : l1.length ≤ 48) (h0 : 0 ≤ miss) (h1 : miss ≤ 1000000) (d : Nat) : ∀ n s, Ev (fun k => bs_n k l0 l1 miss step d n s) (bsN l0 l1 miss step d n s) := by
  induction d with
  | zero => intro n s; exact Ev.now _
  | succ d ih =>
    intro n s
    exact Ev.bind (iBsStep l0 l1 miss (n * step) s h hl1 h0 h1) (Ev.bind (iBsStep l0 l1 miss (-n * step) _ h hl1 h0 h1) (ih (n + 1) _))
theorem iBestShift (l0 l1 : List Int) (miss most step : Int) (hl0 : l0.length ≤ 35184372088832) (hl1 : l1.length ≤ 35184372088832) : Ev (fun k => impl_BestShift.f k l0 l1 miss most step) (bsAns l0 l1 miss most step) := by
  unfold impl_BestShift.f bsAns
  refine Ev.bind (iOnsets l0 hl0) ?_
  by_cases h : onsetsB l0 = true
  · refine Ev.pos h (Ev.bind (iOnsets l1 hl1) ?_)
    by_cases h' : onsetsB l1 = true
    · rw [if_pos ⟨h, h'⟩]
      refine Ev.pos h' ?_
      have h48 := onsetsB_len h'
      by_cases a : 0 ≤ miss ∧ miss ≤ 1000000
      · refine Ev.pos a ?_
        by_cases b : 0 ≤ most ∧ most ≤ 20
        · refine Ev.pos b ?_
          by_cases c : 1 ≤ step ∧ step ≤ 10000000
          · rw [if_pos ⟨a, b, c⟩, iAlign l0 l1 miss h h' a.1 a.2]
            exact Ev.pos c (Ev.bind (Ev.now _) (Ev.bind (iBsN l0 l1 miss step h h48 a.1 a.2 most.toNat 1 _) (Ev.now _)))
          · rw [if_neg (fun q => c q.2.2)]
            exact Ev.neg c (Ev.now _)
        · rw [if_neg (fun q => b q.2.1)]
          exact Ev.neg b (Ev.now _)
      · rw [if_neg (fun q => a q.1)]
        exact Ev.neg a (Ev.now _)
    · rw [if_neg (fun q => h' q.2)]
      exact Ev.neg h' (Ev.now _)
  · rw [if_neg (fun q => h q.1)]
    exact Ev.neg h (Ev.now _)
theorem drawOk24w_l0 (l : List Int) (hb : bytesB l) (g B : Int) (hB : B ≤ 1000000000000) (d : Nat) (hd : d ≤ 100) : ∀ (x : List Int) (t a s : Int), x.length ≤ 1000 - d → 0 ≤ a → a ≤ B - 4 * d → ∃ r a' s', r.length ≤ 1000 ∧ 0 ≤ a' ∧ a' ≤ B ∧ Ev (fun k => spec_l24DrawOk.l0 k x t g d l a s) (r, a', s') := by
  induction d with
  | zero =>
    intro x t a s h1 h2 h3
    refine ⟨x, a, s, by omega, h2, by omega, Ev.shift ?_⟩
    simp only [spec_l24DrawOk.l0]
    exact Ev.neg (by omega) (Ev.now _)
  | succ d ih =>
    intro x t a s h1 h2 h3
    obtain ⟨p, p1, p2⟩ := put_ok x t (by omega)
    obtain ⟨v2, a2, s2, e2, _, b3, b4⟩ := among_ok l hb a s [0, 0, 10, 30, 100] (by omega) (by omega) (by simp) (by simp)
    obtain ⟨r, a', s', q1, q3, q4, q5⟩ := ih (by omega) p (wrap64 (t + (wrap64 (g + v2)))) a2 s2 (by omega) (by omega) (by omega)
    refine ⟨r, a', s', q1, q3, q4, Ev.shift ?_⟩
    simp only [spec_l24DrawOk.l0]
    refine Ev.pos (by omega) (Ev.bind p2 ?_)
    simp only [e2, Option.bind_some]
    rw [show wrap64 (((d + 1 : Nat) : Int) - 1) = (d : Int) by rw [wid (by omega)]; omega]
    exact q5
theorem draw24w (l : List Int) (hb : bytesB l) (a s : Int) (h0 : 0 ≤ a) (h1 : a ≤ 900000000000) : ∃ (r : List Int) (a' s' : Int), r.length ≤ 2000 ∧ 0 ≤ a' ∧ a' ≤ a + 1000 ∧ Ev (fun k => spec_l24Draw.f k l a s) (r, a', s') := by
  unfold spec_l24Draw.f spec_l24DrawOk.f
  obtain ⟨v, a1, s1, e1, _, _, b1, b2⟩ := pick_ok l hb a s 8 h0 (by omega) (by omega)
  obtain ⟨v2, a2, s2, e2, _, _, b3, b4⟩ := pick_ok l hb a1 s1 8 (by omega) (by omega) (by omega)
  obtain ⟨v3, a3, s3, e3, v30, v31, b5, b6⟩ := pick_ok l hb a2 s2 9 (by omega) (by omega) (by omega)
  obtain ⟨n, rfl⟩ := Int.eq_ofNat_of_zero_le v30
  have hn : n ≤ 9 := by rcases v31 with h | h <;> omega
  obtain ⟨r, a4, s4, r1, b7, b8, ev⟩ := drawOk24w_l0 l hb (wrap64 (100 * (wrap64 (2 + v2)))) (a + 100) (by omega) n (by omega) [] (wrap64 (100 * v)) a3 s3 (by simp) (by omega) (by omega)
  obtain ⟨v5, a5, s5, e5, _, _, b9, b10⟩ := pick_ok l hb a4 s4 22 (by omega) (by omega) (by omega)
  simp only [e1, e2, e3, Option.bind_some]
  by_cases c0 : v5 = 0
  · obtain ⟨v6, a6, s6, e6, _, b11, b12⟩ := among_ok l hb a5 s5 [-1, 0, 10000000, 10000001] (by omega) (by omega) (by simp) (by simp)
    refine ⟨r ++ [v6], a6, s6, by simp; omega, by omega, by omega, Ev.bind ev ?_⟩
    simp only [e5, Option.bind_some]
    refine Ev.pos c0 ?_
    rw [e6]
    exact Ev.some (by simp only [Option.bind_some]; rw [if_pos (by omega)])
  by_cases c1 : v5 = 1
  · obtain ⟨v6, a6, s6, e6, hv6, b11, b12⟩ := among_ok l hb a5 s5 [48, 49] (by omega) (by omega) (by simp) (by simp)
    have h5 : 0 ≤ v6 ∧ v6 ≤ 49 := by simp at hv6; omega
    obtain ⟨m, rfl⟩ := Int.eq_ofNat_of_zero_le h5.1
    obtain ⟨r5, q1, q2⟩ := draw24_l0 l a6 s6 m m (by omega) 0 [] (by omega) rfl
    refine ⟨r5, a6, s6, by omega, by omega, by omega, Ev.bind ev ?_⟩
    simp only [e5, Option.bind_some]
    refine Ev.neg c0 (Ev.pos c1 ?_)
    simp only [e6, Option.bind_some]
    exact q2
  · refine ⟨r, a5, s5, by omega, by omega, by omega, Ev.bind ev ?_⟩
    simp only [e5, Option.bind_some]
    exact Ev.neg c0 (Ev.neg c1 (Ev.now _))
theorem drawTwo_l0 (l : List Int) (hb : bytesB l) (x : List Int) (hx : x.length ≤ 2000) (sh : Int) (d : Nat) : ∀ (i : Nat) (y : List Int) (a s : Int), i + d = x.length → y.length ≤ i → 0 ≤ a → a ≤ 900000000000 - 4 * (d : Int) → ∃ r a' s', r.length ≤ 2000 ∧ 0 ≤ a' ∧ a' ≤ a + 4 * (d : Int) ∧ Ev (fun k => spec_l24DrawTwo.l0 k x y sh (i : Int) l a s) (x, r, a', s') := by
  induction d with
  | zero =>
    intro i y a s h1 h2 h3 h4
    refine ⟨y, a, s, by omega, h3, by omega, Ev.shift ?_⟩
    simp only [spec_l24DrawTwo.l0]
    exact Ev.neg (by omega) (Ev.now _)
  | succ d ih =>
    intro i y a s h1 h2 h3 h4
    have w1 : wrap64 ((i : Int) + 1) = ((i + 1 : Nat) : Int) := by rw [wid (by omega)]; rfl
    obtain ⟨v2, a2, s2, e2, _, b3, b4⟩ := among_ok l hb a s [0, 0, 15, -15] (by omega) (by omega) (by simp) (by simp)
    obtain ⟨v3, a3, s3, e3, b5, b6⟩ := one_ok l hb a2 s2 6 (by omega) (by omega) (by omega)
    obtain ⟨p, p1, p2⟩ := put_ok y (wrap64 ((wrap64 ((rd x i) + sh)) + v2)) (by omega)
    obtain ⟨r, a4, s4, q1, q2, q3, q4⟩ := ih (i + 1) y a3 s3 (by omega) (by omega) (by omega) (by omega)
    obtain ⟨r', a4', s4', q1', q2', q3', q4'⟩ := ih (i + 1) p a3 s3 (by omega) (by omega) (by omega) (by omega)
    by_cases c : v3 = true
    · refine ⟨r, a4, s4, q1, q2, by omega, Ev.shift ?_⟩
      simp only [spec_l24DrawTwo.l0, w1]
      refine Ev.pos (by omega) (Ev.pos (by omega) ?_)
      simp only [e2, e3, Option.bind_some]
      exact Ev.pos c q4
    · by_cases c2 : wrap64 ((wrap64 ((rd x i) + sh)) + v2) ≥ 0
      · refine ⟨r', a4', s4', q1', q2', by omega, Ev.shift ?_⟩
        simp only [spec_l24DrawTwo.l0, w1]
        refine Ev.pos (by omega) (Ev.pos (by omega) ?_)
        simp only [e2, e3, Option.bind_some]
        exact Ev.neg c (Ev.pos c2 (Ev.bind p2 q4'))
      · refine ⟨r, a4, s4, q1, q2, by omega, Ev.shift ?_⟩
        simp only [spec_l24DrawTwo.l0, w1]
        refine Ev.pos (by omega) (Ev.pos (by omega) ?_)
        simp only [e2, e3, Option.bind_some]
        exact Ev.neg c (Ev.neg c2 q4)
theorem drawTwo (l : List Int) (hb : bytesB l) (a s : Int) (h0 : 0 ≤ a) (h1 : a ≤ 1000) : ∃ (x y : List Int) (a' s' : Int), x.length ≤ 2000 ∧ y.length ≤ 2000 ∧ 0 ≤ a' ∧ a' ≤ 20000 ∧ Ev (fun k => spec_l24DrawTwo.f k l a s) (x, y, a', s') := by
  unfold spec_l24DrawTwo.f
  obtain ⟨x, a1, s1, hx, b1, b2, ev⟩ := draw24w l hb a s h0 (by omega)
  obtain ⟨v, a2, s2, e2, b3, b4⟩ := one_ok l hb a1 s1 4 (by omega) (by omega) (by omega)
  by_cases c : v = true
  · obtain ⟨y, a3, s3, hy, b5, b6, ev2⟩ := draw24w l hb a2 s2 (by omega) (by omega)
    refine ⟨x, y, a3, s3, hx, hy, b5, by omega, Ev.bind ev ?_⟩
    simp only [e2, Option.bind_some]
    exact Ev.pos c (Ev.bind ev2 (Ev.now _))
  · obtain ⟨v3, a3, s3, e3, _, b5, b6⟩ := among_ok l hb a2 s2 [0, 20, 50, -30, 200] (by omega) (by omega) (by simp) (by simp)
    obtain ⟨r, a4, s4, q1, q2, q3, q4⟩ := drawTwo_l0 l hb x hx v3 x.length 0 [] a3 s3 (by omega) (by simp) (by omega) (by omega)
    refine ⟨x, r, a4, s4, hx, q1, q2, by omega, Ev.bind ev ?_⟩
    simp only [e2, Option.bind_some]
    refine Ev.neg c ?_
    simp only [e3, Option.bind_some]
    exact q4
/-- The cost is the same with both exchanged. -/
theorem IsC_sym {b o : Nat → Int} {miss : Int} {N M : Nat} {C D : Nat → Nat → Int} (hC : IsC b o miss N M C) (hD : IsC o b miss M N D) : ∀ s i k, i ≤ N → k ≤ M → (N - i) + (M - k) ≤ s → C i k = D k i := by
  have eM : ∀ j i, i ≤ N → N - i = j → C i M = miss * (j : Int) := by
    intro j
    induction j with
    | zero =>
      intro i hi hj
      obtain rfl : i = N := by omega
      rw [hC.last M (Nat.le_refl _), Int.sub_self]; rfl
    | succ j ih =>
      intro i hi hj
      rw [hC.edge i (by omega), ih (i + 1) (by omega) (by omega), show ((j + 1 : Nat) : Int) = (j : Int) + 1 from rfl, Int.mul_add, Int.mul_one]
  have eN : ∀ j k, k ≤ M → M - k = j → D k N = miss * (j : Int) := by
    intro j
    induction j with
    | zero =>
      intro k hk hj
      obtain rfl : k = M := by omega
      rw [hD.last N (Nat.le_refl _), Int.sub_self]; rfl
    | succ j ih =>
      intro k hk hj
      rw [hD.edge k (by omega), ih (k + 1) (by omega) (by omega), show ((j + 1 : Nat) : Int) = (j : Int) + 1 from rfl, Int.mul_add, Int.mul_one]
  intro s
  induction s with
  | zero =>
    intro i k hi hk hs
    obtain rfl : i = N := by omega
    obtain rfl : k = M := by omega
    rw [hC.last k (Nat.le_refl _), hD.last i (Nat.le_refl _), Int.sub_self, Int.sub_self]
  | succ s ih =>
    intro i k hi hk hs
    by_cases h1 : i < N
    · by_cases h2 : k < M
      · rw [hC.step i k h1 h2, hD.step k i h2 h1, ih (i + 1) k (by omega) hk (by omega), ih i (k + 1) hi (by omega) (by omega)]
        rw [ih (i + 1) (k + 1) (by omega) (by omega) (by omega), show (o k - b i).natAbs = (b i - o k).natAbs by omega]
        omega
      · obtain rfl : k = M := by omega
        rw [eM (N - i) i hi rfl, hD.last i hi, show ((N - i : Nat) : Int) = (N : Int) - i by omega]
    · obtain rfl : i = N := by omega
      rw [hC.last k hk, eN (M - k) k hk rfl, show ((M - k : Nat) : Int) = (M : Int) - k by omega]
theorem alC_sym (l0 l1 : List Int) (miss : Int) (h0 : 0 ≤ miss) (h1 : miss ≤ 1000000000) (hN : l0.length ≤ 1000) (hM : l1.length ≤ 1000) : alC l0 l1 miss 0 0 = alC l1 l0 miss 0 0 :=
  IsC_sym (isC (l0.getD · 0) (l1.getD · 0) miss l0.length l1.length h0 h1 hN hM) (isC (l1.getD · 0) (l0.getD · 0) miss l1.length l0.length h0 h1 hM hN) _ 0 0 (Nat.zero_le _) (Nat.zero_le _) (Nat.le_refl _)
theorem alAns_sym (l0 l1 : List Int) (miss : Int) : (alAns l0 l1 miss).2 = (alAns l1 l0 miss).2 := by
  by_cases h : onsetsB l0 = true ∧ onsetsB l1 = true
  · have e1 : alAns l0 l1 miss = if 0 ≤ miss ∧ miss ≤ 1000000 then (alR l0 l1 miss, alC l0 l1 miss 0 0, 0) else ([], 0, 2) := if_pos h
    have e2 : alAns l1 l0 miss = if 0 ≤ miss ∧ miss ≤ 1000000 then (alR l1 l0 miss, alC l1 l0 miss 0 0, 0) else ([], 0, 2) := if_pos ⟨h.2, h.1⟩
    rw [e1, e2]
    by_cases hm : 0 ≤ miss ∧ miss ≤ 1000000
    · rw [if_pos hm, if_pos hm]
      show (alC l0 l1 miss 0 0, (0 : Int)) = (alC l1 l0 miss 0 0, 0)
      rw [alC_sym l0 l1 miss hm.1 (by omega) (ons_al h.1).1 (ons_al h.2).1]
    · rw [if_neg hm, if_neg hm]
  · have e1 : alAns l0 l1 miss = ([], 0, 1) := if_neg h
    have e2 : alAns l1 l0 miss = ([], 0, 1) := if_neg (fun q => h ⟨q.2, q.1⟩)
    rw [e1, e2]
def sumAbs : List Int → Int
  | [] => 0
  | x :: xs => (x.natAbs : Int) + sumAbs xs
theorem al_none (o : Nat → Int) (b miss : Int) (nx : Nat → Int) (M k : Nat) : ∀ j, (al_in o b miss nx M k j).2 = -1 → (al_in o b miss nx M k j).1 = miss + nx k := by
  intro j
  induction j with
  | zero => intro _; rfl
  | succ j ih =>
    rw [al_in_succ]
    split
    · intro h; have h' : ((M - 1 - j : Nat) : Int) = -1 := h; omega
    · exact ih
/-- The cost along the matches, from beat i on. -/
theorem al_path (l0 l1 : List Int) (miss : Int) (h0 : 0 ≤ miss) : ∀ d i, i + d = l0.length → alC l0 l1 miss i (alX l0 l1 miss i).toNat = miss * ((d : Int) + ((l1.length : Int) - alX l0 l1 miss i) - 2 * ((offsL l1 (l0.drop i) ((alR l0 l1 miss).drop i)).length : Int)) + sumAbs (offsL l1 (l0.drop i) ((alR l0 l1 miss).drop i)) ∧ mOk l1.length (alX l0 l1 miss i - 1) ((alR l0 l1 miss).drop i) = true ∧ ((offsL l1 (l0.drop i) ((alR l0 l1 miss).drop i)).length : Int) ≤ (l1.length : Int) - alX l0 l1 miss i := by
  have rlen := alR_len l0 l1 miss
  intro d
  induction d with
  | zero =>
    intro i hi
    have hb : 0 ≤ alX l0 l1 miss i ∧ alX l0 l1 miss i ≤ l1.length := al_nx_bP (l0.getD · 0) (l1.getD · 0) miss l0.length l1.length h0 i (by omega)
    rw [List.drop_eq_nil_of_le (show l0.length ≤ i by omega), List.drop_eq_nil_of_le (show (alR l0 l1 miss).length ≤ i by omega)]
    refine ⟨?_, rfl, by simp only [offsL, List.length_nil]; omega⟩
    obtain rfl : i = l0.length := by omega
    show al_row _ _ _ _ _ (l0.length - l0.length) _ = _
    rw [Nat.sub_self, al_row_zero]
    simp only [offsL, sumAbs, List.length_nil]
    rw [show (((alX l0 l1 miss l0.length).toNat : Nat) : Int) = alX l0 l1 miss l0.length by omega, Int.add_zero]
    congr 1
    omega
  | succ d ih =>
    intro i hi
    obtain ⟨ih1, ih2, ih3⟩ := ih (i + 1) (by omega)
    have hb : 0 ≤ alX l0 l1 miss i ∧ alX l0 l1 miss i ≤ l1.length := al_nx_bP (l0.getD · 0) (l1.getD · 0) miss l0.length l1.length h0 i (by omega)
    have hc := al_ch_bP (l0.getD · 0) (l1.getD · 0) miss l0.length l1.length h0 (l0.length - i) (alX l0 l1 miss i).toNat (by omega) (by omega)
    have hp := al_ch_p (l0.getD · 0) (l1.getD · 0) miss l0.length l1.length i (alX l0 l1 miss i).toNat (by omega) (by omega)
    have hx : alX l0 l1 miss (i + 1) = if 0 ≤ al_ch (l0.getD · 0) (l1.getD · 0) miss l0.length l1.length (l0.length - i) (alX l0 l1 miss i).toNat then al_ch (l0.getD · 0) (l1.getD · 0) miss l0.length l1.length (l0.length - i) (alX l0 l1 miss i).toNat + 1 else alX l0 l1 miss i := rfl
    have hr : (alR l0 l1 miss).getD i 0 = al_ch (l0.getD · 0) (l1.getD · 0) miss l0.length l1.length (l0.length - i) (alX l0 l1 miss i).toNat := by
      unfold alR al_m
      rw [List.getD_eq_getElem?_getD, List.getElem?_map, List.getElem?_range (by omega)]
      rfl
    have hbest : alC l0 l1 miss i (alX l0 l1 miss i).toNat = (al_in (l1.getD · 0) (l0.getD i 0) miss (fun q => alC l0 l1 miss (i + 1) q) l1.length (alX l0 l1 miss i).toNat (l1.length - (alX l0 l1 miss i).toNat)).1 := by
      show al_row _ _ _ _ _ (l0.length - i) _ = _
      rw [show l0.length - i = (l0.length - (i + 1)) + 1 by omega, al_row_succ, show l0.length - 1 - (l0.length - (i + 1)) = i by omega]
      rfl
    have hchoice : al_ch (l0.getD · 0) (l1.getD · 0) miss l0.length l1.length (l0.length - i) (alX l0 l1 miss i).toNat = (al_in (l1.getD · 0) (l0.getD i 0) miss (fun q => alC l0 l1 miss (i + 1) q) l1.length (alX l0 l1 miss i).toNat (l1.length - (alX l0 l1 miss i).toNat)).2 := by
      rw [show l0.length - i = (l0.length - (i + 1)) + 1 by omega]
      show (al_in _ ((fun j => l0.getD j 0) (l0.length - 1 - (l0.length - (i + 1)))) _ _ _ _ _).2 = _
      rw [show l0.length - 1 - (l0.length - (i + 1)) = i by omega]
      rfl
    rw [drop_cons' l0 i (by omega), drop_cons' (alR l0 l1 miss) i (by omega), hr]
    obtain ⟨k, hk⟩ := Int.eq_ofNat_of_zero_le hb.1
    rw [hk, Int.toNat_natCast] at hp hx hbest hchoice hc ⊢
    rw [hk] at hb
    rcases hp with ⟨e, a⟩ | ⟨m, a1, a2, a3, a4, a5⟩
    · rw [e] at hx ⊢
      rw [if_neg (by omega)] at hx
      rw [hx] at ih1 ih2 ih3
      rw [Int.toNat_natCast] at ih1
      simp only [offsL, mOk]
      rw [if_neg (by omega), if_pos trivial]
      refine ⟨?_, ih2, ih3⟩
      have hn := al_none (l1.getD · 0) (l0.getD i 0) miss (fun q => alC l0 l1 miss (i + 1) q) l1.length k (l1.length - k) (by rw [← hchoice]; exact e)
      rw [hbest, hn]
      show miss + alC l0 l1 miss (i + 1) k = _
      rw [ih1, show ((d + 1 : Nat) : Int) + ((l1.length : Int) - k) - 2 * ((offsL l1 (l0.drop (i + 1)) ((alR l0 l1 miss).drop (i + 1))).length : Int) = ((d : Int) + ((l1.length : Int) - k) - 2 * ((offsL l1 (l0.drop (i + 1)) ((alR l0 l1 miss).drop (i + 1))).length : Int)) + 1 by omega, Int.mul_add, Int.mul_one]
      omega
    · rw [a3] at hx ⊢
      rw [if_pos (by omega)] at hx
      rw [hx] at ih1 ih2 ih3
      rw [show ((m : Int) + 1).toNat = m + 1 by omega] at ih1
      rw [show (m : Int) + 1 - 1 = m by omega] at ih2
      simp only [offsL, mOk]
      rw [if_pos (by omega), if_neg (by omega)]
      refine ⟨?_, by rw [ih2, Bool.and_true, decide_eq_true_iff]; omega, by rw [List.length_cons]; omega⟩
      have e4 : alC l0 l1 miss i k = alN (l1.getD · 0) (l0.getD i 0) miss (fun q => alC l0 l1 miss (i + 1) q) k m := a4.symm
      rw [e4]
      unfold alN
      dsimp only
      rw [ih1]
      simp only [sumAbs, List.length_cons, rd_nat]
      generalize (offsL l1 (l0.drop (i + 1)) ((alR l0 l1 miss).drop (i + 1))).length = L
      generalize sumAbs (offsL l1 (l0.drop (i + 1)) ((alR l0 l1 miss).drop (i + 1))) = Z
      rw [show ((d + 1 : Nat) : Int) + ((l1.length : Int) - k) - 2 * ((L + 1 : Nat) : Int) = ((m : Int) - k) + ((d : Int) + ((l1.length : Int) - (m + 1)) - 2 * (L : Int)) by omega, Int.mul_add]
      omega
theorem rd_mem (L : List Int) (i : Nat) (h : i < L.length) : rd L (i : Int) ∈ L := by
  rw [rd_nat, List.getD_eq_getElem?_getD, List.getElem?_eq_getElem h]
  exact List.getElem_mem h
theorem medR_mem (L : List Int) (h : 0 < L.length) : medR L ∈ L := by
  unfold medR
  have hp : (L.mergeSort fun x y => decide (x ≤ y)).Perm L := List.mergeSort_perm _ _
  exact hp.mem_iff.1 (rd_mem _ _ (by rw [hp.length_eq]; omega))
theorem has_ok (L : List Int) (hl : L.length ≤ 1000) (x : Int) (d : Nat) : ∀ i : Nat, i + d = L.length → x ∈ L.drop i → Ev (fun k => laws_b10Has.l0 k L x (i : Int)) true := by
  induction d with
  | zero =>
    intro i hi hx
    rw [List.drop_eq_nil_of_le (by omega)] at hx
    exact absurd hx (by simp)
  | succ d ih =>
    intro i hi hx
    have w1 : wrap64 ((i : Int) + 1) = ((i + 1 : Nat) : Int) := by rw [wid (by omega)]; rfl
    refine Ev.shift ?_
    simp only [laws_b10Has.l0, w1, rd_nat]
    refine Ev.pos (by omega) (Ev.pos (by omega) ?_)
    rw [drop_cons' L i (by omega)] at hx
    by_cases e : L.getD i 0 = x
    · exact Ev.pos e (Ev.now _)
    · refine Ev.neg e (ih (i + 1) (by omega) ?_)
      rcases List.mem_cons.1 hx with h | h
      · exact absurd h.symm e
      · exact h
theorem abs10 (a : Int) (h : -9000000000000000000 ≤ a ∧ a ≤ 9000000000000000000) : laws_b10Abs.f a = some (a.natAbs : Int) := by
  unfold laws_b10Abs.f
  split
  · rw [wid (by omega)]; congr 1; omega
  · congr 1; omega
theorem sumAbs_nonneg (L : List Int) : 0 ≤ sumAbs L := by
  induction L with
  | nil => exact Int.le_refl _
  | cons x xs ih => simp only [sumAbs]; omega
theorem lawSum (x1 x5 x6 x8 L : List Int) (miss cost : Int) (hL : L.length ≤ 1000) (hc : cost ≤ 9000000000000) (hj : Ev (fun k => laws_FnAlignment.j4 k x1 x5 x6 x8 L (decide (cost > (wrap64 (miss * (wrap64 ((x5.length : Int) + (x6.length : Int)))))))) true) (d : Nat) : ∀ (i : Nat) (acc : Int), i + d = L.length → 0 ≤ acc → acc + sumAbs (L.drop i) = cost → Ev (fun k => laws_FnAlignment.l0 k x1 x5 x6 miss x8 cost L acc (i : Int)) true := by
  induction d with
  | zero =>
    intro i acc hi h0 hs
    rw [List.drop_eq_nil_of_le (by omega)] at hs
    simp only [sumAbs] at hs
    refine Ev.shift ?_
    simp only [laws_FnAlignment.l0]
    exact Ev.neg (by omega) (Ev.pos (by omega) hj)
  | succ d ih =>
    intro i acc hi h0 hs
    have w1 : wrap64 ((i : Int) + 1) = ((i + 1 : Nat) : Int) := by rw [wid (by omega)]; rfl
    rw [drop_cons' L i (by omega)] at hs
    simp only [sumAbs] at hs
    have hn := sumAbs_nonneg (L.drop (i + 1))
    have ha := abs10 (L.getD i 0) (by omega)
    have w2 : wrap64 (acc + (((L.getD i 0).natAbs : Nat) : Int)) = acc + (((L.getD i 0).natAbs : Nat) : Int) := wid (by omega)
    refine Ev.shift ?_
    simp only [laws_FnAlignment.l0, w1, rd_nat, ha, w2, Option.bind_some]
    clear w1 w2
    exact Ev.pos (by omega) (Ev.pos (by omega) (ih (i + 1) _ (by omega) (by omega) (by omega)))
theorem shL_zero (l : List Int) (h : onsetsB l = true) : shL 0 l = l := by
  apply List.ext_getElem?
  intro j
  unfold shL
  rw [List.getElem?_map]
  by_cases hj : j < l.length
  · have := onsetsB_get h j hj
    rw [List.getD_eq_getElem?_getD] at this
    rw [List.getElem?_eq_getElem hj] at this ⊢
    simp only [Option.getD_some] at this
    simp only [Option.map_some, Int.add_zero]
    rw [wid (by omega)]
  · rw [List.getElem?_eq_none (by omega)]; rfl
def bsP (l0 l1 : List Int) (miss : Int) (s : Int × Int) : Prop := s.2 ≤ alC l0 l1 miss 0 0 ∧ onsetsB (shL s.1 l1) = true ∧ s.2 = alC l0 (shL s.1 l1) miss 0 0 ∧ -10000000 ≤ s.1 ∧ s.1 ≤ 10000000
theorem bsS_P (l0 l1 : List Int) (miss y : Int) (s : Int × Int) (h' : onsetsB l1 = true) (hy : -2000000000000 ≤ y ∧ y ≤ 2000000000000) (h : bsP l0 l1 miss s) : bsP l0 l1 miss (bsS l0 l1 miss y s) := by
  unfold bsS
  split
  · rename_i hv
    split
    · rename_i hlt
      refine ⟨Int.le_trans (Int.le_of_lt hlt) h.1, hv, rfl, ?_⟩
      cases hl : l1 with
      | nil =>
        have e := h.2.2.1
        rw [hl] at hlt e
        have e2 : shL y [] = [] := rfl
        have e3 : shL s.1 [] = [] := rfl
        rw [e2] at hlt
        rw [e3] at e
        omega
      | cons x xs =>
        have g := onsetsB_get hv 0 (by rw [shL_len, hl]; simp)
        have g1 := onsetsB_get h' 0 (by rw [hl]; simp)
        rw [shL_get y l1 0 (by rw [hl]; simp), wid (by omega)] at g
        omega
    · exact h
  · exact h
theorem bsN_P (l0 l1 : List Int) (miss step : Int) (h' : onsetsB l1 = true) (h1 : 1 ≤ step) (h2 : step ≤ 10000000) (d : Nat) : ∀ (n : Int) (s : Int × Int), 1 ≤ n → n + d ≤ 30 → bsP l0 l1 miss s → bsP l0 l1 miss (bsN l0 l1 miss step d n s) := by
  induction d with
  | zero => intro n s _ _ h; exact h
  | succ d ih =>
    intro n s hn hd h
    have hb : 0 ≤ n * step ∧ n * step ≤ 2000000000000 := by rw [Int.mul_comm]; exact al_mulP (by omega) (by omega) (by omega) (by omega)
    have hneg : -n * step = -(n * step) := Int.neg_mul n step
    exact ih (n + 1) _ (by omega) (by omega) (bsS_P l0 l1 miss _ _ h' (by omega) (bsS_P l0 l1 miss _ _ h' (by omega) h))
theorem law_j5 (x1 : List Int) (hb : bytesB x1) : Ev (fun k => laws_FnAlignment.j5 k x1) true := by
  obtain ⟨a, b, a1, s1, ha, hb2, b1, b2, ev1⟩ := drawTwo x1 hb 0 0 (by omega) (by omega)
  obtain ⟨lost, a2, s2, e2, _, b3, b4⟩ := among_ok x1 hb a1 s1 [100, 50, 300, 0, 1000000, 1000001, -1, 200] (by omega) (by omega) (by simp) (by simp)
  obtain ⟨most, a3, s3, e3, _, b5, b6⟩ := among_ok x1 hb a2 s2 [0, 1, 3, 8, 20, 21, -1] (by omega) (by omega) (by simp) (by simp)
  obtain ⟨step, a4, s4, e4, _, b7, b8⟩ := among_ok x1 hb a3 s3 [5, 10, 50, 10000000, 10000001, 0] (by omega) (by omega) (by simp) (by simp)
  have hd : Ev (fun k => spec_DrawBestShift.f k x1) (a, b, lost, most, step) := by
    unfold spec_DrawBestShift.f spec_l00From.f spec_l24DrawMiss.f
    simp only [Option.bind_some]
    refine Ev.bind ev1 ?_
    simp only [e2, e3, e4, Option.bind_some]
    exact Ev.now _
  refine Ev.shift ?_
  simp only [laws_FnAlignment.j5]
  refine Ev.bind hd (Ev.bind (iBestShift a b lost most step (by omega) (by omega)) ?_)
  unfold bsAns
  by_cases h : onsetsB a = true ∧ onsetsB b = true
  · rw [if_pos h]
    by_cases r : (0 ≤ lost ∧ lost ≤ 1000000) ∧ (0 ≤ most ∧ most ≤ 20) ∧ 1 ≤ step ∧ step ≤ 10000000
    · rw [if_pos r]
      have hP : bsP a b lost (bsN a b lost step most.toNat 1 (0, alC a b lost 0 0)) := by
        refine bsN_P a b lost step h.2 r.2.2.1 r.2.2.2 most.toNat 1 _ (by omega) (by omega) ⟨Int.le_refl _, ?_, ?_, (by decide : (-10000000 : Int) ≤ 0), (by decide : (0 : Int) ≤ 10000000)⟩
        · show onsetsB (shL 0 b) = true
          rw [shL_zero b h.2]; exact h.2
        · show alC a b lost 0 0 = alC a (shL 0 b) lost 0 0
          rw [shL_zero b h.2]
      generalize bsN a b lost step most.toNat 1 (0, alC a b lost 0 0) = s at hP
      obtain ⟨y, c⟩ := s
      obtain ⟨p1, p2, p3, p4, p5⟩ := hP
      dsimp only at p1 p2 p3 p4 p5 ⊢
      have h48 := onsetsB_len h.2
      have hA : alAns a b lost = (alR a b lost, alC a b lost 0 0, 0) := by unfold alAns; rw [if_pos h, if_pos r.1]
      have hA2 : alAns a (shL y b) lost = (alR a (shL y b) lost, alC a (shL y b) lost 0 0, 0) := by unfold alAns; rw [if_pos ⟨h.1, p2⟩, if_pos r.1]
      have hS : Ev (fun k => impl_ShiftOnsets.f k b y) (shL y b, 0) := by
        unfold impl_ShiftOnsets.f
        refine Ev.bind (iOnsets b (by omega)) (Ev.pos h.2 ?_)
        rw [within_eq]
        simp only [Option.bind_some]
        refine Ev.pos (decide_eq_true ⟨p4, p5⟩) (Ev.bind (iShift y b (by omega)) (Ev.bind (iOnsets _ (by rw [shL_len]; omega)) (Ev.pos p2 (Ev.now _))))
      have i1 := iAlignOnsets a b lost (by omega) (by omega)
      have i2 := iAlignOnsets a (shL y b) lost (by omega) (by rw [shL_len]; omega)
      rw [hA] at i1
      rw [hA2] at i2
      refine Ev.pos rfl (Ev.bind i1 (Ev.bind hS (Ev.bind i2 (Ev.pos rfl (Ev.pos p1 (Ev.pos rfl (Ev.pos rfl (Ev.some ?_))))))))
      dsimp only
      rw [← p3, beq_self_eq_true]
    · rw [if_neg r]
      exact Ev.neg (by decide) (Ev.pos rfl (Ev.now _))
  · rw [if_neg h]
    exact Ev.neg (by decide) (Ev.pos rfl (Ev.now _))
theorem law_j4 (x1 x5 x6 x8 L : List Int) (hb : bytesB x1) (g0 : x5.length ≤ 2000) (g1 : x6.length ≤ 2000) (g2 : x8.length ≤ 2000) (hL : L.length ≤ 48) (ho : offsR x5 x6 x8 = (L, 0)) : Ev (fun k => laws_FnAlignment.j4 k x1 x5 x6 x8 L false) true := by
  have hI0 := iOffs x5 x6 x8 (by omega) (by omega) (by omega)
  rw [ho] at hI0
  refine Ev.shift ?_
  simp only [laws_FnAlignment.j4]
  refine Ev.neg (by decide) ?_
  by_cases z : L.length = 0
  · have hm : Ev (fun k => impl_MedianOffset.f k x5 x6 x8) (0, 3) := by
      unfold impl_MedianOffset.f
      exact Ev.bind hI0 (Ev.pos rfl (Ev.pos (by simp only; omega) (Ev.now _)))
    refine Ev.bind hm (Ev.neg ?_ (Ev.neg (by decide) (law_j5 x1 hb)))
    rw [decide_eq_false (show ¬ ((L.length : Int) > 0) by omega)]
    decide
  · have hm : Ev (fun k => impl_MedianOffset.f k x5 x6 x8) (medR L, 0) := by
      unfold impl_MedianOffset.f
      refine Ev.bind hI0 (Ev.pos rfl (Ev.neg (by simp only; omega) ?_))
      unfold slices_Sort_int64_int64.f
      simp only
      rw [if_pos (by omega)]
      simp only [Option.bind_some]
      rw [med_ix _ (by omega) (by omega)]
      exact Ev.pos (by omega) (Ev.pos (by omega) (Ev.now _))
    refine Ev.bind hm (Ev.neg ?_ (Ev.pos rfl (Ev.bind ?_ (Ev.pos rfl (law_j5 x1 hb)))))
    · rw [decide_eq_true (show (L.length : Int) > 0 by omega)]
      show ¬ (((0 : Int) == 0) != true) = true
      decide
    · unfold laws_b10Has.f
      exact has_ok L (by omega) _ L.length 0 (by omega) (by rw [List.drop_zero]; exact medR_mem L (by omega))
theorem FnAlignment : laws_FnAlignment.Pure := by
  intro x0 x1 _ _ hw0 _ _ hw1
  have hb : ∀ l : List Int, (∀ x ∈ l, (Lit.int .u8 x).wf = true) → bytesB l := fun l hl j hj => by
    have h := hl _ (List.getElem_mem hj)
    rw [List.getD_eq_getElem?_getD, List.getElem?_eq_getElem hj, Option.getD_some]
    simp [Lit.wf, IntKind.min, IntKind.max, IntKind.signed, IntKind.bits] at h
    omega
  have h0 := hb x0 hw0
  have h1 := hb x1 hw1
  refine Ev.rounds (g := fun k => laws_FnAlignment.f k x0 x1) ?_
  unfold laws_FnAlignment.f laws_b10Long.f
  simp only [Option.bind_some]
  have jt : Ev (fun k => laws_FnAlignment.j0 k x0 x1 true) true := by
    refine Ev.shift ?_
    simp only [laws_FnAlignment.j0]
    exact Ev.pos trivial (Ev.now _)
  have jf : Ev (fun k => laws_FnAlignment.j0 k x0 x1 false) true := by
    obtain ⟨a, b, a1, s1, ha, hb2, b1, b2, ev1⟩ := drawTwo x0 h0 0 0 (by omega) (by omega)
    obtain ⟨miss, a2, s2, e2, _, b3, b4⟩ := among_ok x0 h0 a1 s1 [100, 50, 300, 0, 1000000, 1000001, -1, 200] (by omega) (by omega) (by simp) (by simp)
    have hd : Ev (fun k => spec_DrawAlignOnsets.f k x0) (a, b, miss) := by
      unfold spec_DrawAlignOnsets.f spec_l00From.f spec_l24DrawMiss.f
      simp only [Option.bind_some]
      refine Ev.bind ev1 ?_
      simp only [e2, Option.bind_some]
      exact Ev.now _
    have hsym := alAns_sym a b miss
    have i1 := iAlignOnsets a b miss (by omega) (by omega)
    have i2 := iAlignOnsets b a miss (by omega) (by omega)
    refine Ev.shift ?_
    simp only [laws_FnAlignment.j0]
    refine Ev.neg (by decide) (Ev.bind hd (Ev.bind i1 (Ev.bind i2 (Ev.pos (by rw [hsym]) ?_))))
    rw [show ((alAns a b miss).2.1 != (alAns b a miss).2.1) = false by rw [hsym]; exact bne_self_eq_false _]
    refine Ev.shift ?_
    simp only [laws_FnAlignment.j1]
    refine Ev.neg (by decide) ?_
    unfold alAns
    by_cases h : onsetsB a = true ∧ onsetsB b = true
    · rw [if_pos h]
      by_cases r : 0 ≤ miss ∧ miss ≤ 1000000
      · rw [if_pos r]
        have ga := onsetsB_len h.1
        have gb := onsetsB_len h.2
        have rl := alR_len a b miss
        obtain ⟨p1, p2, p3⟩ := al_path a b miss r.1 a.length 0 (by omega)
        rw [List.drop_zero, List.drop_zero] at p1 p3
        rw [List.drop_zero] at p2
        have hx : alX a b miss 0 = 0 := rfl
        rw [hx] at p1 p2 p3
        have hlen := offsL_length b a (alR a b miss)
        have ho : offsR a b (alR a b miss) = (offsL b a (alR a b miss), 0) := by
          unfold offsR
          rw [if_pos h, if_pos ⟨p2, rl⟩]
        have hO := iOffs a b (alR a b miss) (by omega) (by omega) (by omega)
        rw [ho] at hO
        have hmax := al_row_bP (a.getD · 0) (b.getD · 0) miss a.length b.length r.1 a.length 0 (by omega)
        have hcost : alC a b miss 0 0 = al_row (a.getD · 0) (b.getD · 0) miss a.length b.length a.length 0 := rfl
        rw [← hcost] at hmax
        have hmx := al_mulP r.1 (by omega) (show (0 : Int) ≤ (a.length : Int) + b.length by omega) (by omega)
        have hdist : miss * ((a.length : Int) + b.length) = miss * b.length + miss * a.length := by rw [Int.mul_add]; omega
        generalize offsL b a (alR a b miss) = L at p1 p3 hlen ho hO
        have hm2 := al_mulP r.1 (by omega) (show (0 : Int) ≤ (a.length : Int) + b.length - 2 * (L.length : Int) by omega) (by omega)
        have p1' : alC a b miss 0 0 = miss * ((a.length : Int) + b.length - 2 * (L.length : Int)) + sumAbs L := by
          have e : ((0 : Int)).toNat = 0 := rfl
          rw [e] at p1
          rw [p1, Int.sub_zero]
        have hj := law_j4 x1 a b (alR a b miss) L h1 (by omega) (by omega) (by omega) (by omega) ho
        have hgt : decide (alC a b miss 0 0 > wrap64 (miss * (wrap64 ((a.length : Int) + (b.length : Int))))) = false := by
          rw [wid (x := (a.length : Int) + (b.length : Int)) (by omega), wid (x := miss * ((a.length : Int) + (b.length : Int))) (by omega)]
          exact decide_eq_false (by omega)
        have hs := lawSum x1 a b (alR a b miss) L miss (alC a b miss 0 0) (by omega) (by omega) (by rw [hgt]; exact hj) L.length 0 (miss * ((a.length : Int) + b.length - 2 * (L.length : Int))) (by omega) hm2.1 (by rw [List.drop_zero]; exact p1'.symm)
        refine Ev.pos rfl (Ev.bind hO (Ev.pos (by dsimp only; omega) ?_))
        refine Ev.shift ?_
        simp only [laws_FnAlignment.j2]
        rw [wid (x := (a.length : Int) + (b.length : Int)) (by omega), wid (x := 2 * (L.length : Int)) (by omega), wid (x := (a.length : Int) + (b.length : Int) - 2 * (L.length : Int)) (by omega), wid (x := miss * ((a.length : Int) + (b.length : Int) - 2 * (L.length : Int))) (by omega)]
        exact Ev.neg (by decide) hs
      · rw [if_neg r]
        exact Ev.neg (by decide) (law_j5 x1 h1)
    · rw [if_neg h]
      exact Ev.neg (by decide) (law_j5 x1 h1)
  by_cases c : (x0.length : Int) > 1048576
  · exact Ev.pos (decide_eq_true c) jt
  · refine Ev.neg (by simp [c]) ?_
    by_cases c2 : (x1.length : Int) > 1048576
    · rw [decide_eq_true c2]; exact jt
    · rw [decide_eq_false c2]; exact jf

end Go.Proofs.Ytoohfhgmflgmcaa.Pure
