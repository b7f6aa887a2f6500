/- The pure statement of the law FnExactNumberedGrouping: what the Go functions compute, told by plain Lean functions, is what the law asks, for all arguments. No condition beyond the printed ones. -/
import Derived.Test.YtmkjjjpffakfiaaPFnExactNumberedGroupingx5
import Derived.Test.YtmkjjjpffakfiaaXW
namespace Go.Proofs.Ytmkjjjpffakfiaa.Pure
open Go.RowKit Go.Proofs.Ytmkjjjpffakfiaa.PFnExactNumberedGrouping Go.Proofs.YtmkjjjpffakfiaaW.PrintWords Go.Proofs.YtmkjjjpffakfiaaW.PrintLast Go.Proofs.YtmkjjjpffakfiaaW.PrintMore Go.Proofs.YtmkjjjpffakfiaaXW
set_option linter.unusedVariables false
set_option linter.unusedSimpArgs false
theorem toI_l0 (l : List Int) (hl : l.length ≤ 35184372088832) (d : Nat) : ∀ (i : Nat) (acc : List Int), i + d = l.length → acc.length = l.length → acc.take i = l.take i → Ev (fun k => laws_toInt64S.l0 k l acc i) l := by
  induction d with
  | zero =>
    intro i acc h1 h2 h3
    refine Ev.shift ?_
    simp only [laws_toInt64S.l0]
    refine Ev.neg (by omega) ?_
    refine Ev.some ?_
    rw [List.take_of_length_le (by omega), List.take_of_length_le (by omega)] at h3
    rw [h3]
  | succ d ih =>
    intro i acc h1 h2 h3
    refine Ev.shift ?_
    simp only [laws_toInt64S.l0]
    refine Ev.pos (by omega) (Ev.pos (by omega) (Ev.pos (by omega) ?_))
    rw [wid (by omega), rd_get l i (by omega), Int.toNat_natCast]
    refine ih (i + 1) (acc.set i l[i]) (by omega) (by rw [List.length_set, h2]) ?_
    rw [List.take_succ_eq_append_getElem (by rw [List.length_set]; omega), List.take_succ_eq_append_getElem (by omega), List.take_set_of_le (by omega), List.getElem_set_self, h3]
theorem toI (l : List Int) (hl : l.length ≤ 35184372088832) : Ev (fun k => laws_toInt64S.f k l) l := by
  unfold laws_toInt64S.f
  refine Ev.pos (by omega) (Ev.pos (by omega) ?_)
  rw [Int.toNat_natCast]
  exact toI_l0 l hl l.length 0 _ (by omega) (by simp) (by simp)
theorem eqI_l0 (l : List Int) (hl : l.length ≤ 35184372088832) (d : Nat) : ∀ (i : Nat), i + d = l.length → Ev (fun k => laws_eqInt64S.l0 k l l i) true := by
  induction d with
  | zero =>
    intro i h1
    refine Ev.shift ?_
    simp only [laws_eqInt64S.l0]
    exact Ev.neg (by omega) (Ev.now _)
  | succ d ih =>
    intro i h1
    refine Ev.shift ?_
    simp only [laws_eqInt64S.l0]
    refine Ev.pos (by omega) (Ev.pos (by omega) (Ev.pos (by omega) (Ev.pos (by trivial) ?_)))
    rw [wid (by omega)]
    exact ih (i + 1) (by omega)
theorem eqI (l : List Int) (hl : l.length ≤ 35184372088832) : Ev (fun k => laws_eqInt64S.f k l l) true := by
  unfold laws_eqInt64S.f
  exact Ev.pos rfl (eqI_l0 l hl l.length 0 (by omega))
/-- what marks leave: from m on, one by one -/
def marks (m : Int) : Nat → List Int
  | 0 => []
  | n + 1 => m :: marks (m + 1) n
theorem marks_length (n : Nat) : ∀ m, (marks m n).length = n := by
  induction n with
  | zero => intro m; rfl
  | succ n ih => intro m; simp [marks, ih]
theorem marks_get (n : Nat) : ∀ (m : Int) (i : Nat) (h : i < (marks m n).length), (marks m n)[i] = m + i := by
  induction n with
  | zero => intro m i h; simp [marks] at h
  | succ n ih =>
    intro m i h
    cases i with
    | zero => simp [marks]
    | succ i => simp only [marks, List.getElem_cons_succ]; rw [ih]; omega
theorem marks_snoc (n : Nat) : ∀ m, marks m (n + 1) = marks m n ++ [m + n] := by
  induction n with
  | zero => intro m; simp [marks]
  | succ n ih =>
    intro m
    rw [marks, ih, marks, List.cons_append]
    congr 3
    simp; omega
theorem markI_l0 (m0 : Int) (n : Nat) (h0 : 0 ≤ m0) (h1 : m0 + n ≤ 9000000000000000000) (d : Nat) : ∀ (i : Nat) (acc : List Int), i + d = n → acc.length = n → acc.take i = marks m0 i → Ev (fun k => laws_markInt64S.l0 k acc (m0 + i) i) (m0 + n, marks m0 n) := by
  induction d with
  | zero =>
    intro i acc h2 h3 h4
    refine Ev.shift ?_
    simp only [laws_markInt64S.l0]
    refine Ev.neg (by omega) (Ev.some ?_)
    rw [List.take_of_length_le (by omega)] at h4
    rw [h4, show i = n by omega]
  | succ d ih =>
    intro i acc h2 h3 h4
    refine Ev.shift ?_
    simp only [laws_markInt64S.l0]
    refine Ev.pos (by omega) (Ev.pos (by omega) ?_)
    rw [wid (x := m0 + i + 1) (by omega), wid (x := (i : Int) + 1) (by omega), Int.toNat_natCast, show m0 + (i : Int) + 1 = m0 + ((i + 1 : Nat) : Int) by omega]
    refine ih (i + 1) _ (by omega) (by rw [List.length_set, h3]) ?_
    rw [List.take_succ_eq_append_getElem (by rw [List.length_set]; omega), List.take_set_of_le (by omega), List.getElem_set_self, h4, marks_snoc]
theorem markI (l : List Int) (m : Int) (h0 : 0 ≤ m) (h1 : m + l.length ≤ 9000000000000000000) : Ev (fun k => laws_markInt64S.f k l m) (m + l.length, marks m l.length) := by
  unfold laws_markInt64S.f
  have := markI_l0 m l.length h0 h1 l.length 0 l (by omega) rfl (by simp [marks])
  simpa using this
theorem heldI_l0 (m0 : Int) (n : Nat) (h0 : 0 ≤ m0) (h1 : m0 + n ≤ 9000000000000000000) (d : Nat) : ∀ (i : Nat), i + d = n → Ev (fun k => laws_heldInt64S.l0 k (marks m0 n) (m0 + i) i) (m0 + n) := by
  induction d with
  | zero =>
    intro i h2
    refine Ev.shift ?_
    simp only [laws_heldInt64S.l0, marks_length]
    exact Ev.neg (by omega) (Ev.some (by rw [show i = n by omega]))
  | succ d ih =>
    intro i h2
    refine Ev.shift ?_
    simp only [laws_heldInt64S.l0, marks_length]
    refine Ev.pos (by omega) (Ev.pos (by omega) (Ev.pos (by rw [rd_get _ _ (by rw [marks_length]; omega), marks_get]) ?_))
    rw [wid (x := m0 + i + 1) (by omega), wid (x := (i : Int) + 1) (by omega), show m0 + (i : Int) + 1 = m0 + ((i + 1 : Nat) : Int) by omega]
    exact ih (i + 1) (by omega)
theorem heldI (n : Nat) (m : Int) (h0 : 0 ≤ m) (h1 : m + n ≤ 9000000000000000000) : Ev (fun k => laws_heldInt64S.f k (marks m n) m) (m + n) := by
  unfold laws_heldInt64S.f
  have := heldI_l0 m n h0 h1 n 0 (by omega)
  simpa using this
theorem in_eq (a b c : Int) : spec_l00In.f a b c = some (decide (b ≤ a ∧ a ≤ c)) := by
  unfold spec_l00In.f; split <;> simp_all; omega
theorem within_eq (a b c : Int) : impl_within.f a b c = some (decide (b ≤ a ∧ a ≤ c)) := by
  unfold impl_within.f; split <;> simp_all; omega
theorem allIn_eq (l : List Int) (a b : Int) : impl_allWithin.f l a b = some (l.all fun x => decide (a ≤ x ∧ x ≤ b)) := by
  unfold impl_allWithin.f
  rw [List.not_any_eq_all_not]
  congr 2
  funext x
  simp [allP]
def risQ (l : List Int) (lo hi : Int) (j : Nat) : Bool := decide (lo ≤ l.getD j 0 ∧ l.getD j 0 ≤ hi) && (decide (j = 0) || decide (l.getD (j - 1) 0 < l.getD j 0))
theorem rises_l0 (l : List Int) (lo hi : Int) (hl : l.length ≤ 35184372088832) (d : Nat) : ∀ (i : Nat), i + d = l.length → Ev (fun k => spec_l00Rises.l0 k l lo hi i) (allF (risQ l lo hi) l.length i) := by
  induction d with
  | zero =>
    intro i h1
    refine Ev.shift ?_
    simp only [spec_l00Rises.l0]
    exact Ev.neg (by omega) (Ev.some (by rw [allF_end _ (by omega)]))
  | succ d ih =>
    intro i h1
    refine Ev.shift ?_
    simp only [spec_l00Rises.l0, in_eq, Option.bind_some]
    refine Ev.pos (by omega) (Ev.pos (by omega) ?_)
    rw [rd_nat]
    by_cases hb : lo ≤ l.getD i 0 ∧ l.getD i 0 ≤ hi
    · refine Ev.pos (by simpa using hb) ?_
      cases i with
      | zero =>
        refine Ev.neg (by omega) ?_
        rw [wid (by omega), allF_yes _ (by simp only [risQ]; simp; exact hb)]
        exact ih 1 (by omega)
      | succ i =>
        refine Ev.pos (by omega) ?_
        have e1 : wrap64 (((i + 1 : Nat) : Int) - 1) = (i : Int) := by rw [wid (by omega)]; omega
        rw [e1, rd_nat]
        refine Ev.pos (by omega) (Ev.pos (by omega) ?_)
        by_cases hc : l.getD i 0 < l.getD (i + 1) 0
        · refine Ev.neg (by omega) ?_
          rw [wid (by omega), allF_yes _ (by simp only [risQ]; simp; exact ⟨hb, hc⟩)]
          exact ih (i + 2) (by omega)
        · refine Ev.pos (by omega) (Ev.some ?_)
          rw [allF_no _ (by omega) (by simp only [risQ, Nat.add_sub_cancel, decide_eq_false hc]; simp)]
    · refine Ev.neg (by simpa using hb) (Ev.some ?_)
      rw [allF_no _ (by omega) (by simp only [risQ]; rw [decide_eq_false hb]; rfl)]
theorem rises_ev (l : List Int) (lo hi : Int) (hl : l.length ≤ 35184372088832) : Ev (fun k => spec_l00Rises.f k l lo hi) (allF (risQ l lo hi) l.length 0) := by
  unfold spec_l00Rises.f
  exact rises_l0 l lo hi hl l.length 0 (by omega)
def incQ (l : List Int) (j : Nat) : Bool := decide (l.getD (j - 1) 0 < l.getD j 0)
theorem inc_l0 (l : List Int) (hl : l.length ≤ 35184372088832) (d : Nat) : ∀ (i : Nat), 1 ≤ i → l.length ≤ i + d → Ev (fun k => impl_increasing.l0 k l i) (allF (incQ l) l.length i) := by
  induction d with
  | zero =>
    intro i h0 h1
    refine Ev.shift ?_
    simp only [impl_increasing.l0]
    exact Ev.neg (by omega) (Ev.some (by rw [allF_end _ (by omega)]))
  | succ d ih =>
    intro i h0 h1
    by_cases hi : i < l.length
    · refine Ev.shift ?_
      simp only [impl_increasing.l0]
      have e1 : wrap64 ((i : Int) - 1) = ((i - 1 : Nat) : Int) := by rw [wid (by omega)]; omega
      rw [e1, rd_nat, rd_nat]
      refine Ev.pos (by omega) (Ev.pos (by omega) (Ev.pos (by omega) (Ev.pos (by omega) ?_)))
      by_cases hc : l.getD (i - 1) 0 < l.getD i 0
      · refine Ev.neg (by omega) ?_
        rw [wid (by omega), allF_yes _ (by simp only [incQ]; simpa using hc)]
        exact ih (i + 1) (by omega) (by omega)
      · refine Ev.pos (by omega) (Ev.some ?_)
        rw [allF_no _ (by omega) (by simp only [incQ]; simpa using hc)]
    · refine Ev.shift ?_
      simp only [impl_increasing.l0]
      exact Ev.neg (by omega) (Ev.some (by rw [allF_end _ (by omega)]))
theorem inc_ev (l : List Int) (hl : l.length ≤ 35184372088832) : Ev (fun k => impl_increasing.f k l) (allF (incQ l) l.length 1) := by
  unfold impl_increasing.f
  exact inc_l0 l hl l.length 1 (by omega) (by omega)
/-- The one test is the two others. -/
theorem rises_inc (l : List Int) (lo hi : Int) : (allF (incQ l) l.length 1 && l.all fun x => decide (lo ≤ x ∧ x ≤ hi)) = allF (risQ l lo hi) l.length 0 := by
  rw [Bool.eq_iff_iff, Bool.and_eq_true, allF_iff, allF_iff, all_iff_get]
  constructor
  · rintro ⟨h1, h2⟩ j hj _
    simp only [risQ, Bool.and_eq_true, Bool.or_eq_true]
    refine ⟨h2 j hj, ?_⟩
    by_cases e : j = 0
    · left; simpa using e
    · right; exact h1 j hj (by omega)
  · intro h
    refine ⟨fun j hj h1 => ?_, fun j hj => ?_⟩
    · have := h j hj (by omega)
      simp only [risQ, Bool.and_eq_true, Bool.or_eq_true] at this
      rcases this.2 with e | e
      · simp at e; omega
      · exact e
    · have := h j hj (by omega)
      simp only [risQ, Bool.and_eq_true] at this
      exact this.1
def partsB (l : List Int) : Bool := decide (1 ≤ l.length ∧ l.length ≤ 8) && allF (risQ l 1 24) l.length 0
theorem sParts (l : List Int) (hl : l.length ≤ 35184372088832) : Ev (fun k => spec_l21Parts.f k l) (partsB l) := by
  unfold spec_l21Parts.f partsB
  simp only [in_eq, Option.bind_some]
  by_cases h : 1 ≤ l.length ∧ l.length ≤ 8
  · refine Ev.pos (by simp; omega) (Ev.bind (rises_ev l _ _ hl) (Ev.some ?_))
    rw [decide_eq_true h, Bool.true_and]
  · refine Ev.neg (by simp; omega) (Ev.some ?_)
    rw [decide_eq_false h, Bool.false_and]
theorem partsB_len {l : List Int} (h : partsB l = true) : 1 ≤ l.length ∧ l.length ≤ 8 := by
  unfold partsB at h; simp only [Bool.and_eq_true] at h; exact of_decide_eq_true h.1
theorem partsB_get {l : List Int} (h : partsB l = true) (j : Nat) (hj : j < l.length) : 1 ≤ l.getD j 0 ∧ l.getD j 0 ≤ 24 := by
  unfold partsB at h; simp only [Bool.and_eq_true] at h
  have := (allF_iff _).1 h.2 j hj (Nat.zero_le _)
  simp only [risQ, Bool.and_eq_true] at this
  exact of_decide_eq_true this.1
theorem partsB_lt {l : List Int} (h : partsB l = true) (j : Nat) (hj : j + 1 < l.length) : l.getD j 0 < l.getD (j + 1) 0 := by
  unfold partsB at h; simp only [Bool.and_eq_true] at h
  have := (allF_iff _).1 h.2 (j + 1) hj (Nat.zero_le _)
  simp only [risQ, Bool.and_eq_true, Bool.or_eq_true, Nat.add_sub_cancel] at this
  rcases this.2 with e | e
  · exact absurd (of_decide_eq_true e) (by omega)
  · exact of_decide_eq_true e
theorem iParts (l : List Int) (hl : l.length ≤ 35184372088832) : Ev (fun k => impl_partsOk.f k l) (partsB l) := by
  unfold impl_partsOk.f partsB
  by_cases h1 : 1 ≤ l.length
  · by_cases h2 : l.length ≤ 8
    · refine Ev.pos (by omega) (Ev.pos (by omega) (Ev.bind (inc_ev l hl) ?_))
      rw [← rises_inc, decide_eq_true (show 1 ≤ l.length ∧ l.length ≤ 8 from ⟨h1, h2⟩), Bool.true_and]
      simp only [allIn_eq, Option.bind_some]
      cases e : allF (incQ l) l.length 1
      · exact Ev.neg (by decide) (Ev.now _)
      · exact Ev.pos rfl (Ev.now _)
    · refine Ev.pos (by omega) (Ev.neg (by omega) (Ev.some ?_))
      rw [decide_eq_false (by omega), Bool.false_and]
  · refine Ev.neg (by omega) (Ev.some ?_)
    rw [decide_eq_false (by omega), Bool.false_and]
/-- what the parts from j on add to the n-th number -/
def addP (n : Nat) : List Int → List Int → List Int
  | [], B => B
  | p :: ps, B => addP n ps (if p ≤ n then B.set n (wrap64 (B.getD n 0 + B.getD (n - p.toNat) 0)) else B)
theorem addP_length (n : Nat) (ps : List Int) : ∀ B, (addP n ps B).length = B.length := by
  induction ps with
  | nil => intro B; rfl
  | cons p ps ih => intro B; rw [addP, ih]; split <;> simp
/-- the numbers of groupings of 0, 1 .. : after the rounds for n, n + 1, .. n + d - 1 -/
def waysF (ps : List Int) : Nat → Nat → List Int → List Int
  | _, 0, B => B
  | n, d + 1, B => waysF ps (n + 1) d (addP n ps B)
theorem waysF_length (ps : List Int) (d : Nat) : ∀ n B, (waysF ps n d B).length = B.length := by
  induction d with
  | zero => intro n B; rfl
  | succ d ih => intro n B; rw [waysF, ih, addP_length]
/-- the table of all: 25 numbers -/
def ways25 (ps : List Int) : List Int := waysF ps 1 24 ((List.replicate 25 0).set 0 1)
theorem ways25_length (ps : List Int) : (ways25 ps).length = 25 := by rw [ways25, waysF_length]; simp
theorem addP_take (n m : Nat) (hn : n < m) (ps : List Int) (hp : ∀ p ∈ ps, 1 ≤ p) : ∀ B : List Int, addP n ps (B.take m) = (addP n ps B).take m := by
  induction ps with
  | nil => intro B; rfl
  | cons p ps ih =>
    intro B
    have h1 := hp p (by simp)
    rw [addP, addP, ← ih (fun q hq => hp q (by simp [hq]))]
    congr 1
    split
    · rw [List.take_set]
      congr 2
      simp only [List.getD_eq_getElem?_getD, List.getElem?_take, if_pos hn, if_pos (show n - p.toNat < m by omega)]
    · rfl
theorem addP_far (n m : Nat) (hn : m ≤ n) (ps : List Int) : ∀ B : List Int, (addP n ps B).take m = B.take m := by
  induction ps with
  | nil => intro B; rfl
  | cons p ps ih =>
    intro B
    rw [addP, ih]
    split
    · rw [List.take_set_of_le hn]
    · rfl
theorem waysF_far (ps : List Int) (m : Nat) (d : Nat) : ∀ n B, m ≤ n → (waysF ps n d B).take m = B.take m := by
  induction d with
  | zero => intro n B h; rfl
  | succ d ih => intro n B h; rw [waysF, ih _ _ (by omega), addP_far _ _ h]
theorem waysF_take (ps : List Int) (hp : ∀ p ∈ ps, 1 ≤ p) (m : Nat) (d : Nat) : ∀ n B, n + d ≤ m → waysF ps n d (B.take m) = (waysF ps n d B).take m := by
  induction d with
  | zero => intro n B h; rfl
  | succ d ih => intro n B h; rw [waysF, waysF, ← ih _ _ (by omega), addP_take _ _ (by omega) _ hp]
theorem waysF_add (ps : List Int) (d e : Nat) : ∀ n B, waysF ps n (d + e) B = waysF ps (n + d) e (waysF ps n d B) := by
  induction d with
  | zero => intro n B; rw [Nat.zero_add]; rfl
  | succ d ih => intro n B; rw [show d + 1 + e = (d + e) + 1 by omega, waysF, ih, waysF]; congr 1; omega
theorem sWays_l1 (u : Int) (ps : List Int) (hl : ps.length ≤ 8) (hp : ∀ j, j < ps.length → 1 ≤ ps.getD j 0 ∧ ps.getD j 0 ≤ 24) (n : Nat) (hn : n ≤ 24) (r : List Int) (d : Nat) : ∀ (j : Nat) (B : List Int), j + d = ps.length → n < B.length → Ev (fun k => spec_l21Ways.l0 k u ps (addP n (ps.drop j) B) ((n + 1 : Nat) : Int)) r → Ev (fun k => spec_l21Ways.l1 k u ps B n j) r := by
  induction d with
  | zero =>
    intro j B h1 h2 h3
    refine Ev.shift ?_
    simp only [spec_l21Ways.l1]
    refine Ev.neg (by omega) ?_
    rw [List.drop_of_length_le (by omega)] at h3
    rw [wid (by omega)]
    exact h3
  | succ d ih =>
    intro j B h1 h2 h3
    have hj := hp j (by omega)
    have e : ps.drop j = ps.getD j 0 :: ps.drop (j + 1) := by
      rw [List.drop_eq_getElem_cons (by omega), List.getD_eq_getElem?_getD, List.getElem?_eq_getElem (by omega), Option.getD_some]
    rw [e, addP] at h3
    refine Ev.shift ?_
    simp only [spec_l21Ways.l1]
    rw [rd_nat, wid (x := (j : Int) + 1) (by omega), wid (x := (n : Int) - ps.getD j 0) (by omega)]
    refine Ev.pos (by omega) (Ev.pos (by omega) ?_)
    by_cases c : ps.getD j 0 ≤ n
    · rw [if_pos c] at h3
      refine Ev.pos c (Ev.pos (by omega) (Ev.pos (by omega) (Ev.pos (by omega) (Ev.pos (by omega) ?_))))
      rw [Int.toNat_natCast, rd_nat, show (n : Int) - ps.getD j 0 = ((n - (ps.getD j 0).toNat : Nat) : Int) by omega, rd_nat]
      exact ih (j + 1) _ (by omega) (by rw [List.length_set]; exact h2) h3
    · rw [if_neg c] at h3
      refine Ev.neg c ?_
      exact ih (j + 1) _ (by omega) h2 h3
theorem sWays_l0 (u : Nat) (hu : u ≤ 24) (ps : List Int) (hl : ps.length ≤ 8) (hp : ∀ j, j < ps.length → 1 ≤ ps.getD j 0 ∧ ps.getD j 0 ≤ 24) (d : Nat) : ∀ (n : Nat) (B : List Int), n + d = u + 1 → B.length = u + 1 → Ev (fun k => spec_l21Ways.l0 k u ps B n) (waysF ps n d B) := by
  induction d with
  | zero =>
    intro n B h1 h2
    refine Ev.shift ?_
    simp only [spec_l21Ways.l0]
    exact Ev.neg (by omega) (Ev.now _)
  | succ d ih =>
    intro n B h1 h2
    refine Ev.shift ?_
    simp only [spec_l21Ways.l0]
    refine Ev.pos (by omega) ?_
    have h3 := ih (n + 1) (addP n ps B) (by omega) (by rw [addP_length]; exact h2)
    exact sWays_l1 u ps hl hp n (by omega) _ ps.length 0 B (by omega) (by omega) h3
theorem sWays (u : Nat) (hu : u ≤ 24) (ps : List Int) (h : partsB ps = true) : Ev (fun k => spec_l21Ways.f k u ps) ((ways25 ps).take (u + 1)) := by
  have hp := partsB_get h
  have hl := (partsB_len h).2
  have hp' : ∀ p ∈ ps, 1 ≤ p := by
    intro p hpm
    obtain ⟨j, hj, rfl⟩ := List.getElem_of_mem hpm
    have := hp j hj
    rw [List.getD_eq_getElem?_getD, List.getElem?_eq_getElem hj, Option.getD_some] at this
    exact this.1
  unfold spec_l21Ways.f
  rw [wid (by omega)]
  refine Ev.pos (by omega) (Ev.pos (by omega) ?_)
  simp only [Option.bind_some]
  refine Ev.pos (by simp <;> omega) ?_
  have e : (List.replicate ((u : Int) + 1).toNat (0 : Int)).set (0 : Int).toNat 1 = ((List.replicate 25 (0 : Int)).set 0 1).take (u + 1) := by
    rw [List.take_set, List.take_replicate, show ((u : Int) + 1).toNat = u + 1 by omega, show min (u + 1) 25 = u + 1 by omega]; rfl
  rw [e]
  refine Ev.same (sWays_l0 u hu ps hl hp u 1 _ (by omega) (by simp; omega)) ?_
  rw [waysF_take ps hp' _ _ _ _ (by omega), ways25, show (24 : Nat) = u + (24 - u) by omega, waysF_add, waysF_far ps (u + 1) (24 - u) (1 + u) _ (by omega)]
theorem iWays_l1 (ps : List Int) (hl : ps.length ≤ 8) (hp : ∀ j, j < ps.length → 1 ≤ ps.getD j 0 ∧ ps.getD j 0 ≤ 24) (m : Int) (n : Nat) (hn : n ≤ 24) (r : List Int) (d : Nat) : ∀ (j : Nat) (B : List Int), j + d = ps.length → n < B.length → Ev (fun k => impl_groupingCounts.l0 k ps (addP n (ps.drop j) B) m ((n + 1 : Nat) : Int)) r → Ev (fun k => impl_groupingCounts.l1 k ps B n m n ps ps.length j) r := by
  induction d with
  | zero =>
    intro j B h1 h2 h3
    refine Ev.shift ?_
    simp only [impl_groupingCounts.l1]
    refine Ev.neg (by omega) ?_
    rw [List.drop_of_length_le (by omega)] at h3
    rw [wid (by omega)]
    exact h3
  | succ d ih =>
    intro j B h1 h2 h3
    have hj := hp j (by omega)
    have e : ps.drop j = ps.getD j 0 :: ps.drop (j + 1) := by
      rw [List.drop_eq_getElem_cons (by omega), List.getD_eq_getElem?_getD, List.getElem?_eq_getElem (by omega), Option.getD_some]
    rw [e, addP] at h3
    refine Ev.shift ?_
    simp only [impl_groupingCounts.l1]
    rw [rd_nat, wid (x := (j : Int) + 1) (by omega), wid (x := (n : Int) - ps.getD j 0) (by omega)]
    refine Ev.pos (by omega) (Ev.pos (by omega) (Ev.pos (by omega) ?_))
    by_cases c : ps.getD j 0 ≤ n
    · rw [if_pos c] at h3
      refine Ev.pos c (Ev.pos (by omega) (Ev.pos (by omega) (Ev.pos (by omega) (Ev.pos (by omega) ?_))))
      rw [Int.toNat_natCast, rd_nat, show (n : Int) - ps.getD j 0 = ((n - (ps.getD j 0).toNat : Nat) : Int) by omega, rd_nat]
      exact ih (j + 1) _ (by omega) (by rw [List.length_set]; exact h2) h3
    · rw [if_neg c] at h3
      refine Ev.neg c ?_
      exact ih (j + 1) _ (by omega) h2 h3
theorem iWays_l0 (ps : List Int) (hl : ps.length ≤ 8) (hp : ∀ j, j < ps.length → 1 ≤ ps.getD j 0 ∧ ps.getD j 0 ≤ 24) (d : Nat) : ∀ (n : Nat) (B : List Int), n + d = 25 → B.length = 25 → Ev (fun k => impl_groupingCounts.l0 k ps B 25 n) (waysF ps n d B) := by
  induction d with
  | zero =>
    intro n B h1 h2
    refine Ev.shift ?_
    simp only [impl_groupingCounts.l0]
    exact Ev.neg (by omega) (Ev.now _)
  | succ d ih =>
    intro n B h1 h2
    refine Ev.shift ?_
    simp only [impl_groupingCounts.l0]
    refine Ev.pos (by omega) ?_
    have h3 := ih (n + 1) (addP n ps B) (by omega) (by rw [addP_length]; exact h2)
    exact iWays_l1 ps hl hp 25 n (by omega) _ ps.length 0 B (by omega) (by omega) h3
theorem iWays (ps : List Int) (h : partsB ps = true) : Ev (fun k => impl_groupingCounts.f k ps) (ways25 ps) := by
  have hp := partsB_get h
  have hl := (partsB_len h).2
  unfold impl_groupingCounts.f
  refine Ev.pos (by omega) ?_
  simp only [Option.bind_some]
  refine Ev.pos (by simp) ?_
  have h0 : addP 0 ps ((List.replicate 25 (0 : Int)).set (0 : Int).toNat 1) = (List.replicate 25 (0 : Int)).set 0 1 := by
    have : ∀ (qs : List Int), (∀ p ∈ qs, 1 ≤ p) → ∀ B, addP 0 qs B = B := by
      intro qs
      induction qs with
      | nil => intro _ B; rfl
      | cons q qs ih =>
        intro hq B
        have := hq q (by simp)
        rw [addP, ih (fun p hp => hq p (by simp [hp])), if_neg (by omega)]
    refine this ps ?_ _
    intro p hpm
    obtain ⟨j, hj, rfl⟩ := List.getElem_of_mem hpm
    have := hp j hj
    rw [List.getD_eq_getElem?_getD, List.getElem?_eq_getElem hj, Option.getD_some] at this
    exact this.1
  have := iWays_l0 ps hl hp 25 0 ((List.replicate 25 (0 : Int)).set (0 : Int).toNat 1) (by omega) (by simp)
  simp only [List.length_set, List.length_replicate]
  refine Ev.same this ?_
  rw [waysF, h0, ways25]
/-- rising from above a number on, below a bound -/
def rfP (n : Int) : Int → List Int → Bool
  | _, [] => true
  | last, m :: ms => decide (last + 1 ≤ m ∧ m ≤ n - 1) && rfP n m ms
theorem partsB_rfP {l : List Int} (h : partsB l = true) : rfP 25 0 l = true := by
  have key : ∀ (f : List Int) (last : Int), (∀ j, j < f.length → last < f.getD j 0 ∧ f.getD j 0 ≤ 24) → (∀ j, j + 1 < f.length → f.getD j 0 < f.getD (j + 1) 0) → rfP 25 last f = true := by
    intro f
    induction f with
    | nil => intro last _ _; rfl
    | cons m ms ih =>
      intro last h1 h2
      rw [rfP, Bool.and_eq_true]
      have h0 : last < m ∧ m ≤ 24 := h1 0 (by simp)
      have hlt : ∀ j, j < ms.length → m < ms.getD j 0 := by
        intro j
        induction j with
        | zero => intro hj; exact h2 0 (by simpa using hj)
        | succ j ihj =>
          intro hj
          have a := ihj (by omega)
          have b : ms.getD j 0 < ms.getD (j + 1) 0 := h2 (j + 1) (by simpa using hj)
          omega
      exact ⟨decide_eq_true (by omega), ih m (fun j hj => ⟨hlt j hj, (h1 (j + 1) (by simpa using hj)).2⟩) (fun j hj => h2 (j + 1) (by simpa using hj))⟩
  refine key l 0 (fun j hj => ?_) (fun j hj => partsB_lt h j hj)
  have := partsB_get h j hj
  omega
/-- what the parts add up to -/
def sumP (n : Nat) (B : List Int) : List Int → Int
  | [] => 0
  | p :: ps => (if p ≤ n then B.getD (n - p.toNat) 0 else 0) + sumP n B ps
theorem sumP_bound (n : Nat) (B : List Int) (hB : ∀ j, j < n → 0 ≤ B.getD j 0 ∧ B.getD j 0 ≤ 2 ^ j) (ps : List Int) : ∀ last : Int, 0 ≤ last → rfP 25 last ps = true → 0 ≤ sumP n B ps ∧ sumP n B ps ≤ 2 ^ (n - last.toNat) := by
  induction ps with
  | nil => intro last _ _; simp only [sumP]; exact ⟨by omega, Int.le_of_lt (Int.pow_pos (by omega))⟩
  | cons p ps ih =>
    intro last h0 h
    rw [rfP, Bool.and_eq_true] at h
    have hp := of_decide_eq_true h.1
    have hr := ih p (by omega) h.2
    rw [sumP]
    by_cases c : p ≤ n
    · rw [if_pos c]
      have hb := hB (n - p.toNat) (by omega)
      refine ⟨by omega, ?_⟩
      have e : (2 : Int) ^ (n - p.toNat + 1) = 2 ^ (n - p.toNat) + 2 ^ (n - p.toNat) := by rw [Int.pow_succ]; omega
      have m : (2 : Int) ^ (n - p.toNat + 1) ≤ 2 ^ (n - last.toNat) := by
        have := Nat.pow_le_pow_right (n := 2) (by omega) (show n - p.toNat + 1 ≤ n - last.toNat by omega)
        exact_mod_cast this
      omega
    · rw [if_neg c]
      refine ⟨by omega, ?_⟩
      have m : (2 : Int) ^ (n - p.toNat) ≤ 2 ^ (n - last.toNat) := by
        have := Nat.pow_le_pow_right (n := 2) (by omega) (show n - p.toNat ≤ n - last.toNat by omega)
        exact_mod_cast this
      omega
theorem sumP_congr (n : Nat) (B B' : List Int) (hB : ∀ j, j < n → B.getD j 0 = B'.getD j 0) (ps : List Int) (hp : ∀ p ∈ ps, 1 ≤ p) : sumP n B ps = sumP n B' ps := by
  induction ps with
  | nil => rfl
  | cons p ps ih =>
    have h1 := hp p (by simp)
    rw [sumP, sumP, ih (fun q hq => hp q (by simp [hq]))]
    congr 1
    by_cases c : p ≤ n
    · rw [if_pos c, if_pos c]; exact hB _ (by omega)
    · rw [if_neg c, if_neg c]
theorem getD_set_self (B : List Int) (n : Nat) (v : Int) (h : n < B.length) : (B.set n v).getD n 0 = v := by
  rw [List.getD_eq_getElem?_getD, List.getElem?_set_self h, Option.getD_some]
theorem getD_set_ne (B : List Int) (n j : Nat) (v : Int) (h : n ≠ j) : (B.set n v).getD j 0 = B.getD j 0 := by
  rw [List.getD_eq_getElem?_getD, List.getElem?_set_ne h, ← List.getD_eq_getElem?_getD]
theorem rfP_pos {last : Int} {ps : List Int} (h0 : 0 ≤ last) (h : rfP 25 last ps = true) : ∀ p ∈ ps, 1 ≤ p ∧ p ≤ 24 := by
  induction ps generalizing last with
  | nil => intro p hp; cases hp
  | cons q qs ih =>
    rw [rfP, Bool.and_eq_true] at h
    have hq := of_decide_eq_true h.1
    intro p hp
    rcases List.mem_cons.1 hp with rfl | hp
    · omega
    · exact ih (by omega) h.2 p hp
theorem addP_sum (n : Nat) (hn : n ≤ 24) (ps : List Int) : ∀ (last : Int) (B : List Int), 0 ≤ last → rfP 25 last ps = true → n < B.length → (∀ j, j < n → 0 ≤ B.getD j 0 ∧ B.getD j 0 ≤ 2 ^ j) → 0 ≤ B.getD n 0 → B.getD n 0 + sumP n B ps ≤ 1000000000 →
    addP n ps B = B.set n (B.getD n 0 + sumP n B ps) := by
  induction ps with
  | nil =>
    intro last B _ _ hl _ _ _
    rw [addP, sumP, Int.add_zero]
    refine List.ext_getElem (by simp) (fun i h1 h2 => ?_)
    rw [List.getElem_set]
    split
    · rename_i e; subst e; rw [List.getD_eq_getElem?_getD, List.getElem?_eq_getElem h1, Option.getD_some]
    · rfl
  | cons p ps ih =>
    intro last B h0 h hl hB hs0 hs1
    have hpos := rfP_pos h0 h
    rw [rfP, Bool.and_eq_true] at h
    have hp := of_decide_eq_true h.1
    have hb2 := (sumP_bound n B hB ps p (by omega) h.2).1
    rw [addP, sumP]
    rw [sumP] at hs1
    by_cases c : p ≤ n
    · rw [if_pos c] at hs1 ⊢
      rw [if_pos c]
      have hbp := hB (n - p.toNat) (by omega)
      have hw : wrap64 (B.getD n 0 + B.getD (n - p.toNat) 0) = B.getD n 0 + B.getD (n - p.toNat) 0 := wid (by omega)
      rw [hw]
      have hB' : ∀ j, j < n → (B.set n (B.getD n 0 + B.getD (n - p.toNat) 0)).getD j 0 = B.getD j 0 := fun j hj => getD_set_ne _ _ _ _ (by omega)
      have hsum : sumP n (B.set n (B.getD n 0 + B.getD (n - p.toNat) 0)) ps = sumP n B ps := sumP_congr n _ _ hB' ps (fun q hq => (hpos q (by simp [hq])).1)
      rw [ih p _ (by omega) h.2 (by rw [List.length_set]; exact hl) (fun j hj => by rw [hB' j hj]; exact hB j hj) (by rw [getD_set_self _ _ _ hl]; omega) (by rw [getD_set_self _ _ _ hl, hsum]; omega), getD_set_self _ _ _ hl, hsum, List.set_set]
      congr 1; omega
    · rw [if_neg c] at hs1 ⊢
      rw [if_neg c]
      rw [ih p B (by omega) h.2 hl hB hs0 (by omega)]
      congr 1; omega
theorem pow24 (n : Nat) (h : n ≤ 24) : (2 : Int) ^ n ≤ 16777216 := by
  have h1 := Nat.pow_le_pow_right (n := 2) (by omega) h
  have h2 : (2 : Nat) ^ 24 = 16777216 := by decide
  rw [h2] at h1
  have h3 : ((2 ^ n : Nat) : Int) ≤ ((16777216 : Nat) : Int) := Int.ofNat_le.2 h1
  rw [Int.natCast_pow] at h3
  exact h3
/-- the rounds till n: exact so far, zeros behind -/
theorem waysF_inv (ps : List Int) (h : rfP 25 0 ps = true) (d : Nat) : ∀ (n : Nat) (B : List Int), n + d ≤ 25 → B.length = 25 → B.getD 0 0 = 1 → (∀ j, j < n → 0 ≤ B.getD j 0 ∧ B.getD j 0 ≤ 2 ^ j) → (∀ j, 1 ≤ j → j < n → B.getD j 0 = sumP j B ps) → (∀ j, n ≤ j → j < 25 → B.getD j 0 = 0) → 1 ≤ n →
    (waysF ps n d B).getD 0 0 = 1 ∧ (∀ j, j < n + d → 0 ≤ (waysF ps n d B).getD j 0 ∧ (waysF ps n d B).getD j 0 ≤ 2 ^ j) ∧ (∀ j, 1 ≤ j → j < n + d → (waysF ps n d B).getD j 0 = sumP j (waysF ps n d B) ps) := by
  induction d with
  | zero => intro n B h1 h2 h3 h4 h5 h6 h7; exact ⟨h3, h4, h5⟩
  | succ d ih =>
    intro n B h1 h2 h3 h4 h5 h6 h7
    have hpos := rfP_pos (by omega) h
    have hz := h6 n (by omega) (by omega)
    have hb := sumP_bound n B h4 ps 0 (by omega) h
    rw [show n - (0 : Int).toNat = n from rfl] at hb
    have hb3 : sumP n B ps ≤ 16777216 := Int.le_trans hb.2 (pow24 n (by omega))
    have e := addP_sum n (by omega) ps 0 B (by omega) h (by omega) h4 (by omega) (by rw [hz, Int.zero_add]; clear hb; omega)
    rw [hz, Int.zero_add] at e
    rw [waysF, e, show n + (d + 1) = n + 1 + d by omega]
    have hne : ∀ j, j ≠ n → (B.set n (sumP n B ps)).getD j 0 = B.getD j 0 := fun j hj => getD_set_ne _ _ _ _ (Ne.symm hj)
    have hse : (B.set n (sumP n B ps)).getD n 0 = sumP n B ps := getD_set_self _ _ _ (by omega)
    have hcg : ∀ j, j ≤ n → sumP j (B.set n (sumP n B ps)) ps = sumP j B ps := fun j hj => sumP_congr j _ _ (fun i hi => hne i (by omega)) ps (fun q hq => (hpos q hq).1)
    refine ih (n + 1) _ (by omega) (by rw [List.length_set]; exact h2) (by rw [hne 0 (by omega)]; exact h3) (fun j hj => ?_) (fun j hj1 hj => ?_) (fun j hj hj2 => ?_) (by omega)
    · by_cases c : j = n
      · rw [c, hse]; exact hb
      · rw [hne j c]; exact h4 j (by omega)
    · by_cases c : j = n
      · rw [c, hse, hcg n (by omega)]
      · rw [hne j c, hcg j (by omega)]; exact h5 j hj1 (by omega)
    · rw [hne j (by omega)]; exact h6 j (by omega) hj2
theorem ways25_exact (ps : List Int) (h : partsB ps = true) : (ways25 ps).getD 0 0 = 1 ∧ (∀ j, j ≤ 24 → 0 ≤ (ways25 ps).getD j 0 ∧ (ways25 ps).getD j 0 ≤ 2 ^ j) ∧ (∀ j, 1 ≤ j → j ≤ 24 → (ways25 ps).getD j 0 = sumP j (ways25 ps) ps) := by
  have hz : ∀ j, 1 ≤ j → j < 25 → ((List.replicate 25 (0 : Int)).set 0 1).getD j 0 = 0 := by
    intro j h1 h2
    rw [getD_set_ne _ _ _ _ (by omega), List.getD_eq_getElem?_getD, List.getElem?_replicate, if_pos h2, Option.getD_some]
  obtain ⟨a, b, c⟩ := waysF_inv ps (partsB_rfP h) 24 1 ((List.replicate 25 0).set 0 1) (by omega) (by simp) (getD_set_self _ _ _ (by simp)) (fun j hj => by rw [show j = 0 by omega, getD_set_self _ _ _ (by simp)]; decide) (fun j h1 h2 => by omega) (fun j h1 h2 => hz j h1 h2) (by omega)
  exact ⟨a, fun j hj => b j (by omega), fun j h1 hj => c j h1 (by omega)⟩
theorem ways25_bd (ps : List Int) (h : partsB ps = true) (j : Nat) (hj : j ≤ 24) : 0 ≤ (ways25 ps).getD j 0 ∧ (ways25 ps).getD j 0 ≤ 16777216 := by
  have h1 := (ways25_exact ps h).2.1 j hj
  exact ⟨h1.1, Int.le_trans h1.2 (pow24 j hj)⟩
theorem sumP_le (u : Nat) (hu : u ≤ 24) (ps : List Int) (h : partsB ps = true) (qs : List Int) : (∀ p ∈ qs, 1 ≤ p ∧ p ≤ 24) → 0 ≤ sumP u (ways25 ps) qs ∧ sumP u (ways25 ps) qs ≤ qs.length * 16777216 := by
  induction qs with
  | nil => intro _; simp [sumP]
  | cons q qs ih =>
    intro hq
    have a1 := ih (fun p hp => hq p (by simp [hp]))
    have a2 := hq q (by simp)
    rw [sumP, List.length_cons]
    have a3 : 0 ≤ (if q ≤ (u : Int) then (ways25 ps).getD (u - q.toNat) 0 else 0) ∧ (if q ≤ (u : Int) then (ways25 ps).getD (u - q.toNat) 0 else 0) ≤ 16777216 := by
      split
      · exact ways25_bd ps h _ (by omega)
      · omega
    omega
theorem num_inner (ps : List Int) (h : partsB ps = true) (u0 u : Nat) (hu0 : u0 ≤ 24) (hu : u ≤ u0) (hu1 : 1 ≤ u) (acc : List Int) (ha : acc.length + u ≤ 24)
    (IH : ∀ (v : Nat) (num : Int) (acc : List Int), v < u → acc.length + v ≤ 24 → 0 ≤ num → num < (ways25 ps).getD v 0 → ∃ r : List Int × Int, r.1.length ≤ 24 ∧ Ev (fun k => spec_NumberedGrouping.l0 k v ps num ((ways25 ps).take (u0 + 1)) acc) r ∧ Ev (fun k => impl_NumberedGrouping.l0 k v ps num (ways25 ps) acc) r) (d : Nat) :
    ∀ (j : Nat) (num : Int), j + d = ps.length → 0 ≤ num → num < sumP u (ways25 ps) (ps.drop j) → ∃ r : List Int × Int, r.1.length ≤ 24 ∧ Ev (fun k => spec_NumberedGrouping.l1 k u ps num ((ways25 ps).take (u0 + 1)) acc j) r ∧ Ev (fun k => impl_NumberedGrouping.l1 k u ps num (ways25 ps) acc ps ps.length j) r := by
  have hl := (partsB_len h).2
  have hWl := ways25_length ps
  induction d with
  | zero =>
    intro j num h1 h2 h3
    rw [List.drop_of_length_le (by omega), sumP] at h3
    omega
  | succ d ih =>
    intro j num h1 h2 h3
    have hp := partsB_get h j (by omega)
    have w1 := Aside0.mk (show wrap64 ((j : Int) + 1) = ((j + 1 : Nat) : Int) from by rw [wid (by omega)]; rfl)
    rw [List.drop_eq_getElem_cons (by omega), sumP] at h3
    have eg : ps[j]'(by omega) = ps.getD j 0 := by rw [List.getD_eq_getElem?_getD, List.getElem?_eq_getElem (by omega), Option.getD_some]
    rw [eg] at h3
    by_cases c : ps.getD j 0 ≤ u
    · rw [if_pos c] at h3
      have w2 := Aside0.mk (show wrap64 ((u : Int) - ps.getD j 0) = ((u - (ps.getD j 0).toNat : Nat) : Int) from by rw [wid (by omega)]; omega)
      have hv := ways25_bd ps h (u - (ps.getD j 0).toNat) (by omega)
      have rt := Aside0.mk (show rd ((ways25 ps).take (u0 + 1)) ((u - (ps.getD j 0).toNat : Nat) : Int) = (ways25 ps).getD (u - (ps.getD j 0).toNat) 0 from by
        rw [rd_nat, List.getD_eq_getElem?_getD, List.getElem?_take, if_pos (by omega), ← List.getD_eq_getElem?_getD])
      by_cases c2 : num < (ways25 ps).getD (u - (ps.getD j 0).toNat) 0
      · obtain ⟨r, hr, x, y⟩ := IH (u - (ps.getD j 0).toNat) num (acc ++ [ps.getD j 0]) (by omega) (by rw [List.length_append, List.length_singleton]; omega) h2 c2
        refine ⟨r, hr, Ev.shift ?_, Ev.shift ?_⟩
        · simp only [spec_NumberedGrouping.l1]
          rw [rd_nat, w2.out, rt.out]
          refine Ev.pos (by omega) (Ev.pos (by omega) (Ev.neg (by omega) (Ev.pos (by omega) (Ev.pos ?_ (Ev.pos c2 (Ev.pos (by omega) x))))))
          rw [List.length_take, hWl]; omega
        · simp only [impl_NumberedGrouping.l1]
          rw [rd_nat, w2.out, rd_nat]
          exact Ev.pos (by omega) (Ev.pos (by omega) (Ev.pos (by omega) (Ev.neg (by omega) (Ev.pos (by omega) (Ev.pos (by omega) (Ev.pos c2 (Ev.pos (by omega) y)))))))
      · obtain ⟨r, hr, x, y⟩ := ih (j + 1) (num - (ways25 ps).getD (u - (ps.getD j 0).toNat) 0) (by omega) (by omega) (by omega)
        have w3 := Aside0.mk (show wrap64 (num - (ways25 ps).getD (u - (ps.getD j 0).toNat) 0) = num - (ways25 ps).getD (u - (ps.getD j 0).toNat) 0 from by
          have hs := (sumP_le u (by omega) ps h (ps.drop (j + 1)) (fun p hp => rfP_pos (by omega) (partsB_rfP h) p (List.mem_of_mem_drop hp))).2
          rw [List.length_drop] at hs
          exact wid (by omega))
        refine ⟨r, hr, Ev.shift ?_, Ev.shift ?_⟩
        · simp only [spec_NumberedGrouping.l1]
          rw [rd_nat, w2.out, rt.out, w3.out, w1.out]
          refine Ev.pos (by omega) (Ev.pos (by omega) (Ev.neg (by omega) (Ev.pos (by omega) (Ev.pos ?_ (Ev.neg c2 x)))))
          rw [List.length_take, hWl]; omega
        · simp only [impl_NumberedGrouping.l1]
          rw [rd_nat, w2.out, rd_nat, w3.out, w1.out]
          exact Ev.pos (by omega) (Ev.pos (by omega) (Ev.pos (by omega) (Ev.neg (by omega) (Ev.pos (by omega) (Ev.pos (by omega) (Ev.neg c2 y))))))
    · rw [if_neg c] at h3
      exfalso
      have hz : sumP u (ways25 ps) (ps.drop (j + 1)) = 0 := by
        have : ∀ qs : List Int, (∀ p ∈ qs, (u : Int) < p) → sumP u (ways25 ps) qs = 0 := by
          intro qs
          induction qs with
          | nil => intro _; rfl
          | cons q qs ihq =>
            intro hq
            have := hq q (by simp)
            rw [sumP, if_neg (by omega), ihq (fun p hp => hq p (by simp [hp]))]; rfl
        refine this _ (fun p hp => ?_)
        obtain ⟨i, hi, rfl⟩ := List.getElem_of_mem hp
        rw [List.length_drop] at hi
        rw [List.getElem_drop]
        have hlt : ∀ i, j + 1 + i < ps.length → ps.getD j 0 < ps.getD (j + 1 + i) 0 := by
          intro i
          induction i with
          | zero => intro hi; exact partsB_lt h j hi
          | succ i ihi =>
            intro hi
            have a := ihi (by omega)
            have b := partsB_lt h (j + 1 + i) (by omega)
            rw [show j + 1 + (i + 1) = j + 1 + i + 1 by omega]
            omega
        have := hlt i (by omega)
        rw [List.getD_eq_getElem?_getD (l := ps) (i := j + 1 + i), List.getElem?_eq_getElem (by omega), Option.getD_some] at this
        omega
      omega
theorem num_outer (ps : List Int) (h : partsB ps = true) (u0 : Nat) (hu0 : u0 ≤ 24) (u : Nat) : ∀ (num : Int) (acc : List Int), u ≤ u0 → acc.length + u ≤ 24 → 0 ≤ num → num < (ways25 ps).getD u 0 → ∃ r : List Int × Int, r.1.length ≤ 24 ∧ Ev (fun k => spec_NumberedGrouping.l0 k u ps num ((ways25 ps).take (u0 + 1)) acc) r ∧ Ev (fun k => impl_NumberedGrouping.l0 k u ps num (ways25 ps) acc) r := by
  induction u using Nat.strongRecOn with
  | ind u ih =>
    intro num acc hu ha h0 h1
    by_cases c : u = 0
    · subst c
      refine ⟨(acc, 0), by simp only; omega, Ev.shift ?_, Ev.shift ?_⟩
      · simp only [spec_NumberedGrouping.l0]; exact Ev.neg (by omega) (Ev.now _)
      · simp only [impl_NumberedGrouping.l0]; exact Ev.neg (by omega) (Ev.now _)
    · have hs := (ways25_exact ps h).2.2 u (by omega) (by omega)
      obtain ⟨r, hr, x, y⟩ := num_inner ps h u0 u hu0 hu (by omega) acc ha (fun v num acc hv ha h0 h1 => ih v hv num acc (by omega) ha h0 h1) ps.length 0 num (by omega) h0 (by rw [List.drop_zero, ← hs]; exact h1)
      refine ⟨r, hr, Ev.shift ?_, Ev.shift ?_⟩
      · simp only [spec_NumberedGrouping.l0]; exact Ev.pos (by omega) x
      · simp only [impl_NumberedGrouping.l0]; exact Ev.pos (by omega) y
theorem numbered (u : Int) (ps : List Int) (num : Int) (hl : ps.length ≤ 35184372088832) : ∃ r c, r.length ≤ 24 ∧ Ev (fun k => spec_NumberedGrouping.f k u ps num) (r, c) ∧ Ev (fun k => impl_NumberedGrouping.f k u ps num) (r, c) := by
  unfold spec_NumberedGrouping.f impl_NumberedGrouping.f spec_l21Units.f
  simp only [in_eq, within_eq, Option.bind_some]
  by_cases hu : 0 ≤ u ∧ u ≤ 24
  · cases h : partsB ps with
    | true =>
      obtain ⟨n, rfl⟩ : ∃ n : Nat, u = n := ⟨u.toNat, by omega⟩
      have hW := ways25_bd ps h n (by omega)
      have rt : rd ((ways25 ps).take (n + 1)) (n : Int) = (ways25 ps).getD n 0 := by
        rw [rd_nat, List.getD_eq_getElem?_getD, List.getElem?_take, if_pos (by omega), ← List.getD_eq_getElem?_getD]
      have w1 : wrap64 ((ways25 ps).getD n 0 - 1) = (ways25 ps).getD n 0 - 1 := wid (by omega)
      have hlen : (n : Int) < (((ways25 ps).take (n + 1)).length : Int) := by rw [List.length_take, ways25_length]; omega
      have hlen2 : (n : Int) < ((ways25 ps).length : Int) := by rw [ways25_length]; omega
      by_cases c : 0 ≤ num ∧ num ≤ (ways25 ps).getD n 0 - 1
      · obtain ⟨⟨r, q⟩, hr, x, y⟩ := num_outer ps h n (by omega) n num [] (by omega) (by simp; omega) c.1 (by omega)
        refine ⟨r, q, hr, Ev.pos (by simpa using hu) (Ev.bind (sParts ps hl) ?_), Ev.pos (by simpa using hu) (Ev.bind (iParts ps hl) ?_)⟩
        · rw [h]
          refine Ev.pos rfl (Ev.bind (sWays n (by omega) ps h) ?_)
          rw [rt, w1]
          exact Ev.pos (by omega) (Ev.pos hlen (Ev.pos (decide_eq_true c) x))
        · rw [h]
          refine Ev.pos rfl (Ev.bind (iWays ps h) ?_)
          rw [rd_nat, w1]
          exact Ev.pos (by omega) (Ev.pos hlen2 (Ev.pos (decide_eq_true c) y))
      · refine ⟨[], 3, by simp, Ev.pos (by simpa using hu) (Ev.bind (sParts ps hl) ?_), Ev.pos (by simpa using hu) (Ev.bind (iParts ps hl) ?_)⟩
        · rw [h]
          refine Ev.pos rfl (Ev.bind (sWays n (by omega) ps h) ?_)
          rw [rt, w1]
          exact Ev.pos (by omega) (Ev.pos hlen (Ev.neg (by rw [decide_eq_true_iff]; exact c) (Ev.now _)))
        · rw [h]
          refine Ev.pos rfl (Ev.bind (iWays ps h) ?_)
          rw [rd_nat, w1]
          exact Ev.pos (by omega) (Ev.pos hlen2 (Ev.neg (by rw [decide_eq_true_iff]; exact c) (Ev.now _)))
    | false =>
      refine ⟨[], 7, by simp, Ev.pos (by simpa using hu) (Ev.bind (sParts ps hl) ?_), Ev.pos (by simpa using hu) (Ev.bind (iParts ps hl) ?_)⟩
      · rw [h]; exact Ev.neg (by decide) (Ev.now _)
      · rw [h]; exact Ev.neg (by decide) (Ev.now _)
  · refine ⟨[], 2, by simp, Ev.neg (by simp; omega) (Ev.now _), Ev.neg (by simp; omega) (Ev.now _)⟩
theorem FnExactNumberedGrouping : laws_FnExactNumberedGrouping.Pure := by
  intro u l num _ hm hs _ _
  refine Ev.rounds (g := fun k => laws_FnExactNumberedGrouping.f k u l num) ?_
  unfold laws_FnExactNumberedGrouping.f
  by_cases hl : (l.length : Int) > 1048576
  · exact Ev.pos hl (Ev.now _)
  refine Ev.neg hl ?_
  have hl' : l.length ≤ 35184372088832 := by omega
  obtain ⟨r, c, hr0, hS, hI⟩ := numbered u l num hl'
  have hr : r.length ≤ 35184372088832 := by omega
  have hmk := markI r 1 (by omega) (by omega)
  have hhl := heldI r.length 1 (by omega) (by omega)
  have hmx := markI l 1 (by omega) (by omega)
  repeat (first | exact Ev.now _ | refine Ev.bind hS ?_ | refine Ev.bind hI ?_ | refine Ev.bind (toI _ (by assumption)) ?_ | refine Ev.bind (eqI _ (by assumption)) ?_ | refine Ev.bind hmk ?_ | refine Ev.bind hmx ?_ | refine Ev.bind hhl ?_ | refine Ev.pos (by with_reducible rfl) ?_ | refine Ev.neg (by omega) ?_ | refine Ev.neg (by simp; done) ?_ | refine Ev.pos (by omega) ?_ | (refine Ev.shift ?_; simp only [laws_FnExactNumberedGrouping.j0, laws_FnExactNumberedGrouping.j1, laws_FnExactNumberedGrouping.j2]))

end Go.Proofs.Ytmkjjjpffakfiaa.Pure
