/- The pure statement of the law FnExactGroupingNumber: what the Go functions compute, told by plain Lean functions, is what the law asks, for all arguments. No condition beyond the printed ones. -/
import Derived.Test.YtmkjjjpffakfiaaPFnExactGroupingNumberx5
import Derived.Test.YtmkjjjpffakfiaaXW
namespace Go.Proofs.Ytmkjjjpffakfiaa.Pure
open Go.RowKit Go.Proofs.Ytmkjjjpffakfiaa.PFnExactGroupingNumber Go.Proofs.YtmkjjjpffakfiaaW.PrintWords Go.Proofs.YtmkjjjpffakfiaaW.PrintLast Go.Proofs.YtmkjjjpffakfiaaW.PrintMore Go.Proofs.YtmkjjjpffakfiaaXW
set_option linter.unusedVariables false
set_option linter.unusedSimpArgs false
theorem toI_l0 (l : List Int) (hl : l.length ≤ 35184372088832) (d : Nat) : ∀ (i : Nat) (acc : List Int), i + d = l.length → acc.length = l.length → acc.take i = l.take i → Ev (fun k => laws_toInt64S.l0 k l acc i) l := by
  induction d with
  | zero =>
    intro i acc h1 h2 h3
    refine Ev.shift ?_
    simp only [laws_toInt64S.l0]
    refine Ev.neg (by omega) ?_
    refine Ev.some ?_
    rw [List.take_of_length_le (by omega), List.take_of_length_le (by omega)] at h3
    rw [h3]
  | succ d ih =>
    intro i acc h1 h2 h3
    refine Ev.shift ?_
    simp only [laws_toInt64S.l0]
    refine Ev.pos (by omega) (Ev.pos (by omega) (Ev.pos (by omega) ?_))
    rw [wid (by omega), rd_get l i (by omega), Int.toNat_natCast]
    refine ih (i + 1) (acc.set i l[i]) (by omega) (by rw [List.length_set, h2]) ?_
    rw [List.take_succ_eq_append_getElem (by rw [List.length_set]; omega), List.take_succ_eq_append_getElem (by omega), List.take_set_of_le (by omega), List.getElem_set_self, h3]
theorem toI (l : List Int) (hl : l.length ≤ 35184372088832) : Ev (fun k => laws_toInt64S.f k l) l := by
  unfold laws_toInt64S.f
  refine Ev.pos (by omega) (Ev.pos (by omega) ?_)
  rw [Int.toNat_natCast]
  exact toI_l0 l hl l.length 0 _ (by omega) (by simp) (by simp)
theorem eqI_l0 (l : List Int) (hl : l.length ≤ 35184372088832) (d : Nat) : ∀ (i : Nat), i + d = l.length → Ev (fun k => laws_eqInt64S.l0 k l l i) true := by
  induction d with
  | zero =>
    intro i h1
    refine Ev.shift ?_
    simp only [laws_eqInt64S.l0]
    exact Ev.neg (by omega) (Ev.now _)
  | succ d ih =>
    intro i h1
    refine Ev.shift ?_
    simp only [laws_eqInt64S.l0]
    refine Ev.pos (by omega) (Ev.pos (by omega) (Ev.pos (by omega) (Ev.pos (by trivial) ?_)))
    rw [wid (by omega)]
    exact ih (i + 1) (by omega)
theorem eqI (l : List Int) (hl : l.length ≤ 35184372088832) : Ev (fun k => laws_eqInt64S.f k l l) true := by
  unfold laws_eqInt64S.f
  exact Ev.pos rfl (eqI_l0 l hl l.length 0 (by omega))
theorem in_eq (a b c : Int) : spec_l00In.f a b c = some (decide (b ≤ a ∧ a ≤ c)) := by
  unfold spec_l00In.f; split <;> simp_all; omega
theorem within_eq (a b c : Int) : impl_within.f a b c = some (decide (b ≤ a ∧ a ≤ c)) := by
  unfold impl_within.f; split <;> simp_all; omega
theorem allIn_eq (l : List Int) (a b : Int) : impl_allWithin.f l a b = some (l.all fun x => decide (a ≤ x ∧ x ≤ b)) := by
  unfold impl_allWithin.f
  rw [List.not_any_eq_all_not]
  congr 2
  funext x
  simp [allP]
def risQ (l : List Int) (lo hi : Int) (j : Nat) : Bool := decide (lo ≤ l.getD j 0 ∧ l.getD j 0 ≤ hi) && (decide (j = 0) || decide (l.getD (j - 1) 0 < l.getD j 0))
theorem rises_l0 (l : List Int) (lo hi : Int) (hl : l.length ≤ 35184372088832) (d : Nat) : ∀ (i : Nat), i + d = l.length → Ev (fun k => spec_l00Rises.l0 k l lo hi i) (allF (risQ l lo hi) l.length i) := by
  induction d with
  | zero =>
    intro i h1
    refine Ev.shift ?_
    simp only [spec_l00Rises.l0]
    exact Ev.neg (by omega) (Ev.some (by rw [allF_end _ (by omega)]))
  | succ d ih =>
    intro i h1
    refine Ev.shift ?_
    simp only [spec_l00Rises.l0, in_eq, Option.bind_some]
    refine Ev.pos (by omega) (Ev.pos (by omega) ?_)
    rw [rd_nat]
    by_cases hb : lo ≤ l.getD i 0 ∧ l.getD i 0 ≤ hi
    · refine Ev.pos (by simpa using hb) ?_
      cases i with
      | zero =>
        refine Ev.neg (by omega) ?_
        rw [wid (by omega), allF_yes _ (by simp only [risQ]; simp; exact hb)]
        exact ih 1 (by omega)
      | succ i =>
        refine Ev.pos (by omega) ?_
        have e1 : wrap64 (((i + 1 : Nat) : Int) - 1) = (i : Int) := by rw [wid (by omega)]; omega
        rw [e1, rd_nat]
        refine Ev.pos (by omega) (Ev.pos (by omega) ?_)
        by_cases hc : l.getD i 0 < l.getD (i + 1) 0
        · refine Ev.neg (by omega) ?_
          rw [wid (by omega), allF_yes _ (by simp only [risQ]; simp; exact ⟨hb, hc⟩)]
          exact ih (i + 2) (by omega)
        · refine Ev.pos (by omega) (Ev.some ?_)
          rw [allF_no _ (by omega) (by simp only [risQ, Nat.add_sub_cancel, decide_eq_false hc]; simp)]
    · refine Ev.neg (by simpa using hb) (Ev.some ?_)
      rw [allF_no _ (by omega) (by simp only [risQ]; rw [decide_eq_false hb]; rfl)]
theorem rises_ev (l : List Int) (lo hi : Int) (hl : l.length ≤ 35184372088832) : Ev (fun k => spec_l00Rises.f k l lo hi) (allF (risQ l lo hi) l.length 0) := by
  unfold spec_l00Rises.f
  exact rises_l0 l lo hi hl l.length 0 (by omega)
def incQ (l : List Int) (j : Nat) : Bool := decide (l.getD (j - 1) 0 < l.getD j 0)
theorem inc_l0 (l : List Int) (hl : l.length ≤ 35184372088832) (d : Nat) : ∀ (i : Nat), 1 ≤ i → l.length ≤ i + d → Ev (fun k => impl_increasing.l0 k l i) (allF (incQ l) l.length i) := by
  induction d with
  | zero =>
    intro i h0 h1
    refine Ev.shift ?_
    simp only [impl_increasing.l0]
    exact Ev.neg (by omega) (Ev.some (by rw [allF_end _ (by omega)]))
  | succ d ih =>
    intro i h0 h1
    by_cases hi : i < l.length
    · refine Ev.shift ?_
      simp only [impl_increasing.l0]
      have e1 : wrap64 ((i : Int) - 1) = ((i - 1 : Nat) : Int) := by rw [wid (by omega)]; omega
      rw [e1, rd_nat, rd_nat]
      refine Ev.pos (by omega) (Ev.pos (by omega) (Ev.pos (by omega) (Ev.pos (by omega) ?_)))
      by_cases hc : l.getD (i - 1) 0 < l.getD i 0
      · refine Ev.neg (by omega) ?_
        rw [wid (by omega), allF_yes _ (by simp only [incQ]; simpa using hc)]
        exact ih (i + 1) (by omega) (by omega)
      · refine Ev.pos (by omega) (Ev.some ?_)
        rw [allF_no _ (by omega) (by simp only [incQ]; simpa using hc)]
    · refine Ev.shift ?_
      simp only [impl_increasing.l0]
      exact Ev.neg (by omega) (Ev.some (by rw [allF_end _ (by omega)]))
theorem inc_ev (l : List Int) (hl : l.length ≤ 35184372088832) : Ev (fun k => impl_increasing.f k l) (allF (incQ l) l.length 1) := by
  unfold impl_increasing.f
  exact inc_l0 l hl l.length 1 (by omega) (by omega)
/-- The one test is the two others. -/
theorem rises_inc (l : List Int) (lo hi : Int) : (allF (incQ l) l.length 1 && l.all fun x => decide (lo ≤ x ∧ x ≤ hi)) = allF (risQ l lo hi) l.length 0 := by
  rw [Bool.eq_iff_iff, Bool.and_eq_true, allF_iff, allF_iff, all_iff_get]
  constructor
  · rintro ⟨h1, h2⟩ j hj _
    simp only [risQ, Bool.and_eq_true, Bool.or_eq_true]
    refine ⟨h2 j hj, ?_⟩
    by_cases e : j = 0
    · left; simpa using e
    · right; exact h1 j hj (by omega)
  · intro h
    refine ⟨fun j hj h1 => ?_, fun j hj => ?_⟩
    · have := h j hj (by omega)
      simp only [risQ, Bool.and_eq_true, Bool.or_eq_true] at this
      rcases this.2 with e | e
      · simp at e; omega
      · exact e
    · have := h j hj (by omega)
      simp only [risQ, Bool.and_eq_true] at this
      exact this.1
def partsB (l : List Int) : Bool := decide (1 ≤ l.length ∧ l.length ≤ 8) && allF (risQ l 1 24) l.length 0
theorem sParts (l : List Int) (hl : l.length ≤ 35184372088832) : Ev (fun k => spec_l21Parts.f k l) (partsB l) := by
  unfold spec_l21Parts.f partsB
  simp only [in_eq, Option.bind_some]
  by_cases h : 1 ≤ l.length ∧ l.length ≤ 8
  · refine Ev.pos (by simp; omega) (Ev.bind (rises_ev l _ _ hl) (Ev.some ?_))
    rw [decide_eq_true h, Bool.true_and]
  · refine Ev.neg (by simp; omega) (Ev.some ?_)
    rw [decide_eq_false h, Bool.false_and]
theorem partsB_len {l : List Int} (h : partsB l = true) : 1 ≤ l.length ∧ l.length ≤ 8 := by
  unfold partsB at h; simp only [Bool.and_eq_true] at h; exact of_decide_eq_true h.1
theorem partsB_get {l : List Int} (h : partsB l = true) (j : Nat) (hj : j < l.length) : 1 ≤ l.getD j 0 ∧ l.getD j 0 ≤ 24 := by
  unfold partsB at h; simp only [Bool.and_eq_true] at h
  have := (allF_iff _).1 h.2 j hj (Nat.zero_le _)
  simp only [risQ, Bool.and_eq_true] at this
  exact of_decide_eq_true this.1
theorem partsB_lt {l : List Int} (h : partsB l = true) (j : Nat) (hj : j + 1 < l.length) : l.getD j 0 < l.getD (j + 1) 0 := by
  unfold partsB at h; simp only [Bool.and_eq_true] at h
  have := (allF_iff _).1 h.2 (j + 1) hj (Nat.zero_le _)
  simp only [risQ, Bool.and_eq_true, Bool.or_eq_true, Nat.add_sub_cancel] at this
  rcases this.2 with e | e
  · exact absurd (of_decide_eq_true e) (by omega)
  · exact of_decide_eq_true e
theorem iParts (l : List Int) (hl : l.length ≤ 35184372088832) : Ev (fun k => impl_partsOk.f k l) (partsB l) := by
  unfold impl_partsOk.f partsB
  by_cases h1 : 1 ≤ l.length
  · by_cases h2 : l.length ≤ 8
    · refine Ev.pos (by omega) (Ev.pos (by omega) (Ev.bind (inc_ev l hl) ?_))
      rw [← rises_inc, decide_eq_true (show 1 ≤ l.length ∧ l.length ≤ 8 from ⟨h1, h2⟩), Bool.true_and]
      simp only [allIn_eq, Option.bind_some]
      cases e : allF (incQ l) l.length 1
      · exact Ev.neg (by decide) (Ev.now _)
      · exact Ev.pos rfl (Ev.now _)
    · refine Ev.pos (by omega) (Ev.neg (by omega) (Ev.some ?_))
      rw [decide_eq_false (by omega), Bool.false_and]
  · refine Ev.neg (by omega) (Ev.some ?_)
    rw [decide_eq_false (by omega), Bool.false_and]
/-- what the parts from j on add to the n-th number -/
def addP (n : Nat) : List Int → List Int → List Int
  | [], B => B
  | p :: ps, B => addP n ps (if p ≤ n then B.set n (wrap64 (B.getD n 0 + B.getD (n - p.toNat) 0)) else B)
theorem addP_length (n : Nat) (ps : List Int) : ∀ B, (addP n ps B).length = B.length := by
  induction ps with
  | nil => intro B; rfl
  | cons p ps ih => intro B; rw [addP, ih]; split <;> simp
/-- the numbers of groupings of 0, 1 .. : after the rounds for n, n + 1, .. n + d - 1 -/
def waysF (ps : List Int) : Nat → Nat → List Int → List Int
  | _, 0, B => B
  | n, d + 1, B => waysF ps (n + 1) d (addP n ps B)
theorem waysF_length (ps : List Int) (d : Nat) : ∀ n B, (waysF ps n d B).length = B.length := by
  induction d with
  | zero => intro n B; rfl
  | succ d ih => intro n B; rw [waysF, ih, addP_length]
/-- the table of all: 25 numbers -/
def ways25 (ps : List Int) : List Int := waysF ps 1 24 ((List.replicate 25 0).set 0 1)
theorem ways25_length (ps : List Int) : (ways25 ps).length = 25 := by rw [ways25, waysF_length]; simp
theorem addP_take (n m : Nat) (hn : n < m) (ps : List Int) (hp : ∀ p ∈ ps, 1 ≤ p) : ∀ B : List Int, addP n ps (B.take m) = (addP n ps B).take m := by
  induction ps with
  | nil => intro B; rfl
  | cons p ps ih =>
    intro B
    have h1 := hp p (by simp)
    rw [addP, addP, ← ih (fun q hq => hp q (by simp [hq]))]
    congr 1
    split
    · rw [List.take_set]
      congr 2
      simp only [List.getD_eq_getElem?_getD, List.getElem?_take, if_pos hn, if_pos (show n - p.toNat < m by omega)]
    · rfl
theorem addP_far (n m : Nat) (hn : m ≤ n) (ps : List Int) : ∀ B : List Int, (addP n ps B).take m = B.take m := by
  induction ps with
  | nil => intro B; rfl
  | cons p ps ih =>
    intro B
    rw [addP, ih]
    split
    · rw [List.take_set_of_le hn]
    · rfl
theorem waysF_far (ps : List Int) (m : Nat) (d : Nat) : ∀ n B, m ≤ n → (waysF ps n d B).take m = B.take m := by
  induction d with
  | zero => intro n B h; rfl
  | succ d ih => intro n B h; rw [waysF, ih _ _ (by omega), addP_far _ _ h]
theorem waysF_take (ps : List Int) (hp : ∀ p ∈ ps, 1 ≤ p) (m : Nat) (d : Nat) : ∀ n B, n + d ≤ m → waysF ps n d (B.take m) = (waysF ps n d B).take m := by
  induction d with
  | zero => intro n B h; rfl
  | succ d ih => intro n B h; rw [waysF, waysF, ← ih _ _ (by omega), addP_take _ _ (by omega) _ hp]
theorem waysF_add (ps : List Int) (d e : Nat) : ∀ n B, waysF ps n (d + e) B = waysF ps (n + d) e (waysF ps n d B) := by
  induction d with
  | zero => intro n B; rw [Nat.zero_add]; rfl
  | succ d ih => intro n B; rw [show d + 1 + e = (d + e) + 1 by omega, waysF, ih, waysF]; congr 1; omega
theorem sWays_l1 (u : Int) (ps : List Int) (hl : ps.length ≤ 8) (hp : ∀ j, j < ps.length → 1 ≤ ps.getD j 0 ∧ ps.getD j 0 ≤ 24) (n : Nat) (hn : n ≤ 24) (r : List Int) (d : Nat) : ∀ (j : Nat) (B : List Int), j + d = ps.length → n < B.length → Ev (fun k => spec_l21Ways.l0 k u ps (addP n (ps.drop j) B) ((n + 1 : Nat) : Int)) r → Ev (fun k => spec_l21Ways.l1 k u ps B n j) r := by
  induction d with
  | zero =>
    intro j B h1 h2 h3
    refine Ev.shift ?_
    simp only [spec_l21Ways.l1]
    refine Ev.neg (by omega) ?_
    rw [List.drop_of_length_le (by omega)] at h3
    rw [wid (by omega)]
    exact h3
  | succ d ih =>
    intro j B h1 h2 h3
    have hj := hp j (by omega)
    have e : ps.drop j = ps.getD j 0 :: ps.drop (j + 1) := by
      rw [List.drop_eq_getElem_cons (by omega), List.getD_eq_getElem?_getD, List.getElem?_eq_getElem (by omega), Option.getD_some]
    rw [e, addP] at h3
    refine Ev.shift ?_
    simp only [spec_l21Ways.l1]
    rw [rd_nat, wid (x := (j : Int) + 1) (by omega), wid (x := (n : Int) - ps.getD j 0) (by omega)]
    refine Ev.pos (by omega) (Ev.pos (by omega) ?_)
    by_cases c : ps.getD j 0 ≤ n
    · rw [if_pos c] at h3
      refine Ev.pos c (Ev.pos (by omega) (Ev.pos (by omega) (Ev.pos (by omega) (Ev.pos (by omega) ?_))))
      rw [Int.toNat_natCast, rd_nat, show (n : Int) - ps.getD j 0 = ((n - (ps.getD j 0).toNat : Nat) : Int) by omega, rd_nat]
      exact ih (j + 1) _ (by omega) (by rw [List.length_set]; exact h2) h3
    · rw [if_neg c] at h3
      refine Ev.neg c ?_
      exact ih (j + 1) _ (by omega) h2 h3
theorem sWays_l0 (u : Nat) (hu : u ≤ 24) (ps : List Int) (hl : ps.length ≤ 8) (hp : ∀ j, j < ps.length → 1 ≤ ps.getD j 0 ∧ ps.getD j 0 ≤ 24) (d : Nat) : ∀ (n : Nat) (B : List Int), n + d = u + 1 → B.length = u + 1 → Ev (fun k => spec_l21Ways.l0 k u ps B n) (waysF ps n d B) := by
  induction d with
  | zero =>
    intro n B h1 h2
    refine Ev.shift ?_
    simp only [spec_l21Ways.l0]
    exact Ev.neg (by omega) (Ev.now _)
  | succ d ih =>
    intro n B h1 h2
    refine Ev.shift ?_
    simp only [spec_l21Ways.l0]
    refine Ev.pos (by omega) ?_
    have h3 := ih (n + 1) (addP n ps B) (by omega) (by rw [addP_length]; exact h2)
    exact sWays_l1 u ps hl hp n (by omega) _ ps.length 0 B (by omega) (by omega) h3
theorem sWays (u : Nat) (hu : u ≤ 24) (ps : List Int) (h : partsB ps = true) : Ev (fun k => spec_l21Ways.f k u ps) ((ways25 ps).take (u + 1)) := by
  have hp := partsB_get h
  have hl := (partsB_len h).2
  have hp' : ∀ p ∈ ps, 1 ≤ p := by
    intro p hpm
    obtain ⟨j, hj, rfl⟩ := List.getElem_of_mem hpm
    have := hp j hj
    rw [List.getD_eq_getElem?_getD, List.getElem?_eq_getElem hj, Option.getD_some] at this
    exact this.1
  unfold spec_l21Ways.f
  rw [wid (by omega)]
  refine Ev.pos (by omega) (Ev.pos (by omega) ?_)
  simp only [Option.bind_some]
  refine Ev.pos (by simp <;> omega) ?_
  have e : (List.replicate ((u : Int) + 1).toNat (0 : Int)).set (0 : Int).toNat 1 = ((List.replicate 25 (0 : Int)).set 0 1).take (u + 1) := by
    rw [List.take_set, List.take_replicate, show ((u : Int) + 1).toNat = u + 1 by omega, show min (u + 1) 25 = u + 1 by omega]; rfl
  rw [e]
  refine Ev.same (sWays_l0 u hu ps hl hp u 1 _ (by omega) (by simp; omega)) ?_
  rw [waysF_take ps hp' _ _ _ _ (by omega), ways25, show (24 : Nat) = u + (24 - u) by omega, waysF_add, waysF_far ps (u + 1) (24 - u) (1 + u) _ (by omega)]
theorem iWays_l1 (ps : List Int) (hl : ps.length ≤ 8) (hp : ∀ j, j < ps.length → 1 ≤ ps.getD j 0 ∧ ps.getD j 0 ≤ 24) (m : Int) (n : Nat) (hn : n ≤ 24) (r : List Int) (d : Nat) : ∀ (j : Nat) (B : List Int), j + d = ps.length → n < B.length → Ev (fun k => impl_groupingCounts.l0 k ps (addP n (ps.drop j) B) m ((n + 1 : Nat) : Int)) r → Ev (fun k => impl_groupingCounts.l1 k ps B n m n ps ps.length j) r := by
  induction d with
  | zero =>
    intro j B h1 h2 h3
    refine Ev.shift ?_
    simp only [impl_groupingCounts.l1]
    refine Ev.neg (by omega) ?_
    rw [List.drop_of_length_le (by omega)] at h3
    rw [wid (by omega)]
    exact h3
  | succ d ih =>
    intro j B h1 h2 h3
    have hj := hp j (by omega)
    have e : ps.drop j = ps.getD j 0 :: ps.drop (j + 1) := by
      rw [List.drop_eq_getElem_cons (by omega), List.getD_eq_getElem?_getD, List.getElem?_eq_getElem (by omega), Option.getD_some]
    rw [e, addP] at h3
    refine Ev.shift ?_
    simp only [impl_groupingCounts.l1]
    rw [rd_nat, wid (x := (j : Int) + 1) (by omega), wid (x := (n : Int) - ps.getD j 0) (by omega)]
    refine Ev.pos (by omega) (Ev.pos (by omega) (Ev.pos (by omega) ?_))
    by_cases c : ps.getD j 0 ≤ n
    · rw [if_pos c] at h3
      refine Ev.pos c (Ev.pos (by omega) (Ev.pos (by omega) (Ev.pos (by omega) (Ev.pos (by omega) ?_))))
      rw [Int.toNat_natCast, rd_nat, show (n : Int) - ps.getD j 0 = ((n - (ps.getD j 0).toNat : Nat) : Int) by omega, rd_nat]
      exact ih (j + 1) _ (by omega) (by rw [List.length_set]; exact h2) h3
    · rw [if_neg c] at h3
      refine Ev.neg c ?_
      exact ih (j + 1) _ (by omega) h2 h3
theorem iWays_l0 (ps : List Int) (hl : ps.length ≤ 8) (hp : ∀ j, j < ps.length → 1 ≤ ps.getD j 0 ∧ ps.getD j 0 ≤ 24) (d : Nat) : ∀ (n : Nat) (B : List Int), n + d = 25 → B.length = 25 → Ev (fun k => impl_groupingCounts.l0 k ps B 25 n) (waysF ps n d B) := by
  induction d with
  | zero =>
    intro n B h1 h2
    refine Ev.shift ?_
    simp only [impl_groupingCounts.l0]
    exact Ev.neg (by omega) (Ev.now _)
  | succ d ih =>
    intro n B h1 h2
    refine Ev.shift ?_
    simp only [impl_groupingCounts.l0]
    refine Ev.pos (by omega) ?_
    have h3 := ih (n + 1) (addP n ps B) (by omega) (by rw [addP_length]; exact h2)
    exact iWays_l1 ps hl hp 25 n (by omega) _ ps.length 0 B (by omega) (by omega) h3
theorem iWays (ps : List Int) (h : partsB ps = true) : Ev (fun k => impl_groupingCounts.f k ps) (ways25 ps) := by
  have hp := partsB_get h
  have hl := (partsB_len h).2
  unfold impl_groupingCounts.f
  refine Ev.pos (by omega) ?_
  simp only [Option.bind_some]
  refine Ev.pos (by simp) ?_
  have h0 : addP 0 ps ((List.replicate 25 (0 : Int)).set (0 : Int).toNat 1) = (List.replicate 25 (0 : Int)).set 0 1 := by
    have : ∀ (qs : List Int), (∀ p ∈ qs, 1 ≤ p) → ∀ B, addP 0 qs B = B := by
      intro qs
      induction qs with
      | nil => intro _ B; rfl
      | cons q qs ih =>
        intro hq B
        have := hq q (by simp)
        rw [addP, ih (fun p hp => hq p (by simp [hp])), if_neg (by omega)]
    refine this ps ?_ _
    intro p hpm
    obtain ⟨j, hj, rfl⟩ := List.getElem_of_mem hpm
    have := hp j hj
    rw [List.getD_eq_getElem?_getD, List.getElem?_eq_getElem hj, Option.getD_some] at this
    exact this.1
  have := iWays_l0 ps hl hp 25 0 ((List.replicate 25 (0 : Int)).set (0 : Int).toNat 1) (by omega) (by simp)
  simp only [List.length_set, List.length_replicate]
  refine Ev.same this ?_
  rw [waysF, h0, ways25]
theorem sHas_l0 (l : List Int) (n : Int) (hl : l.length ≤ 35184372088832) (d : Nat) : ∀ (i : Nat), i + d = l.length → Ev (fun k => spec_l00Has.l0 k l n i) (decide (n ∈ l.drop i)) := by
  induction d with
  | zero =>
    intro i h1
    refine Ev.shift ?_
    simp only [spec_l00Has.l0]
    refine Ev.neg (by omega) (Ev.some ?_)
    rw [List.drop_of_length_le (by omega)]; simp
  | succ d ih =>
    intro i h1
    refine Ev.shift ?_
    simp only [spec_l00Has.l0]
    refine Ev.pos (by omega) (Ev.pos (by omega) ?_)
    rw [rd_get l i (by omega), List.drop_eq_getElem_cons (by omega)]
    by_cases h : l[i] = n
    · exact Ev.pos h (Ev.some (by rw [h]; simp))
    · refine Ev.neg h ?_
      rw [wid (by omega)]
      refine Ev.same (ih (i + 1) (by omega)) ?_
      rw [decide_eq_decide, List.mem_cons]
      exact ⟨fun h2 => Or.inr h2, fun h2 => h2.elim (fun e => absurd e.symm h) id⟩
theorem sHas (l : List Int) (n : Int) (hl : l.length ≤ 35184372088832) : Ev (fun k => spec_l00Has.f k l n) (decide (n ∈ l)) := by
  unfold spec_l00Has.f
  have := sHas_l0 l n hl l.length 0 (by omega)
  simpa using this
/-- rising from above a number on, below a bound -/
def rfP (n : Int) : Int → List Int → Bool
  | _, [] => true
  | last, m :: ms => decide (last + 1 ≤ m ∧ m ≤ n - 1) && rfP n m ms
theorem partsB_rfP {l : List Int} (h : partsB l = true) : rfP 25 0 l = true := by
  have key : ∀ (f : List Int) (last : Int), (∀ j, j < f.length → last < f.getD j 0 ∧ f.getD j 0 ≤ 24) → (∀ j, j + 1 < f.length → f.getD j 0 < f.getD (j + 1) 0) → rfP 25 last f = true := by
    intro f
    induction f with
    | nil => intro last _ _; rfl
    | cons m ms ih =>
      intro last h1 h2
      rw [rfP, Bool.and_eq_true]
      have h0 : last < m ∧ m ≤ 24 := h1 0 (by simp)
      have hlt : ∀ j, j < ms.length → m < ms.getD j 0 := by
        intro j
        induction j with
        | zero => intro hj; exact h2 0 (by simpa using hj)
        | succ j ihj =>
          intro hj
          have a := ihj (by omega)
          have b : ms.getD j 0 < ms.getD (j + 1) 0 := h2 (j + 1) (by simpa using hj)
          omega
      exact ⟨decide_eq_true (by omega), ih m (fun j hj => ⟨hlt j hj, (h1 (j + 1) (by simpa using hj)).2⟩) (fun j hj => h2 (j + 1) (by simpa using hj))⟩
  refine key l 0 (fun j hj => ?_) (fun j hj => partsB_lt h j hj)
  have := partsB_get h j hj
  omega
/-- what the parts add up to -/
def sumP (n : Nat) (B : List Int) : List Int → Int
  | [] => 0
  | p :: ps => (if p ≤ n then B.getD (n - p.toNat) 0 else 0) + sumP n B ps
theorem sumP_bound (n : Nat) (B : List Int) (hB : ∀ j, j < n → 0 ≤ B.getD j 0 ∧ B.getD j 0 ≤ 2 ^ j) (ps : List Int) : ∀ last : Int, 0 ≤ last → rfP 25 last ps = true → 0 ≤ sumP n B ps ∧ sumP n B ps ≤ 2 ^ (n - last.toNat) := by
  induction ps with
  | nil => intro last _ _; simp only [sumP]; exact ⟨by omega, Int.le_of_lt (Int.pow_pos (by omega))⟩
  | cons p ps ih =>
    intro last h0 h
    rw [rfP, Bool.and_eq_true] at h
    have hp := of_decide_eq_true h.1
    have hr := ih p (by omega) h.2
    rw [sumP]
    by_cases c : p ≤ n
    · rw [if_pos c]
      have hb := hB (n - p.toNat) (by omega)
      refine ⟨by omega, ?_⟩
      have e : (2 : Int) ^ (n - p.toNat + 1) = 2 ^ (n - p.toNat) + 2 ^ (n - p.toNat) := by rw [Int.pow_succ]; omega
      have m : (2 : Int) ^ (n - p.toNat + 1) ≤ 2 ^ (n - last.toNat) := by
        have := Nat.pow_le_pow_right (n := 2) (by omega) (show n - p.toNat + 1 ≤ n - last.toNat by omega)
        exact_mod_cast this
      omega
    · rw [if_neg c]
      refine ⟨by omega, ?_⟩
      have m : (2 : Int) ^ (n - p.toNat) ≤ 2 ^ (n - last.toNat) := by
        have := Nat.pow_le_pow_right (n := 2) (by omega) (show n - p.toNat ≤ n - last.toNat by omega)
        exact_mod_cast this
      omega
theorem sumP_congr (n : Nat) (B B' : List Int) (hB : ∀ j, j < n → B.getD j 0 = B'.getD j 0) (ps : List Int) (hp : ∀ p ∈ ps, 1 ≤ p) : sumP n B ps = sumP n B' ps := by
  induction ps with
  | nil => rfl
  | cons p ps ih =>
    have h1 := hp p (by simp)
    rw [sumP, sumP, ih (fun q hq => hp q (by simp [hq]))]
    congr 1
    by_cases c : p ≤ n
    · rw [if_pos c, if_pos c]; exact hB _ (by omega)
    · rw [if_neg c, if_neg c]
theorem getD_set_self (B : List Int) (n : Nat) (v : Int) (h : n < B.length) : (B.set n v).getD n 0 = v := by
  rw [List.getD_eq_getElem?_getD, List.getElem?_set_self h, Option.getD_some]
theorem getD_set_ne (B : List Int) (n j : Nat) (v : Int) (h : n ≠ j) : (B.set n v).getD j 0 = B.getD j 0 := by
  rw [List.getD_eq_getElem?_getD, List.getElem?_set_ne h, ← List.getD_eq_getElem?_getD]
theorem rfP_pos {last : Int} {ps : List Int} (h0 : 0 ≤ last) (h : rfP 25 last ps = true) : ∀ p ∈ ps, 1 ≤ p ∧ p ≤ 24 := by
  induction ps generalizing last with
  | nil => intro p hp; cases hp
  | cons q qs ih =>
    rw [rfP, Bool.and_eq_true] at h
    have hq := of_decide_eq_true h.1
    intro p hp
    rcases List.mem_cons.1 hp with rfl | hp
    · omega
    · exact ih (by omega) h.2 p hp
theorem addP_sum (n : Nat) (hn : n ≤ 24) (ps : List Int) : ∀ (last : Int) (B : List Int), 0 ≤ last → rfP 25 last ps = true → n < B.length → (∀ j, j < n → 0 ≤ B.getD j 0 ∧ B.getD j 0 ≤ 2 ^ j) → 0 ≤ B.getD n 0 → B.getD n 0 + sumP n B ps ≤ 1000000000 →
    addP n ps B = B.set n (B.getD n 0 + sumP n B ps) := by
  induction ps with
  | nil =>
    intro last B _ _ hl _ _ _
    rw [addP, sumP, Int.add_zero]
    refine List.ext_getElem (by simp) (fun i h1 h2 => ?_)
    rw [List.getElem_set]
    split
    · rename_i e; subst e; rw [List.getD_eq_getElem?_getD, List.getElem?_eq_getElem h1, Option.getD_some]
    · rfl
  | cons p ps ih =>
    intro last B h0 h hl hB hs0 hs1
    have hpos := rfP_pos h0 h
    rw [rfP, Bool.and_eq_true] at h
    have hp := of_decide_eq_true h.1
    have hb2 := (sumP_bound n B hB ps p (by omega) h.2).1
    rw [addP, sumP]
    rw [sumP] at hs1
    by_cases c : p ≤ n
    · rw [if_pos c] at hs1 ⊢
      rw [if_pos c]
      have hbp := hB (n - p.toNat) (by omega)
      have hw : wrap64 (B.getD n 0 + B.getD (n - p.toNat) 0) = B.getD n 0 + B.getD (n - p.toNat) 0 := wid (by omega)
      rw [hw]
      have hB' : ∀ j, j < n → (B.set n (B.getD n 0 + B.getD (n - p.toNat) 0)).getD j 0 = B.getD j 0 := fun j hj => getD_set_ne _ _ _ _ (by omega)
      have hsum : sumP n (B.set n (B.getD n 0 + B.getD (n - p.toNat) 0)) ps = sumP n B ps := sumP_congr n _ _ hB' ps (fun q hq => (hpos q (by simp [hq])).1)
      rw [ih p _ (by omega) h.2 (by rw [List.length_set]; exact hl) (fun j hj => by rw [hB' j hj]; exact hB j hj) (by rw [getD_set_self _ _ _ hl]; omega) (by rw [getD_set_self _ _ _ hl, hsum]; omega), getD_set_self _ _ _ hl, hsum, List.set_set]
      congr 1; omega
    · rw [if_neg c] at hs1 ⊢
      rw [if_neg c]
      rw [ih p B (by omega) h.2 hl hB hs0 (by omega)]
      congr 1; omega
theorem pow24 (n : Nat) (h : n ≤ 24) : (2 : Int) ^ n ≤ 16777216 := by
  have h1 := Nat.pow_le_pow_right (n := 2) (by omega) h
  have h2 : (2 : Nat) ^ 24 = 16777216 := by decide
  rw [h2] at h1
  have h3 : ((2 ^ n : Nat) : Int) ≤ ((16777216 : Nat) : Int) := Int.ofNat_le.2 h1
  rw [Int.natCast_pow] at h3
  exact h3
/-- the rounds till n: exact so far, zeros behind -/
theorem waysF_inv (ps : List Int) (h : rfP 25 0 ps = true) (d : Nat) : ∀ (n : Nat) (B : List Int), n + d ≤ 25 → B.length = 25 → B.getD 0 0 = 1 → (∀ j, j < n → 0 ≤ B.getD j 0 ∧ B.getD j 0 ≤ 2 ^ j) → (∀ j, 1 ≤ j → j < n → B.getD j 0 = sumP j B ps) → (∀ j, n ≤ j → j < 25 → B.getD j 0 = 0) → 1 ≤ n →
    (waysF ps n d B).getD 0 0 = 1 ∧ (∀ j, j < n + d → 0 ≤ (waysF ps n d B).getD j 0 ∧ (waysF ps n d B).getD j 0 ≤ 2 ^ j) ∧ (∀ j, 1 ≤ j → j < n + d → (waysF ps n d B).getD j 0 = sumP j (waysF ps n d B) ps) := by
  induction d with
  | zero => intro n B h1 h2 h3 h4 h5 h6 h7; exact ⟨h3, h4, h5⟩
  | succ d ih =>
    intro n B h1 h2 h3 h4 h5 h6 h7
    have hpos := rfP_pos (by omega) h
    have hz := h6 n (by omega) (by omega)
    have hb := sumP_bound n B h4 ps 0 (by omega) h
    rw [show n - (0 : Int).toNat = n from rfl] at hb
    have hb3 : sumP n B ps ≤ 16777216 := Int.le_trans hb.2 (pow24 n (by omega))
    have e := addP_sum n (by omega) ps 0 B (by omega) h (by omega) h4 (by omega) (by rw [hz, Int.zero_add]; clear hb; omega)
    rw [hz, Int.zero_add] at e
    rw [waysF, e, show n + (d + 1) = n + 1 + d by omega]
    have hne : ∀ j, j ≠ n → (B.set n (sumP n B ps)).getD j 0 = B.getD j 0 := fun j hj => getD_set_ne _ _ _ _ (Ne.symm hj)
    have hse : (B.set n (sumP n B ps)).getD n 0 = sumP n B ps := getD_set_self _ _ _ (by omega)
    have hcg : ∀ j, j ≤ n → sumP j (B.set n (sumP n B ps)) ps = sumP j B ps := fun j hj => sumP_congr j _ _ (fun i hi => hne i (by omega)) ps (fun q hq => (hpos q hq).1)
    refine ih (n + 1) _ (by omega) (by rw [List.length_set]; exact h2) (by rw [hne 0 (by omega)]; exact h3) (fun j hj => ?_) (fun j hj1 hj => ?_) (fun j hj hj2 => ?_) (by omega)
    · by_cases c : j = n
      · rw [c, hse]; exact hb
      · rw [hne j c]; exact h4 j (by omega)
    · by_cases c : j = n
      · rw [c, hse, hcg n (by omega)]
      · rw [hne j c, hcg j (by omega)]; exact h5 j hj1 (by omega)
    · rw [hne j (by omega)]; exact h6 j (by omega) hj2
theorem ways25_exact (ps : List Int) (h : partsB ps = true) : (ways25 ps).getD 0 0 = 1 ∧ (∀ j, j ≤ 24 → 0 ≤ (ways25 ps).getD j 0 ∧ (ways25 ps).getD j 0 ≤ 2 ^ j) ∧ (∀ j, 1 ≤ j → j ≤ 24 → (ways25 ps).getD j 0 = sumP j (ways25 ps) ps) := by
  have hz : ∀ j, 1 ≤ j → j < 25 → ((List.replicate 25 (0 : Int)).set 0 1).getD j 0 = 0 := by
    intro j h1 h2
    rw [getD_set_ne _ _ _ _ (by omega), List.getD_eq_getElem?_getD, List.getElem?_replicate, if_pos h2, Option.getD_some]
  obtain ⟨a, b, c⟩ := waysF_inv ps (partsB_rfP h) 24 1 ((List.replicate 25 0).set 0 1) (by omega) (by simp) (getD_set_self _ _ _ (by simp)) (fun j hj => by rw [show j = 0 by omega, getD_set_self _ _ _ (by simp)]; decide) (fun j h1 h2 => by omega) (fun j h1 h2 => hz j h1 h2) (by omega)
  exact ⟨a, fun j hj => b j (by omega), fun j h1 hj => c j h1 (by omega)⟩
theorem ways25_bd (ps : List Int) (h : partsB ps = true) (j : Nat) (hj : j ≤ 24) : 0 ≤ (ways25 ps).getD j 0 ∧ (ways25 ps).getD j 0 ≤ 16777216 := by
  have h1 := (ways25_exact ps h).2.1 j hj
  exact ⟨h1.1, Int.le_trans h1.2 (pow24 j hj)⟩
theorem sumP_le (u : Nat) (hu : u ≤ 24) (ps : List Int) (h : partsB ps = true) (qs : List Int) : (∀ p ∈ qs, 1 ≤ p ∧ p ≤ 24) → 0 ≤ sumP u (ways25 ps) qs ∧ sumP u (ways25 ps) qs ≤ qs.length * 16777216 := by
  induction qs with
  | nil => intro _; simp [sumP]
  | cons q qs ih =>
    intro hq
    have a1 := ih (fun p hp => hq p (by simp [hp]))
    have a2 := hq q (by simp)
    rw [sumP, List.length_cons]
    have a3 : 0 ≤ (if q ≤ (u : Int) then (ways25 ps).getD (u - q.toNat) 0 else 0) ∧ (if q ≤ (u : Int) then (ways25 ps).getD (u - q.toNat) 0 else 0) ≤ 16777216 := by
      split
      · exact ways25_bd ps h _ (by omega)
      · omega
    omega
/-- the sum of a list -/
def sumL : List Int → Int
  | [] => 0
  | x :: l => x + sumL l
def gOk (ps : List Int) : Int → List Int → Bool
  | _, [] => true
  | s, x :: l => decide (x ∈ ps) && (decide (s + x ≤ 24) && gOk ps (s + x) l)
theorem consD (g : List Int) (i : Nat) (h : i < g.length) : g.drop i = g.getD i 0 :: g.drop (i + 1) := by
  rw [List.drop_eq_getElem_cons h, List.getD_eq_getElem?_getD, List.getElem?_eq_getElem h]; rfl
theorem memD (g : List Int) (i : Nat) (h : i < g.length) : g.getD i 0 ∈ g := by
  rw [List.getD_eq_getElem?_getD, List.getElem?_eq_getElem h]; exact List.getElem_mem h
theorem sumL_pos (l : List Int) (h : ∀ x ∈ l, 1 ≤ x) : (l.length : Int) ≤ sumL l := by
  induction l with
  | nil => exact Int.le_refl _
  | cons x l ih =>
    have h1 := h x (by simp)
    have h2 := ih (fun y hy => h y (by simp [hy]))
    rw [sumL, List.length_cons]
    omega
theorem gOk_iff (ps : List Int) (hp : ∀ p ∈ ps, 1 ≤ p ∧ p ≤ 24) (l : List Int) : ∀ s, s ≤ 24 → (gOk ps s l = true ↔ (∀ x ∈ l, x ∈ ps) ∧ s + sumL l ≤ 24) := by
  induction l with
  | nil => intro s h; simp [gOk, sumL, h]
  | cons x l ih =>
    intro s h
    rw [gOk, Bool.and_eq_true, Bool.and_eq_true, decide_eq_true_iff, decide_eq_true_iff, sumL]
    constructor
    · rintro ⟨h1, h2, h3⟩
      obtain ⟨a, b⟩ := (ih (s + x) h2).1 h3
      refine ⟨fun y hy => ?_, by omega⟩
      rcases List.mem_cons.1 hy with e | e
      · rw [e]; exact h1
      · exact a y e
    · rintro ⟨a, b⟩
      have h1 := a x (by simp)
      have h2 := sumL_pos l (fun y hy => (hp y (a y (by simp [hy]))).1)
      have h3 : s + x ≤ 24 := by omega
      exact ⟨h1, h3, (ih (s + x) h3).2 ⟨fun y hy => a y (by simp [hy]), by omega⟩⟩
theorem iHas_l0 (l : List Int) (n : Int) (hl : l.length ≤ 35184372088832) (d : Nat) : ∀ (i : Nat), i + d = l.length → ∃ t : Int, (decide (t ≥ 0) = decide (n ∈ l.drop i)) ∧ Ev (fun k => slices_Index_int64_int64.l0 k l n (l.length : Int) i) t := by
  induction d with
  | zero =>
    intro i h1
    refine ⟨-1, by rw [List.drop_of_length_le (by omega)]; simp, Ev.shift ?_⟩
    simp only [slices_Index_int64_int64.l0]
    exact Ev.neg (by omega) (Ev.now _)
  | succ d ih =>
    intro i h1
    have p1 : (i : Int) < (l.length : Int) := by omega
    rw [consD l i (by omega)]
    by_cases h : n = l.getD i 0
    · refine ⟨i, by rw [decide_eq_decide, List.mem_cons]; exact ⟨fun _ => Or.inl h, fun _ => Int.natCast_nonneg _⟩, Ev.shift ?_⟩
      simp only [slices_Index_int64_int64.l0, rd_nat]
      exact Ev.pos p1 (Ev.pos (Int.natCast_nonneg _) (Ev.pos p1 (Ev.pos h (Ev.now _))))
    · obtain ⟨t, a, b⟩ := ih (i + 1) (by omega)
      refine ⟨t, by rw [a, decide_eq_decide, List.mem_cons]; exact ⟨fun h2 => Or.inr h2, fun h2 => h2.elim (fun e => absurd e h) id⟩, Ev.shift ?_⟩
      have w1 : wrap64 ((i : Int) + 1) = ((i + 1 : Nat) : Int) := by rw [wid (by omega)]; rfl
      simp only [slices_Index_int64_int64.l0, rd_nat, w1]
      exact Ev.pos p1 (Ev.pos (Int.natCast_nonneg _) (Ev.pos p1 (Ev.neg h b)))
theorem iHas (l : List Int) (n : Int) (hl : l.length ≤ 35184372088832) : Ev (fun k => slices_Contains_int64_int64.f k l n) (decide (n ∈ l)) := by
  obtain ⟨t, a, b⟩ := iHas_l0 l n hl l.length 0 (by omega)
  unfold slices_Contains_int64_int64.f
  refine Ev.bind b (Ev.same (Ev.now _) ?_)
  rw [a]; rfl
theorem sSum_l0 (g : List Int) (hg : g.length ≤ 24) (hx : ∀ x ∈ g, 1 ≤ x ∧ x ≤ 24) (d : Nat) : ∀ (i : Nat) (s : Int), i + d = g.length → 0 ≤ s ∧ s ≤ 24 * i → Ev (fun k => spec_l17Sum.l0 k g s i) (s + sumL (g.drop i)) := by
  induction d with
  | zero =>
    intro i s h1 h2
    refine Ev.shift ?_
    simp only [spec_l17Sum.l0]
    rw [List.drop_of_length_le (by omega), sumL, Int.add_zero]
    exact Ev.neg (by omega) (Ev.now _)
  | succ d ih =>
    intro i s h1 h2
    have h3 := hx _ (memD g i (by omega))
    have p1 : (i : Int) < (g.length : Int) := by omega
    have w1 := Aside0.mk (show wrap64 ((i : Int) + 1) = ((i + 1 : Nat) : Int) from by rw [wid (by omega)]; rfl)
    have w2 := Aside0.mk (show wrap64 (s + g.getD i 0) = s + g.getD i 0 from wid (by omega))
    have hr := ih (i + 1) (s + g.getD i 0) (by omega) (by omega)
    refine Ev.shift ?_
    simp only [spec_l17Sum.l0, rd_nat, w1.out, w2.out]
    rw [consD g i (by omega), sumL, ← Int.add_assoc]
    exact Ev.pos p1 (Ev.pos (Int.natCast_nonneg _) hr)
theorem sSum (g : List Int) (hg : g.length ≤ 24) (hx : ∀ x ∈ g, 1 ≤ x ∧ x ≤ 24) : Ev (fun k => spec_l17Sum.f k g) (sumL g) := by
  have := sSum_l0 g hg hx g.length 0 0 (by omega) (by omega)
  rw [List.drop_zero, Int.zero_add] at this
  exact this
theorem sGroup_l0 (ps g : List Int) (hp : ∀ p ∈ ps, 1 ≤ p ∧ p ≤ 24) (hl : ps.length ≤ 8) (hg : g.length ≤ 35184372088832) (d : Nat) : ∀ (i : Nat), i + d = g.length → (∀ x ∈ g.take i, x ∈ ps) → Ev (fun k => spec_l21Grouping.l0 k ps g i) (gOk ps 0 g) := by
  induction d with
  | zero =>
    intro i h1 h2
    rw [List.take_of_length_le (by omega)] at h2
    have h3 := gOk_iff ps hp g 0 (by omega)
    have h4 := sumL_pos g (fun x hx => (hp x (h2 x hx)).1)
    refine Ev.shift ?_
    simp only [spec_l21Grouping.l0, spec_l21Units.f, in_eq, Option.bind_some]
    refine Ev.neg (by omega) ?_
    by_cases h : g.length ≤ 24
    · refine Ev.pos (by omega) (Ev.bind (sSum g h (fun x hx => hp x (h2 x hx))) (Ev.same (Ev.now _) ?_))
      rw [Bool.eq_iff_iff, h3, decide_eq_true_iff]
      exact ⟨fun a => ⟨h2, by omega⟩, fun a => by omega⟩
    · refine Ev.neg (by omega) (Ev.same (Ev.now _) ?_)
      cases hq : gOk ps 0 g with
      | false => rfl
      | true => have := (h3.1 hq).2; omega
  | succ d ih =>
    intro i h1 h2
    have p1 : (i : Int) < (g.length : Int) := by omega
    have w1 : wrap64 ((i : Int) + 1) = ((i + 1 : Nat) : Int) := by rw [wid (by omega)]; rfl
    have hs := sHas ps (g.getD i 0) (by omega)
    refine Ev.shift ?_
    simp only [spec_l21Grouping.l0, rd_nat, w1]
    refine Ev.pos p1 (Ev.pos (Int.natCast_nonneg _) (Ev.bind hs ?_))
    by_cases h : g.getD i 0 ∈ ps
    · refine Ev.pos (decide_eq_true h) (ih (i + 1) (by omega) (fun x hx => ?_))
      rw [List.take_add_one, List.getElem?_eq_getElem (by omega)] at hx
      rcases List.mem_append.1 hx with e | e
      · exact h2 x e
      · rw [List.getD_eq_getElem?_getD, List.getElem?_eq_getElem (by omega)] at h
        simp at e
        rw [e]; exact h
    · refine Ev.neg (by rw [decide_eq_true_iff]; exact h) (Ev.same (Ev.now _) ?_)
      cases hq : gOk ps 0 g with
      | false => rfl
      | true => exact absurd (((gOk_iff ps hp g 0 (by omega)).1 hq).1 _ (memD g i (by omega))) h
theorem iGroup_l0 (ps g : List Int) (hp : ∀ p ∈ ps, 1 ≤ p ∧ p ≤ 24) (hl : ps.length ≤ 8) (hg : g.length ≤ 35184372088832) (T : Int) (R : Int × Int) (hN : Ev (fun k => (impl_groupingCounts.f k ps).bind fun t => impl_GroupingNumber.l1 k ps T t 0 g (g.length : Int) 0) R) (d : Nat) :
    ∀ (i : Nat) (s : Int), i + d = g.length → 0 ≤ s ∧ s ≤ 24 → (gOk ps s (g.drop i) = true → s + sumL (g.drop i) = T) → Ev (fun k => impl_GroupingNumber.l0 k ps g s g (g.length : Int) i) (if gOk ps s (g.drop i) = true then R else (0, 6)) := by
  induction d with
  | zero =>
    intro i s h1 h2 h3
    rw [List.drop_of_length_le (by omega)] at h3 ⊢
    have e := h3 rfl
    rw [sumL, Int.add_zero] at e
    subst e
    refine Ev.shift ?_
    simp only [impl_GroupingNumber.l0]
    rw [gOk, if_pos rfl]
    exact Ev.neg (by omega) hN
  | succ d ih =>
    intro i s h1 h2 h3
    have p1 : (i : Int) < (g.length : Int) := by omega
    have w1 := Aside0.mk (show wrap64 ((i : Int) + 1) = ((i + 1 : Nat) : Int) from by rw [wid (by omega)]; rfl)
    have hs := iHas ps (g.getD i 0) (by omega)
    rw [consD g i (by omega), gOk] at h3 ⊢
    refine Ev.shift ?_
    simp only [impl_GroupingNumber.l0, rd_nat, w1.out]
    refine Ev.pos p1 (Ev.pos (Int.natCast_nonneg _) (Ev.pos p1 (Ev.bind hs ?_)))
    by_cases h : g.getD i 0 ∈ ps
    · have hb := hp _ h
      have w2 := Aside0.mk (show wrap64 (s + g.getD i 0) = s + g.getD i 0 from wid (by omega))
      refine Ev.pos (decide_eq_true h) ?_
      rw [w2.out]
      rw [decide_eq_true h, Bool.true_and] at h3 ⊢
      by_cases h4 : s + g.getD i 0 ≤ 24
      · rw [decide_eq_true h4, Bool.true_and] at h3 ⊢
        refine Ev.neg (by omega) (ih (i + 1) (s + g.getD i 0) (by omega) (by omega) (fun q => ?_))
        have := h3 q
        rw [sumL] at this
        omega
      · rw [decide_eq_false h4, Bool.false_and, if_neg (by decide)]
        exact Ev.pos (by omega) (Ev.now _)
    · rw [decide_eq_false h, Bool.false_and, if_neg (by decide)]
      exact Ev.neg (by decide) (Ev.now _)
theorem gn_inner (ps g : List Int) (hp : partsB ps = true) (hg : g.length ≤ 24) (T u i : Nat) (hT : T ≤ 24) (hu : u ≤ T) (hi : i < g.length) (hx : 1 ≤ g.getD i 0 ∧ g.getD i 0 ≤ u)
    (IH : ∀ num : Int, ∃ r : Int × Int, Ev (fun k => spec_GroupingNumber.l0 k ps g ((u - (g.getD i 0).toNat : Nat) : Int) ((ways25 ps).take (T + 1)) num ((i + 1 : Nat) : Int)) r ∧ Ev (fun k => impl_GroupingNumber.l1 k ps ((u - (g.getD i 0).toNat : Nat) : Int) (ways25 ps) num g (g.length : Int) ((i + 1 : Nat) : Int)) r) (d : Nat) :
    ∀ (j : Nat) (num : Int), j + d = ps.length → ∃ r : Int × Int, Ev (fun k => spec_GroupingNumber.l1 k ps g u ((ways25 ps).take (T + 1)) num i j) r ∧ Ev (fun k => impl_GroupingNumber.l2 k ps u (ways25 ps) num (g.getD i 0) g (g.length : Int) i ps (ps.length : Int) j) r := by
  have hl := (partsB_len hp).2
  have hWl := ways25_length ps
  have w0 := Aside0.mk (show wrap64 ((u : Int) - g.getD i 0) = ((u - (g.getD i 0).toNat : Nat) : Int) from by rw [wid (by omega)]; omega)
  have wi := Aside0.mk (show wrap64 ((i : Int) + 1) = ((i + 1 : Nat) : Int) from by rw [wid (by omega)]; rfl)
  have pi : (i : Int) < (g.length : Int) := by omega
  induction d with
  | zero =>
    intro j num h1
    obtain ⟨r, x, y⟩ := IH num
    refine ⟨r, Ev.shift ?_, Ev.shift ?_⟩
    · simp only [spec_GroupingNumber.l1, rd_nat, w0.out, wi.out]
      exact Ev.neg (by omega) (Ev.pos (Int.natCast_nonneg _) (Ev.pos pi x))
    · simp only [impl_GroupingNumber.l2, w0.out, wi.out]
      exact Ev.neg (by omega) y
  | succ d ih =>
    intro j num h1
    have hq := partsB_get hp j (by omega)
    have w1 := Aside0.mk (show wrap64 ((j : Int) + 1) = ((j + 1 : Nat) : Int) from by rw [wid (by omega)]; rfl)
    have pj : (j : Int) < (ps.length : Int) := by omega
    by_cases c : ps.getD j 0 < g.getD i 0
    · have w2 := Aside0.mk (show wrap64 ((u : Int) - ps.getD j 0) = ((u - (ps.getD j 0).toNat : Nat) : Int) from by rw [wid (by omega)]; omega)
      have rt := Aside0.mk (show ((ways25 ps).take (T + 1)).getD (u - (ps.getD j 0).toNat) 0 = (ways25 ps).getD (u - (ps.getD j 0).toNat) 0 from by
        rw [List.getD_eq_getElem?_getD, List.getElem?_take, if_pos (by omega), ← List.getD_eq_getElem?_getD])
      obtain ⟨r, x, y⟩ := ih (j + 1) (wrap64 (num + (ways25 ps).getD (u - (ps.getD j 0).toNat) 0)) (by omega)
      refine ⟨r, Ev.shift ?_, Ev.shift ?_⟩
      · simp only [spec_GroupingNumber.l1, rd_nat, w1.out, w2.out, rt.out]
        refine Ev.pos pj (Ev.pos (Int.natCast_nonneg _) (Ev.pos (Int.natCast_nonneg _) (Ev.pos pi (Ev.pos c (Ev.pos (Int.natCast_nonneg _) (Ev.pos ?_ x))))))
        rw [List.length_take, hWl]; omega
      · simp only [impl_GroupingNumber.l2, rd_nat, w1.out, w2.out]
        refine Ev.pos pj (Ev.pos (Int.natCast_nonneg _) (Ev.pos pj (Ev.pos c (Ev.pos (by omega) (Ev.pos (Int.natCast_nonneg _) (Ev.pos ?_ y))))))
        rw [hWl]; omega
    · obtain ⟨r, x, y⟩ := ih (j + 1) num (by omega)
      refine ⟨r, Ev.shift ?_, Ev.shift ?_⟩
      · simp only [spec_GroupingNumber.l1, rd_nat, w1.out]
        exact Ev.pos pj (Ev.pos (Int.natCast_nonneg _) (Ev.pos (Int.natCast_nonneg _) (Ev.pos pi (Ev.neg c x))))
      · simp only [impl_GroupingNumber.l2, rd_nat, w1.out]
        exact Ev.pos pj (Ev.pos (Int.natCast_nonneg _) (Ev.pos pj (Ev.neg c y)))
theorem gn_outer (ps g : List Int) (hp : partsB ps = true) (hg : g.length ≤ 24) (hx : ∀ x ∈ g, 1 ≤ x ∧ x ≤ 24) (T : Nat) (hT : T ≤ 24) (d : Nat) :
    ∀ (i u : Nat) (num : Int), i + d = g.length → (u : Int) = sumL (g.drop i) → u ≤ T → ∃ r : Int × Int, Ev (fun k => spec_GroupingNumber.l0 k ps g u ((ways25 ps).take (T + 1)) num i) r ∧ Ev (fun k => impl_GroupingNumber.l1 k ps u (ways25 ps) num g (g.length : Int) i) r := by
  induction d with
  | zero =>
    intro i u num h1 h2 h3
    refine ⟨(num, 0), Ev.shift ?_, Ev.shift ?_⟩
    · simp only [spec_GroupingNumber.l0]
      exact Ev.neg (by omega) (Ev.now _)
    · simp only [impl_GroupingNumber.l1]
      exact Ev.neg (by omega) (Ev.now _)
  | succ d ih =>
    intro i u num h1 h2 h3
    have pi : (i : Int) < (g.length : Int) := by omega
    have hb := hx _ (memD g i (by omega))
    have hs := sumL_pos (g.drop (i + 1)) (fun x h => (hx x (List.mem_of_mem_drop h)).1)
    rw [consD g i (by omega), sumL] at h2
    obtain ⟨r, x, y⟩ := gn_inner ps g hp hg T u i hT h3 (by omega) (by omega) (fun num => ih (i + 1) (u - (g.getD i 0).toNat) num (by omega) (by omega) (by omega)) ps.length 0 num (by omega)
    refine ⟨r, Ev.shift ?_, Ev.shift ?_⟩
    · simp only [spec_GroupingNumber.l0]
      exact Ev.pos pi x
    · simp only [impl_GroupingNumber.l1, rd_nat]
      exact Ev.pos pi (Ev.pos (Int.natCast_nonneg _) (Ev.pos pi y))
theorem partsB_mem {ps : List Int} (h : partsB ps = true) : ∀ p ∈ ps, 1 ≤ p ∧ p ≤ 24 := by
  intro p hp
  obtain ⟨j, hj, rfl⟩ := List.getElem_of_mem hp
  have := partsB_get h j hj
  rwa [List.getD_eq_getElem?_getD, List.getElem?_eq_getElem hj] at this
theorem groupingNumber (ps g : List Int) (h0 : ps.length ≤ 35184372088832) (h1 : g.length ≤ 35184372088832) : ∃ r, Ev (fun k => spec_GroupingNumber.f k ps g) r ∧ Ev (fun k => impl_GroupingNumber.f k ps g) r := by
  unfold spec_GroupingNumber.f impl_GroupingNumber.f
  have hS := sParts ps h0
  have hI := iParts ps h0
  cases hp : partsB ps with
  | false =>
    rw [hp] at hS hI
    exact ⟨(0, 7), Ev.bind hS (Ev.neg (by decide) (Ev.now _)), Ev.bind hI (Ev.neg (by decide) (Ev.now _))⟩
  | true =>
    rw [hp] at hS hI
    have hm := partsB_mem hp
    have hl := (partsB_len hp).2
    have hG := sGroup_l0 ps g hm hl h1 g.length 0 (by omega) (fun x hx => by simp at hx)
    cases hq : gOk ps 0 g with
    | false =>
      rw [hq] at hG
      have hN : ∃ R, Ev (fun k => (impl_groupingCounts.f k ps).bind fun t => impl_GroupingNumber.l1 k ps 0 t 0 ([] : List Int) (([] : List Int).length : Int) 0) R := ⟨(0, 0), Ev.bind (iWays ps hp) (by
        refine Ev.shift ?_
        simp only [impl_GroupingNumber.l1]
        exact Ev.neg (by simp) (Ev.now _))⟩
      refine ⟨(0, 6), Ev.bind hS (Ev.pos rfl (Ev.bind hG (Ev.neg (by decide) (Ev.now _)))), Ev.bind hI (Ev.pos rfl ?_)⟩
      have key : ∀ (d : Nat) (i : Nat) (s : Int), i + d = g.length → 0 ≤ s ∧ s ≤ 24 → gOk ps s (g.drop i) = false → Ev (fun k => impl_GroupingNumber.l0 k ps g s g (g.length : Int) i) ((0 : Int), (6 : Int)) := by
        intro d
        induction d with
        | zero =>
          intro i s a1 a2 a3
          rw [List.drop_of_length_le (by omega)] at a3
          cases a3
        | succ d ih =>
          intro i s a1 a2 a3
          have p1 : (i : Int) < (g.length : Int) := by omega
          have w1 := Aside0.mk (show wrap64 ((i : Int) + 1) = ((i + 1 : Nat) : Int) from by rw [wid (by omega)]; rfl)
          have hs := iHas ps (g.getD i 0) (by omega)
          rw [consD g i (by omega), gOk] at a3
          refine Ev.shift ?_
          simp only [impl_GroupingNumber.l0, rd_nat, w1.out]
          refine Ev.pos p1 (Ev.pos (Int.natCast_nonneg _) (Ev.pos p1 (Ev.bind hs ?_)))
          by_cases h : g.getD i 0 ∈ ps
          · have hb := hm _ h
            have w2 := Aside0.mk (show wrap64 (s + g.getD i 0) = s + g.getD i 0 from wid (by omega))
            refine Ev.pos (decide_eq_true h) ?_
            rw [w2.out]
            rw [decide_eq_true h, Bool.true_and] at a3
            by_cases h4 : s + g.getD i 0 ≤ 24
            · rw [decide_eq_true h4, Bool.true_and] at a3
              exact Ev.neg (by omega) (ih (i + 1) (s + g.getD i 0) (by omega) (by omega) a3)
            · exact Ev.pos (by omega) (Ev.now _)
          · exact Ev.neg (by rw [decide_eq_true_iff]; exact h) (Ev.now _)
      exact key g.length 0 0 (by omega) (by omega) (by rw [List.drop_zero]; exact hq)
    | true =>
      rw [hq] at hG
      obtain ⟨a, b⟩ := (gOk_iff ps hm g 0 (by omega)).1 hq
      have hx : ∀ x ∈ g, 1 ≤ x ∧ x ≤ 24 := fun x h => hm x (a x h)
      have hpos := sumL_pos g (fun x h => (hx x h).1)
      have hg : g.length ≤ 24 := by omega
      obtain ⟨T, hT⟩ := Int.eq_ofNat_of_zero_le (show 0 ≤ sumL g by omega)
      have hsum := sSum g hg hx
      rw [hT] at hsum
      obtain ⟨r, x, y⟩ := gn_outer ps g hp hg hx T (by omega) g.length 0 T 0 (by omega) (by rw [List.drop_zero]; exact hT.symm) (Nat.le_refl _)
      have hi := iGroup_l0 ps g hm hl h1 T r (Ev.bind (iWays ps hp) y) g.length 0 0 (by omega) (by omega) (fun _ => by rw [List.drop_zero]; omega)
      rw [List.drop_zero, hq, if_pos rfl] at hi
      exact ⟨r, Ev.bind hS (Ev.pos rfl (Ev.bind hG (Ev.pos rfl (Ev.bind hsum (Ev.bind (sWays T (by omega) ps hp) x))))), Ev.bind hI (Ev.pos rfl hi)⟩
theorem FnExactGroupingNumber : laws_FnExactGroupingNumber.Pure := by
  intro l g _ _ _ _ _ _
  refine Ev.rounds (g := fun k => laws_FnExactGroupingNumber.f k l g) ?_
  unfold laws_FnExactGroupingNumber.f
  by_cases hl : (l.length : Int) > 1048576
  · exact Ev.pos hl (Ev.now _)
  refine Ev.neg hl ?_
  by_cases hg : (g.length : Int) > 1048576
  · exact Ev.pos hg (Ev.now _)
  refine Ev.neg hg ?_
  have hl' : l.length ≤ 35184372088832 := by omega
  have hg' : g.length ≤ 35184372088832 := by omega
  obtain ⟨⟨r, c⟩, hS, hI⟩ := groupingNumber l g hl' hg'
  repeat (first | exact Ev.now _ | refine Ev.bind hS ?_ | refine Ev.bind hI ?_ | refine Ev.bind (toI _ (by assumption)) ?_ | refine Ev.bind (eqI _ (by assumption)) ?_ | refine Ev.pos (by with_reducible rfl) ?_ | refine Ev.neg (by omega) ?_ | refine Ev.neg (by simp; done) ?_ | refine Ev.pos (by omega) ?_ | (refine Ev.shift ?_; simp only [laws_FnExactGroupingNumber.j0]))

end Go.Proofs.Ytmkjjjpffakfiaa.Pure
