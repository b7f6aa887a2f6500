/- The pure statement of the law FnExactCommonGap: what the Go functions compute, told by plain Lean functions, is what the law asks, for all arguments. No condition beyond the printed ones. -/
import Derived.Test.YtapjnnaaflinlaaPFnExactCommonGapx4
import Derived.Test.YtapjnnaaflinlaaXW
namespace Go.Proofs.Ytapjnnaaflinlaa.Pure
open Go.RowKit Go.Proofs.Ytapjnnaaflinlaa.PFnExactCommonGap Go.Proofs.YtapjnnaaflinlaaW.PrintWords Go.Proofs.YtapjnnaaflinlaaW.PrintLast Go.Proofs.YtapjnnaaflinlaaW.PrintMore Go.Proofs.YtapjnnaaflinlaaXW
set_option linter.unusedVariables false
set_option linter.unusedSimpArgs false
theorem toI_l0 (l : List Int) (hl : l.length ≤ 35184372088832) (d : Nat) : ∀ (i : Nat) (acc : List Int), i + d = l.length → acc.length = l.length → acc.take i = l.take i → Ev (fun k => laws_toInt64S.l0 k l acc i) l := by
  induction d with
  | zero =>
    intro i acc h1 h2 h3
    refine Ev.shift ?_
    simp only [laws_toInt64S.l0]
    refine Ev.neg (by omega) ?_
    refine Ev.some ?_
    rw [List.take_of_length_le (by omega), List.take_of_length_le (by omega)] at h3
    rw [h3]
  | succ d ih =>
    intro i acc h1 h2 h3
    refine Ev.shift ?_
    simp only [laws_toInt64S.l0]
    refine Ev.pos (by omega) (Ev.pos (by omega) (Ev.pos (by omega) ?_))
    rw [wid (by omega), rd_get l i (by omega), Int.toNat_natCast]
    refine ih (i + 1) (acc.set i l[i]) (by omega) (by rw [List.length_set, h2]) ?_
    rw [List.take_succ_eq_append_getElem (by rw [List.length_set]; omega), List.take_succ_eq_append_getElem (by omega), List.take_set_of_le (by omega), List.getElem_set_self, h3]
theorem toI (l : List Int) (hl : l.length ≤ 35184372088832) : Ev (fun k => laws_toInt64S.f k l) l := by
  unfold laws_toInt64S.f
  refine Ev.pos (by omega) (Ev.pos (by omega) ?_)
  rw [Int.toNat_natCast]
  exact toI_l0 l hl l.length 0 _ (by omega) (by simp) (by simp)
theorem eqI_l0 (l : List Int) (hl : l.length ≤ 35184372088832) (d : Nat) : ∀ (i : Nat), i + d = l.length → Ev (fun k => laws_eqInt64S.l0 k l l i) true := by
  induction d with
  | zero =>
    intro i h1
    refine Ev.shift ?_
    simp only [laws_eqInt64S.l0]
    exact Ev.neg (by omega) (Ev.now _)
  | succ d ih =>
    intro i h1
    refine Ev.shift ?_
    simp only [laws_eqInt64S.l0]
    refine Ev.pos (by omega) (Ev.pos (by omega) (Ev.pos (by omega) (Ev.pos (by trivial) ?_)))
    rw [wid (by omega)]
    exact ih (i + 1) (by omega)
theorem eqI (l : List Int) (hl : l.length ≤ 35184372088832) : Ev (fun k => laws_eqInt64S.f k l l) true := by
  unfold laws_eqInt64S.f
  exact Ev.pos rfl (eqI_l0 l hl l.length 0 (by omega))
theorem in_eq (a b c : Int) : spec_l00In.f a b c = some (decide (b ≤ a ∧ a ≤ c)) := by
  unfold spec_l00In.f; split <;> simp_all; omega
theorem within_eq (a b c : Int) : impl_within.f a b c = some (decide (b ≤ a ∧ a ≤ c)) := by
  unfold impl_within.f; split <;> simp_all; omega
theorem allIn_eq (l : List Int) (a b : Int) : impl_allWithin.f l a b = some (l.all fun x => decide (a ≤ x ∧ x ≤ b)) := by
  unfold impl_allWithin.f
  rw [List.not_any_eq_all_not]
  congr 2
  funext x
  simp [allP]
def risQ (l : List Int) (lo hi : Int) (j : Nat) : Bool := decide (lo ≤ l.getD j 0 ∧ l.getD j 0 ≤ hi) && (decide (j = 0) || decide (l.getD (j - 1) 0 < l.getD j 0))
theorem rises_l0 (l : List Int) (lo hi : Int) (hl : l.length ≤ 35184372088832) (d : Nat) : ∀ (i : Nat), i + d = l.length → Ev (fun k => spec_l00Rises.l0 k l lo hi i) (allF (risQ l lo hi) l.length i) := by
  induction d with
  | zero =>
    intro i h1
    refine Ev.shift ?_
    simp only [spec_l00Rises.l0]
    exact Ev.neg (by omega) (Ev.some (by rw [allF_end _ (by omega)]))
  | succ d ih =>
    intro i h1
    refine Ev.shift ?_
    simp only [spec_l00Rises.l0, in_eq, Option.bind_some]
    refine Ev.pos (by omega) (Ev.pos (by omega) ?_)
    rw [rd_nat]
    by_cases hb : lo ≤ l.getD i 0 ∧ l.getD i 0 ≤ hi
    · refine Ev.pos (by simpa using hb) ?_
      cases i with
      | zero =>
        refine Ev.neg (by omega) ?_
        rw [wid (by omega), allF_yes _ (by simp only [risQ]; simp; exact hb)]
        exact ih 1 (by omega)
      | succ i =>
        refine Ev.pos (by omega) ?_
        have e1 : wrap64 (((i + 1 : Nat) : Int) - 1) = (i : Int) := by rw [wid (by omega)]; omega
        rw [e1, rd_nat]
        refine Ev.pos (by omega) (Ev.pos (by omega) ?_)
        by_cases hc : l.getD i 0 < l.getD (i + 1) 0
        · refine Ev.neg (by omega) ?_
          rw [wid (by omega), allF_yes _ (by simp only [risQ]; simp; exact ⟨hb, hc⟩)]
          exact ih (i + 2) (by omega)
        · refine Ev.pos (by omega) (Ev.some ?_)
          rw [allF_no _ (by omega) (by simp only [risQ, Nat.add_sub_cancel, decide_eq_false hc]; simp)]
    · refine Ev.neg (by simpa using hb) (Ev.some ?_)
      rw [allF_no _ (by omega) (by simp only [risQ]; rw [decide_eq_false hb]; rfl)]
theorem rises_ev (l : List Int) (lo hi : Int) (hl : l.length ≤ 35184372088832) : Ev (fun k => spec_l00Rises.f k l lo hi) (allF (risQ l lo hi) l.length 0) := by
  unfold spec_l00Rises.f
  exact rises_l0 l lo hi hl l.length 0 (by omega)
def incQ (l : List Int) (j : Nat) : Bool := decide (l.getD (j - 1) 0 < l.getD j 0)
theorem inc_l0 (l : List Int) (hl : l.length ≤ 35184372088832) (d : Nat) : ∀ (i : Nat), 1 ≤ i → l.length ≤ i + d → Ev (fun k => impl_increasing.l0 k l i) (allF (incQ l) l.length i) := by
  induction d with
  | zero =>
    intro i h0 h1
    refine Ev.shift ?_
    simp only [impl_increasing.l0]
    exact Ev.neg (by omega) (Ev.some (by rw [allF_end _ (by omega)]))
  | succ d ih =>
    intro i h0 h1
    by_cases hi : i < l.length
    · refine Ev.shift ?_
      simp only [impl_increasing.l0]
      have e1 : wrap64 ((i : Int) - 1) = ((i - 1 : Nat) : Int) := by rw [wid (by omega)]; omega
      rw [e1, rd_nat, rd_nat]
      refine Ev.pos (by omega) (Ev.pos (by omega) (Ev.pos (by omega) (Ev.pos (by omega) ?_)))
      by_cases hc : l.getD (i - 1) 0 < l.getD i 0
      · refine Ev.neg (by omega) ?_
        rw [wid (by omega), allF_yes _ (by simp only [incQ]; simpa using hc)]
        exact ih (i + 1) (by omega) (by omega)
      · refine Ev.pos (by omega) (Ev.some ?_)
        rw [allF_no _ (by omega) (by simp only [incQ]; simpa using hc)]
    · refine Ev.shift ?_
      simp only [impl_increasing.l0]
      exact Ev.neg (by omega) (Ev.some (by rw [allF_end _ (by omega)]))
theorem inc_ev (l : List Int) (hl : l.length ≤ 35184372088832) : Ev (fun k => impl_increasing.f k l) (allF (incQ l) l.length 1) := by
  unfold impl_increasing.f
  exact inc_l0 l hl l.length 1 (by omega) (by omega)
/-- The one test is the two others. -/
theorem rises_inc (l : List Int) (lo hi : Int) : (allF (incQ l) l.length 1 && l.all fun x => decide (lo ≤ x ∧ x ≤ hi)) = allF (risQ l lo hi) l.length 0 := by
  rw [Bool.eq_iff_iff, Bool.and_eq_true, allF_iff, allF_iff, all_iff_get]
  constructor
  · rintro ⟨h1, h2⟩ j hj _
    simp only [risQ, Bool.and_eq_true, Bool.or_eq_true]
    refine ⟨h2 j hj, ?_⟩
    by_cases e : j = 0
    · left; simpa using e
    · right; exact h1 j hj (by omega)
  · intro h
    refine ⟨fun j hj h1 => ?_, fun j hj => ?_⟩
    · have := h j hj (by omega)
      simp only [risQ, Bool.and_eq_true, Bool.or_eq_true] at this
      rcases this.2 with e | e
      · simp at e; omega
      · exact e
    · have := h j hj (by omega)
      simp only [risQ, Bool.and_eq_true] at this
      exact this.1
def onsetsB (l : List Int) : Bool := decide (l.length ≤ 48) && allF (risQ l 0 10000000) l.length 0
theorem sOnsets (l : List Int) (hl : l.length ≤ 35184372088832) : Ev (fun k => spec_l24Ok.f k l) (onsetsB l) := by
  unfold spec_l24Ok.f onsetsB
  by_cases h : l.length ≤ 48
  · refine Ev.pos (by omega) (Ev.bind (rises_ev l _ _ hl) (Ev.some ?_))
    simp [h]
  · refine Ev.neg (by omega) (Ev.some ?_)
    simp [h]
theorem iOnsets (l : List Int) (hl : l.length ≤ 35184372088832) : Ev (fun k => impl_ValidOnsets.f k l) (onsetsB l) := by
  unfold impl_ValidOnsets.f onsetsB
  by_cases h : l.length ≤ 48
  · refine Ev.pos (by omega) (Ev.bind (inc_ev l hl) ?_)
    rw [← rises_inc]
    simp only [allIn_eq, Option.bind_some, h, decide_true, Bool.true_and]
    cases e : allF (incQ l) l.length 1
    · exact Ev.neg (by decide) (Ev.now _)
    · exact Ev.pos rfl (Ev.now _)
  · refine Ev.neg (by omega) (Ev.some ?_)
    simp [h]
theorem mx_abs (a : Int) (h : -9223372036854775807 ≤ a ∧ a ≤ 9223372036854775807) : mx a (wrap64 (-a)) = (a.natAbs : Int) := by
  rw [wid (by omega)]; unfold mx; split <;> omega

theorem abs_i (a : Int) (h : -9223372036854775807 ≤ a ∧ a ≤ 9223372036854775807) : impl_abs.f a = some (a.natAbs : Int) := by
  unfold impl_abs.f; rw [mx_abs a h]
theorem abs_s (a : Int) (h : -9223372036854775807 ≤ a ∧ a ≤ 9223372036854775807) : spec_l04Abs.f a = some (a.natAbs : Int) := by
  unfold spec_l04Abs.f spec_l00Max.f
  rw [wid (by omega)]
  split <;> simp <;> omega
theorem onsetsB_len {l : List Int} (h : onsetsB l = true) : l.length ≤ 48 := by
  unfold onsetsB at h; simp only [Bool.and_eq_true, decide_eq_true_eq] at h; exact h.1
theorem onsetsB_get {l : List Int} (h : onsetsB l = true) (j : Nat) (hj : j < l.length) : 0 ≤ l.getD j 0 ∧ l.getD j 0 ≤ 10000000 := by
  unfold onsetsB at h; simp only [Bool.and_eq_true] at h
  have := (allF_iff _).1 h.2 j hj (Nat.zero_le _)
  simp only [risQ, Bool.and_eq_true] at this
  exact of_decide_eq_true this.1
theorem onsetsB_lt {l : List Int} (h : onsetsB l = true) (j : Nat) (hj : j + 1 < l.length) : l.getD j 0 < l.getD (j + 1) 0 := by
  unfold onsetsB at h; simp only [Bool.and_eq_true] at h
  have := (allF_iff _).1 h.2 (j + 1) hj (Nat.zero_le _)
  simp only [risQ, Bool.and_eq_true, Bool.or_eq_true, Nat.add_sub_cancel] at this
  rcases this.2 with e | e
  · exact absurd (of_decide_eq_true e) (by omega)
  · exact of_decide_eq_true e
theorem onsetsB_rd {l : List Int} (h : onsetsB l = true) (x : Int) : 0 ≤ rd l x ∧ rd l x ≤ 10000000 := by
  unfold rd
  by_cases hx : x.toNat < l.length
  · exact onsetsB_get h _ hx
  · rw [List.getD_eq_getElem?_getD, List.getElem?_eq_none (by omega)]; simp
/-- the differences of neighbours -/
def gapsL : List Int → List Int
  | a :: b :: l => (b - a) :: gapsL (b :: l)
  | _ => []
theorem gapsL_length (l : List Int) : (gapsL l).length = l.length - 1 := by
  induction l with
  | nil => rfl
  | cons a l ih =>
    cases l with
    | nil => rfl
    | cons b l => simp only [gapsL, List.length_cons]; rw [ih]; simp
theorem gapsL_drop (l : List Int) (i : Nat) (h : i + 1 < l.length) : gapsL (l.drop i) = (l.getD (i + 1) 0 - l.getD i 0) :: gapsL (l.drop (i + 1)) := by
  rw [List.drop_eq_getElem_cons (by omega : i < l.length), List.drop_eq_getElem_cons (by omega : i + 1 < l.length), gapsL, List.getD_eq_getElem?_getD, List.getD_eq_getElem?_getD, List.getElem?_eq_getElem h, List.getElem?_eq_getElem (by omega : i < l.length)]
  rfl
theorem sGaps_l0 (l : List Int) (hl : l.length ≤ 35184372088) (hb : ∀ j, j < l.length → -1000000000 ≤ l.getD j 0 ∧ l.getD j 0 ≤ 1000000000) (d : Nat) : ∀ (i : Nat) (acc : List Int), l.length ≤ i + d + 1 → acc.length ≤ i →
    Ev (fun k => spec_l24Gaps.l0 k l acc ((i + 1 : Nat) : Int)) (acc ++ gapsL (l.drop i)) := by
  induction d with
  | zero =>
    intro i acc h1 h2
    refine Ev.shift ?_
    simp only [spec_l24Gaps.l0]
    refine Ev.neg (by omega) (Ev.some ?_)
    have e : gapsL (l.drop i) = [] := List.eq_nil_of_length_eq_zero (by rw [gapsL_length, List.length_drop]; omega)
    rw [e, List.append_nil]
  | succ d ih =>
    intro i acc h1 h2
    refine Ev.shift ?_
    simp only [spec_l24Gaps.l0]
    by_cases hi : i + 1 < l.length
    · have e1 : wrap64 (((i + 1 : Nat) : Int) - 1) = (i : Int) := by rw [wid (by omega)]; omega
      have b1 := hb i (by omega)
      have b2 := hb (i + 1) hi
      rw [e1, rd_nat, rd_nat, wid (x := l.getD (i + 1) 0 - l.getD i 0) (by omega), wid (x := ((i + 1 : Nat) : Int) + 1) (by omega)]
      refine Ev.pos (by omega) (Ev.pos (by omega) (Ev.pos (by omega) (Ev.pos (by omega) (Ev.pos (by omega) ?_))))
      rw [gapsL_drop l i hi]
      exact Ev.same (ih (i + 1) (acc ++ [l.getD (i + 1) 0 - l.getD i 0]) (by omega) (by rw [List.length_append, List.length_singleton]; omega)) (by simp)
    · refine Ev.neg (by omega) (Ev.some ?_)
      have e : gapsL (l.drop i) = [] := List.eq_nil_of_length_eq_zero (by rw [gapsL_length, List.length_drop]; omega)
      rw [e, List.append_nil]
theorem sGaps (l : List Int) (hl : l.length ≤ 35184372088) (hb : ∀ j, j < l.length → -1000000000 ≤ l.getD j 0 ∧ l.getD j 0 ≤ 1000000000) : Ev (fun k => spec_l24Gaps.f k l) (gapsL l) := by
  unfold spec_l24Gaps.f
  exact sGaps_l0 l hl hb l.length 0 [] (by omega) (by simp)
theorem gaps_same (l : List Int) (k : Nat) : ∀ acc i, impl_gapsOf.l0 k l acc i = spec_l24Gaps.l0 k l acc i := by
  induction k with
  | zero => intro acc i; rfl
  | succ k ih => intro acc i; simp only [impl_gapsOf.l0, spec_l24Gaps.l0, ih]
theorem iGaps (l : List Int) (hl : l.length ≤ 35184372088) (hb : ∀ j, j < l.length → -1000000000 ≤ l.getD j 0 ∧ l.getD j 0 ≤ 1000000000) : Ev (fun k => impl_gapsOf.f k l) (gapsL l) := by
  have := sGaps l hl hb
  unfold spec_l24Gaps.f at this
  unfold impl_gapsOf.f
  simp only [gaps_same]
  exact this
theorem sorted_eq {L S : List Int} (hp : S.Perm L) (hs : S.Pairwise (· ≤ ·)) : S = L.mergeSort fun x y => decide (x ≤ y) := by
  have h2 : (L.mergeSort fun x y => decide (x ≤ y)).Pairwise fun a b => decide (a ≤ b) = true := List.pairwise_mergeSort (fun a b c h1 h2 => by simp only [decide_eq_true_eq] at *; omega) (fun a b => by simp only [Bool.or_eq_true, decide_eq_true_eq]; omega) L
  refine List.Perm.eq_of_pairwise (le := fun a b : Int => a ≤ b) (fun a b _ _ h1 h2 => by omega) hs (h2.imp fun h => of_decide_eq_true h) (hp.trans (List.mergeSort_perm L _).symm)
theorem ms_pairwise (L : List Int) : (L.mergeSort fun x y => decide (x ≤ y)).Pairwise (· ≤ ·) := by
  have h2 : (L.mergeSort fun x y => decide (x ≤ y)).Pairwise fun a b => decide (a ≤ b) = true := List.pairwise_mergeSort (fun a b c h1 h2 => by simp only [decide_eq_true_eq] at *; omega) (fun a b => by simp only [Bool.or_eq_true, decide_eq_true_eq]; omega) L
  exact h2.imp fun h => of_decide_eq_true h
/-- the best of some numbers: (0, 0) of none; else one of them with the greatest count, the least of these -/
def BestG (c : Int → Int) (L : List Int) (p : Int × Int) : Prop := (L = [] ∧ p = (0, 0)) ∨ (p.1 ∈ L ∧ p.2 = c p.1 ∧ ∀ y ∈ L, c y < p.2 ∨ (c y = p.2 ∧ p.1 ≤ y))
theorem BestG.uniq {c : Int → Int} {L L' : List Int} {p q : Int × Int} (h : BestG c L p) (h' : BestG c L' q) (hm : ∀ x, x ∈ L ↔ x ∈ L') : p = q := by
  rcases h with ⟨rfl, rfl⟩ | ⟨h1, h2, h3⟩
  · rcases h' with ⟨rfl, rfl⟩ | ⟨h1', _, _⟩
    · rfl
    · exact absurd ((hm _).2 h1') (by simp)
  · rcases h' with ⟨rfl, rfl⟩ | ⟨h1', h2', h3'⟩
    · exact absurd ((hm _).1 h1) (by simp)
    · have a := h3 _ ((hm _).2 h1')
      have b := h3' _ ((hm _).1 h1)
      have e1 : p.1 = q.1 := by omega
      have e2 : p.2 = q.2 := by rw [h2, h2', e1]
      exact Prod.ext e1 e2
theorem BestG.spec {c : Int → Int} {L : List Int} {b m : Int} (h : BestG c L (b, m)) (g : Int) (hc : 1 ≤ c g) (hm : 0 ≤ m) : BestG c (L ++ [g]) (if c g > m ∨ c g = m ∧ g < b then (g, c g) else (b, m)) := by
  rcases h with ⟨rfl, e⟩ | ⟨h1, h2, h3⟩
  · cases e
    rw [if_pos (by omega)]
    exact .inr ⟨by simp, rfl, fun y hy => by simp at hy; subst hy; right; exact ⟨rfl, Int.le_refl _⟩⟩
  · simp only at h1 h2 h3
    by_cases k : c g > m ∨ c g = m ∧ g < b
    · rw [if_pos k]
      refine .inr ⟨by simp, rfl, fun y hy => ?_⟩
      rcases List.mem_append.1 hy with hy | hy
      · have := h3 y hy; simp only; omega
      · simp at hy; subst hy; right; exact ⟨rfl, Int.le_refl _⟩
    · rw [if_neg k]
      refine .inr ⟨List.mem_append_left _ h1, h2, fun y hy => ?_⟩
      rcases List.mem_append.1 hy with hy | hy
      · exact h3 y hy
      · simp at hy; subst hy; simp only; omega
theorem BestG.impl {c : Int → Int} {L : List Int} {b m : Int} (h : BestG c L (b, m)) (g : Int) (hc : 1 ≤ c g) (hg : ∀ y ∈ L, y ≤ g) : BestG c (L ++ [g]) (if c g > m then (g, c g) else (b, m)) := by
  rcases h with ⟨rfl, e⟩ | ⟨h1, h2, h3⟩
  · cases e
    rw [if_pos (by omega)]
    exact .inr ⟨by simp, rfl, fun y hy => by simp at hy; subst hy; right; exact ⟨rfl, Int.le_refl _⟩⟩
  · simp only at h1 h2 h3
    by_cases k : c g > m
    · rw [if_pos k]
      refine .inr ⟨by simp, rfl, fun y hy => ?_⟩
      rcases List.mem_append.1 hy with hy | hy
      · have := h3 y hy; simp only; omega
      · simp at hy; subst hy; right; exact ⟨rfl, Int.le_refl _⟩
    · rw [if_neg k]
      refine .inr ⟨List.mem_append_left _ h1, h2, fun y hy => ?_⟩
      rcases List.mem_append.1 hy with hy | hy
      · exact h3 y hy
      · simp at hy; subst hy; have := hg b h1; simp only; omega
theorem BestG.pos {c : Int → Int} {L : List Int} {b m : Int} (h : BestG c L (b, m)) (hc : ∀ y ∈ L, 1 ≤ c y) : 0 ≤ m := by
  rcases h with ⟨rfl, e⟩ | ⟨h1, h2, h3⟩
  · cases e; omega
  · have := hc _ h1; simp only at h2; simp only at this; omega
def cntD (near : Int) (L : List Int) (x : Int) (j : Nat) : Nat := (L.drop j).countP fun y => decide (((y - x).natAbs : Int) ≤ near)
theorem cntD_end (near : Int) (L : List Int) (x : Int) (j : Nat) (h : L.length ≤ j) : cntD near L x j = 0 := by
  unfold cntD; rw [List.drop_of_length_le h]; rfl
theorem cntD_step (near : Int) (L : List Int) (x : Int) (j : Nat) (h : j < L.length) : cntD near L x j = cntD near L x (j + 1) + (if ((L.getD j 0 - x).natAbs : Int) ≤ near then 1 else 0) := by
  unfold cntD
  rw [List.drop_eq_getElem_cons h, List.countP_cons, List.getD_eq_getElem?_getD, List.getElem?_eq_getElem h]
  simp
theorem cntD_pos (near : Int) (hn : 0 ≤ near) (L : List Int) (x : Int) (h : x ∈ L) : 1 ≤ (cntD near L x 0 : Int) := by
  have : 0 < cntD near L x 0 := by
    unfold cntD; rw [List.drop_zero]
    exact List.countP_pos_iff.2 ⟨x, h, decide_eq_true (by simpa using hn)⟩
  omega
theorem cntD_perm (near : Int) {L S : List Int} (h : S.Perm L) (x : Int) : cntD near S x 0 = cntD near L x 0 := by
  unfold cntD; rw [List.drop_zero, List.drop_zero]; exact h.countP_eq _
theorem cntD_le (near : Int) (L : List Int) (x : Int) (j : Nat) : cntD near L x j ≤ L.length := by
  unfold cntD
  have := List.countP_le_length (p := fun y => decide (((y - x).natAbs : Int) ≤ near)) (l := L.drop j)
  simp only [List.length_drop] at this; omega
def selS (g n b m : Int) : Int × Int := if n > m ∨ n = m ∧ g < b then (g, n) else (b, m)
def selI (g n b m : Int) : Int × Int := if n > m then (g, n) else (b, m)
theorem sCG_l1 (near : Int) (L : List Int) (hl : L.length ≤ 48) (hb : ∀ j, j < L.length → -1000000000 ≤ L.getD j 0 ∧ L.getD j 0 ≤ 1000000000) (b m : Int) (i : Nat) (hi : i < L.length) (r : Int × Int × Int) (d : Nat) : ∀ (j : Nat) (c : Int), j + d = L.length → 0 ≤ c → c ≤ j →
    Ev (fun k => spec_CommonGap.l0 k near L (selS (L.getD i 0) (c + cntD near L (L.getD i 0) j) b m).1 (selS (L.getD i 0) (c + cntD near L (L.getD i 0) j) b m).2 ((i + 1 : Nat) : Int)) r →
    Ev (fun k => spec_CommonGap.l1 k near L b m i c j) r := by
  induction d with
  | zero =>
    intro j c h1 h2 h3 H
    rw [cntD_end _ _ _ _ (by omega), Int.natCast_zero, Int.add_zero] at H
    refine Ev.shift ?_
    simp only [spec_CommonGap.l1, rd_nat]
    rw [wid (x := (i : Int) + 1) (by omega)]
    refine Ev.neg (by omega) ?_
    unfold selS at H
    by_cases c1 : c > m
    · rw [if_pos (.inl c1)] at H
      exact Ev.pos c1 (Ev.pos (by omega) (Ev.pos (by omega) H))
    refine Ev.neg c1 ?_
    by_cases c2 : c = m
    · refine Ev.pos c2 (Ev.pos (by omega) (Ev.pos (by omega) ?_))
      by_cases c3 : L.getD i 0 < b
      · rw [if_pos (.inr ⟨c2, c3⟩)] at H
        exact Ev.pos c3 H
      · rw [if_neg (by omega)] at H
        exact Ev.neg c3 H
    · rw [if_neg (by omega)] at H
      exact Ev.neg c2 H
  | succ d ih =>
    intro j c h1 h2 h3 H
    have b1 := hb j (by omega)
    have b2 := hb i hi
    refine Ev.shift ?_
    simp only [spec_CommonGap.l1, rd_nat]
    rw [wid (x := (j : Int) + 1) (by omega), wid (x := c + 1) (by omega), wid (x := L.getD j 0 - L.getD i 0) (by omega), abs_s _ (by omega)]
    simp only [Option.bind_some]
    refine Ev.pos (by omega) (Ev.pos (by omega) (Ev.pos (by omega) (Ev.pos (by omega) ?_)))
    have st := cntD_step near L (L.getD i 0) j (by omega)
    by_cases q : ((L.getD j 0 - L.getD i 0).natAbs : Int) ≤ near
    · rw [if_pos q] at st
      refine Ev.pos q (ih (j + 1) (c + 1) (by omega) (by omega) (by omega) ?_)
      rw [show c + 1 + (cntD near L (L.getD i 0) (j + 1) : Int) = c + (cntD near L (L.getD i 0) j : Int) by omega]
      exact H
    · rw [if_neg q] at st
      refine Ev.neg q (ih (j + 1) c (by omega) (by omega) (by omega) ?_)
      rw [show c + (cntD near L (L.getD i 0) (j + 1) : Int) = c + (cntD near L (L.getD i 0) j : Int) by omega]
      exact H
theorem take_snoc (L : List Int) (i : Nat) (h : i < L.length) : L.take (i + 1) = L.take i ++ [L.getD i 0] := by
  rw [List.take_add_one, List.getElem?_eq_getElem h, Option.toList_some, List.getD_eq_getElem?_getD, List.getElem?_eq_getElem h]; rfl
theorem getD_mem (L : List Int) (i : Nat) (h : i < L.length) : L.getD i 0 ∈ L := by
  rw [List.getD_eq_getElem?_getD, List.getElem?_eq_getElem h]; exact List.getElem_mem h
theorem sCG_l0 (near : Int) (hn : 0 ≤ near) (L : List Int) (hl : L.length ≤ 48) (hb : ∀ j, j < L.length → -1000000000 ≤ L.getD j 0 ∧ L.getD j 0 ≤ 1000000000) (d : Nat) : ∀ (i : Nat) (b m : Int), i + d = L.length → BestG (fun x => (cntD near L x 0 : Int)) (L.take i) (b, m) →
    ∃ p, BestG (fun x => (cntD near L x 0 : Int)) L p ∧ Ev (fun k => spec_CommonGap.l0 k near L b m i) (p.1, p.2, 0) := by
  induction d with
  | zero =>
    intro i b m h1 h2
    rw [List.take_of_length_le (by omega)] at h2
    refine ⟨(b, m), h2, Ev.shift ?_⟩
    simp only [spec_CommonGap.l0]
    exact Ev.neg (by omega) (Ev.now _)
  | succ d ih =>
    intro i b m h1 h2
    have hp : ∀ y ∈ L, 1 ≤ (cntD near L y 0 : Int) := fun y hy => cntD_pos near hn L y hy
    have st := h2.spec (L.getD i 0) (hp _ (getD_mem L i (by omega))) (h2.pos fun y hy => hp y (List.mem_of_mem_take hy))
    rw [← take_snoc L i (by omega)] at st
    obtain ⟨p, hp1, hp2⟩ := ih (i + 1) (selS (L.getD i 0) (cntD near L (L.getD i 0) 0) b m).1 (selS (L.getD i 0) (cntD near L (L.getD i 0) 0) b m).2 (by omega) st
    refine ⟨p, hp1, Ev.shift ?_⟩
    simp only [spec_CommonGap.l0]
    refine Ev.pos (by omega) ?_
    refine sCG_l1 near L hl hb b m i (by omega) _ L.length 0 0 (by omega) (by omega) (by omega) ?_
    rw [Int.zero_add]
    exact hp2
theorem iCG_l1 (near : Int) (L : List Int) (hl : L.length ≤ 48) (hb : ∀ j, j < L.length → -1000000000 ≤ L.getD j 0 ∧ L.getD j 0 ≤ 1000000000) (b m : Int) (i : Nat) (hi : i < L.length) (r : Int × Int × Int) (d : Nat) : ∀ (j : Nat) (c : Int), j + d = L.length → 0 ≤ c → c ≤ j →
    Ev (fun k => impl_CommonGap.l0 k near L (selI (L.getD i 0) (c + cntD near L (L.getD i 0) j) b m).1 (selI (L.getD i 0) (c + cntD near L (L.getD i 0) j) b m).2 L (L.length : Int) ((i + 1 : Nat) : Int)) r →
    Ev (fun k => impl_CommonGap.l1 k near L b m (L.getD i 0) c L (L.length : Int) i L (L.length : Int) j) r := by
  induction d with
  | zero =>
    intro j c h1 h2 h3 H
    rw [cntD_end _ _ _ _ (by omega), Int.natCast_zero, Int.add_zero] at H
    refine Ev.shift ?_
    simp only [impl_CommonGap.l1]
    rw [wid (x := (i : Int) + 1) (by omega)]
    refine Ev.neg (by omega) ?_
    unfold selI at H
    by_cases c1 : c > m
    · rw [if_pos c1] at H
      exact Ev.pos c1 H
    · rw [if_neg c1] at H
      exact Ev.neg c1 H
  | succ d ih =>
    intro j c h1 h2 h3 H
    have b1 := hb j (by omega)
    have b2 := hb i hi
    refine Ev.shift ?_
    simp only [impl_CommonGap.l1, rd_nat]
    rw [wid (x := (j : Int) + 1) (by omega), wid (x := c + 1) (by omega), wid (x := L.getD j 0 - L.getD i 0) (by omega), abs_i _ (by omega)]
    simp only [Option.bind_some]
    refine Ev.pos (by omega) (Ev.pos (by omega) (Ev.pos (by omega) ?_))
    have st := cntD_step near L (L.getD i 0) j (by omega)
    by_cases q : ((L.getD j 0 - L.getD i 0).natAbs : Int) ≤ near
    · rw [if_pos q] at st
      refine Ev.pos q (ih (j + 1) (c + 1) (by omega) (by omega) (by omega) ?_)
      rw [show c + 1 + (cntD near L (L.getD i 0) (j + 1) : Int) = c + (cntD near L (L.getD i 0) j : Int) by omega]
      exact H
    · rw [if_neg q] at st
      refine Ev.neg q (ih (j + 1) c (by omega) (by omega) (by omega) ?_)
      rw [show c + (cntD near L (L.getD i 0) (j + 1) : Int) = c + (cntD near L (L.getD i 0) j : Int) by omega]
      exact H
theorem sorted_take {L : List Int} (h : L.Pairwise (· ≤ ·)) (i : Nat) (hi : i < L.length) : ∀ y ∈ L.take i, y ≤ L.getD i 0 := by
  intro y hy
  obtain ⟨j, hj, rfl⟩ := List.getElem_of_mem hy
  rw [List.length_take] at hj
  rw [List.getElem_take, List.getD_eq_getElem?_getD, List.getElem?_eq_getElem hi]
  exact List.pairwise_iff_getElem.1 h j i (by omega) hi (by omega)
theorem iCG_l0 (near : Int) (hn : 0 ≤ near) (L : List Int) (hs : L.Pairwise (· ≤ ·)) (hl : L.length ≤ 48) (hb : ∀ j, j < L.length → -1000000000 ≤ L.getD j 0 ∧ L.getD j 0 ≤ 1000000000) (d : Nat) : ∀ (i : Nat) (b m : Int), i + d = L.length → BestG (fun x => (cntD near L x 0 : Int)) (L.take i) (b, m) →
    ∃ p, BestG (fun x => (cntD near L x 0 : Int)) L p ∧ Ev (fun k => impl_CommonGap.l0 k near L b m L (L.length : Int) i) (p.1, p.2, 0) := by
  induction d with
  | zero =>
    intro i b m h1 h2
    rw [List.take_of_length_le (by omega)] at h2
    refine ⟨(b, m), h2, Ev.shift ?_⟩
    simp only [impl_CommonGap.l0]
    exact Ev.neg (by omega) (Ev.now _)
  | succ d ih =>
    intro i b m h1 h2
    have hp : ∀ y ∈ L, 1 ≤ (cntD near L y 0 : Int) := fun y hy => cntD_pos near hn L y hy
    have st := h2.impl (L.getD i 0) (hp _ (getD_mem L i (by omega))) (sorted_take hs i (by omega))
    rw [← take_snoc L i (by omega)] at st
    obtain ⟨p, hp1, hp2⟩ := ih (i + 1) (selI (L.getD i 0) (cntD near L (L.getD i 0) 0) b m).1 (selI (L.getD i 0) (cntD near L (L.getD i 0) 0) b m).2 (by omega) st
    refine ⟨p, hp1, Ev.shift ?_⟩
    simp only [impl_CommonGap.l0, rd_nat]
    refine Ev.pos (by omega) (Ev.pos (by omega) (Ev.pos (by omega) ?_))
    refine iCG_l1 near L hl hb b m i (by omega) _ L.length 0 0 (by omega) (by omega) (by omega) ?_
    rw [Int.zero_add]
    exact hp2
theorem iGaps_any (l : List Int) (hl : l.length ≤ 35184372088) (d : Nat) : ∀ (i : Nat) (acc : List Int), l.length ≤ i + d → 1 ≤ i → acc.length ≤ i → ∃ r, Ev (fun k => impl_gapsOf.l0 k l acc i) r := by
  induction d with
  | zero =>
    intro i acc h1 h2 h3
    refine ⟨acc, Ev.shift ?_⟩
    simp only [impl_gapsOf.l0]
    exact Ev.neg (by omega) (Ev.now _)
  | succ d ih =>
    intro i acc h1 h2 h3
    by_cases hi : i < l.length
    · obtain ⟨r, hr⟩ := ih (i + 1) (acc ++ [wrap64 (rd l i - rd l (wrap64 ((i : Int) - 1)))]) (by omega) (by omega) (by simp; omega)
      refine ⟨r, Ev.shift ?_⟩
      simp only [impl_gapsOf.l0]
      rw [wid (x := (i : Int) + 1) (by omega)]
      have e1 : wrap64 ((i : Int) - 1) = (i : Int) - 1 := wid (by omega)
      refine Ev.pos (by omega) (Ev.pos (by omega) (Ev.pos (by omega) (Ev.pos (by omega) (Ev.pos (by omega) ?_))))
      exact hr
    · refine ⟨acc, Ev.shift ?_⟩
      simp only [impl_gapsOf.l0]
      exact Ev.neg (by omega) (Ev.now _)
theorem gapsL_get (l : List Int) : ∀ j, j + 1 < l.length → (gapsL l).getD j 0 = l.getD (j + 1) 0 - l.getD j 0 := by
  induction l with
  | nil => intro j h; simp at h
  | cons a r ih =>
    cases r with
    | nil => intro j h; simp at h
    | cons b r =>
      intro j h
      cases j with
      | zero => rfl
      | succ j => exact ih j (by simpa using h)
theorem gaps_bound (l : List Int) (h : onsetsB l = true) : ∀ j, j < (gapsL l).length → -1000000000 ≤ (gapsL l).getD j 0 ∧ (gapsL l).getD j 0 ≤ 1000000000 := by
  intro j hj
  rw [gapsL_length] at hj
  rw [gapsL_get l j (by omega)]
  have := onsetsB_get h j (by omega)
  have := onsetsB_get h (j + 1) (by omega)
  omega
theorem commonGap (l : List Int) (near : Int) (hl : l.length ≤ 35184372088) : ∃ q, Ev (fun k => spec_CommonGap.f k l near) q ∧ Ev (fun k => impl_CommonGap.f k l near) q := by
  obtain ⟨r0, hr0⟩ : ∃ r, Ev (fun k => impl_gapsOf.f k l) r := by
    unfold impl_gapsOf.f
    exact iGaps_any l hl l.length 1 [] (by omega) (by omega) (by simp)
  unfold spec_CommonGap.f impl_CommonGap.f
  cases h : onsetsB l with
  | false =>
    refine ⟨(0, 0, 1), Ev.bind (sOnsets l (by omega)) ?_, Ev.bind hr0 (Ev.bind (iOnsets l (by omega)) ?_)⟩
    · rw [h]; exact Ev.neg (by decide) (Ev.now _)
    · rw [h]; exact Ev.neg (by decide) (Ev.now _)
  | true =>
    have h48 := onsetsB_len h
    have hb : ∀ j, j < l.length → -1000000000 ≤ l.getD j 0 ∧ l.getD j 0 ≤ 1000000000 := fun j hj => by have := onsetsB_get h j hj; omega
    have e1 : spec_l24Time.f near = some (decide (0 ≤ near ∧ near ≤ 10000000)) := by
      unfold spec_l24Time.f; rw [in_eq]; rfl
    by_cases hn : 0 ≤ near ∧ near ≤ 10000000
    · have hgl : (gapsL l).length ≤ 48 := by rw [gapsL_length]; omega
      have hgb := gaps_bound l h
      by_cases z : (gapsL l).length = 0
      · refine ⟨(0, 0, 3), Ev.bind (sOnsets l (by omega)) ?_, Ev.bind (iGaps l hl hb) (Ev.bind (iOnsets l (by omega)) ?_)⟩
        · rw [h, e1]; simp only [Option.bind_some]
          exact Ev.pos trivial (Ev.pos (decide_eq_true hn) (Ev.bind (sGaps l hl hb) (Ev.pos (by omega) (Ev.now _))))
        · rw [h, within_eq]; simp only [Option.bind_some]
          exact Ev.pos trivial (Ev.pos (decide_eq_true hn) (Ev.pos (by omega) (Ev.now _)))
      · obtain ⟨p, hp1, hp2⟩ := sCG_l0 near hn.1 (gapsL l) hgl hgb (gapsL l).length 0 0 0 (by omega) (by rw [List.take_zero]; exact .inl ⟨rfl, rfl⟩)
        have hsl : ((gapsL l).mergeSort fun x y => decide (x ≤ y)).length = (gapsL l).length := List.length_mergeSort _
        have hperm := List.mergeSort_perm (gapsL l) fun x y => decide (x ≤ y)
        obtain ⟨p', hp1', hp2'⟩ := iCG_l0 near hn.1 ((gapsL l).mergeSort fun x y => decide (x ≤ y)) (ms_pairwise _) (by omega) (fun j hj => by
          have hm := hperm.mem_iff.1 (getD_mem _ j hj)
          obtain ⟨i, hi, e⟩ := List.getElem_of_mem hm
          have := hgb i hi
          rw [List.getD_eq_getElem?_getD, List.getElem?_eq_getElem hi, Option.getD_some, e] at this
          exact this) (gapsL l).length 0 0 0 (by omega) (by rw [List.take_zero]; exact .inl ⟨rfl, rfl⟩)
        have ec : (fun x => (cntD near ((gapsL l).mergeSort fun x y => decide (x ≤ y)) x 0 : Int)) = fun x => (cntD near (gapsL l) x 0 : Int) := by
          funext x; rw [cntD_perm near hperm]
        rw [ec] at hp1'
        have epp := BestG.uniq hp1' hp1 (fun x => hperm.mem_iff)
        subst epp
        refine ⟨(p'.1, p'.2, 0), Ev.bind (sOnsets l (by omega)) ?_, Ev.bind (iGaps l hl hb) (Ev.bind (iOnsets l (by omega)) ?_)⟩
        · rw [h, e1]; simp only [Option.bind_some]
          exact Ev.pos trivial (Ev.pos (decide_eq_true hn) (Ev.bind (sGaps l hl hb) (Ev.neg (by omega) hp2)))
        · rw [h, within_eq]; simp only [Option.bind_some]
          refine Ev.pos trivial (Ev.pos (decide_eq_true hn) (Ev.neg (by omega) ?_))
          unfold slices_Sort_int64_int64.f
          rw [if_pos (by omega)]
          simp only [Option.bind_some]
          rw [hsl] at hp2'
          exact hp2'
    · refine ⟨(0, 0, 2), Ev.bind (sOnsets l (by omega)) ?_, Ev.bind (iGaps l hl hb) (Ev.bind (iOnsets l (by omega)) ?_)⟩
      · rw [h, e1]; simp only [Option.bind_some]
        exact Ev.pos trivial (Ev.neg (by simpa using hn) (Ev.now _))
      · rw [h, within_eq]; simp only [Option.bind_some]
        exact Ev.pos trivial (Ev.neg (by simpa using hn) (Ev.now _))
theorem FnExactCommonGap : laws_FnExactCommonGap.Pure := by
  intro l a1 hm hs _ _
  refine Ev.rounds (g := fun k => laws_FnExactCommonGap.f k l a1) ?_
  unfold laws_FnExactCommonGap.f
  by_cases hl : (l.length : Int) > 1048576
  · exact Ev.pos hl (Ev.now _)
  refine Ev.neg hl ?_
  have hl' : l.length ≤ 35184372088832 := by omega
  obtain ⟨⟨q1, q2, q3⟩, hS, hI⟩ := commonGap l a1 (by omega)
  repeat (first | exact Ev.now _ | refine Ev.bind hS ?_ | refine Ev.bind hI ?_ | refine Ev.bind (toI _ (by assumption)) ?_ | refine Ev.bind (eqI _ (by assumption)) ?_ | refine Ev.pos (by with_reducible rfl) ?_ | refine Ev.neg (by omega) ?_ | refine Ev.neg (by simp; done) ?_ | refine Ev.pos (by omega) ?_ | (refine Ev.shift ?_; simp only [laws_FnExactCommonGap.j0]))

end Go.Proofs.Ytapjnnaaflinlaa.Pure
