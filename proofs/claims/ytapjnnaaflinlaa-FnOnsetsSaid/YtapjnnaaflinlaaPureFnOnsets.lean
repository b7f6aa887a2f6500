/- The pure statement of the law FnOnsets: what the Go functions compute, told by plain Lean functions, is what the law asks, for all arguments. No condition beyond the printed ones. -/
import Derived.Test.YtapjnnaaflinlaaPFnOnsetsx7
import Derived.Test.YtapjnnaaflinlaaXW
namespace Go.Proofs.Ytapjnnaaflinlaa.Pure
open Go.RowKit Go.Proofs.Ytapjnnaaflinlaa.PFnOnsets Go.Proofs.YtapjnnaaflinlaaW.PrintWords Go.Proofs.YtapjnnaaflinlaaW.PrintLast Go.Proofs.YtapjnnaaflinlaaW.PrintMore Go.Proofs.YtapjnnaaflinlaaXW
set_option linter.unusedVariables false
set_option linter.unusedSimpArgs false
def risQ (l : List Int) (lo hi : Int) (j : Nat) : Bool := decide (lo ≤ l.getD j 0 ∧ l.getD j 0 ≤ hi) && (decide (j = 0) || decide (l.getD (j - 1) 0 < l.getD j 0))
theorem in_eq (a b c : Int) : spec_l00In.f a b c = some (decide (b ≤ a ∧ a ≤ c)) := by
  unfold spec_l00In.f; split <;> simp_all; omega
theorem within_eq (a b c : Int) : impl_within.f a b c = some (decide (b ≤ a ∧ a ≤ c)) := by
  unfold impl_within.f; split <;> simp_all; omega
theorem allIn_eq (l : List Int) (a b : Int) : impl_allWithin.f l a b = some (l.all fun x => decide (a ≤ x ∧ x ≤ b)) := by
  unfold impl_allWithin.f
  rw [List.not_any_eq_all_not]
  congr 2
  funext x
  simp [allP]
theorem rises_l0 (l : List Int) (lo hi : Int) (hl : l.length ≤ 35184372088832) (d : Nat) : ∀ (i : Nat), i + d = l.length → Ev (fun k => spec_l00Rises.l0 k l lo hi i) (allF (risQ l lo hi) l.length i) := by
  induction d with
  | zero =>
    intro i h1
    refine Ev.shift ?_
    simp only [spec_l00Rises.l0]
    exact Ev.neg (by omega) (Ev.some (by rw [allF_end _ (by omega)]))
  | succ d ih =>
    intro i h1
    refine Ev.shift ?_
    simp only [spec_l00Rises.l0, in_eq, Option.bind_some]
    refine Ev.pos (by omega) (Ev.pos (by omega) ?_)
    rw [rd_nat]
    by_cases hb : lo ≤ l.getD i 0 ∧ l.getD i 0 ≤ hi
    · refine Ev.pos (by simpa using hb) ?_
      cases i with
      | zero =>
        refine Ev.neg (by omega) ?_
        rw [wid (by omega), allF_yes _ (by simp only [risQ]; simp; exact hb)]
        exact ih 1 (by omega)
      | succ i =>
        refine Ev.pos (by omega) ?_
        have e1 : wrap64 (((i + 1 : Nat) : Int) - 1) = (i : Int) := by rw [wid (by omega)]; omega
        rw [e1, rd_nat]
        refine Ev.pos (by omega) (Ev.pos (by omega) ?_)
        by_cases hc : l.getD i 0 < l.getD (i + 1) 0
        · refine Ev.neg (by omega) ?_
          rw [wid (by omega), allF_yes _ (by simp only [risQ]; simp; exact ⟨hb, hc⟩)]
          exact ih (i + 2) (by omega)
        · refine Ev.pos (by omega) (Ev.some ?_)
          rw [allF_no _ (by omega) (by simp only [risQ, Nat.add_sub_cancel, decide_eq_false hc]; simp)]
    · refine Ev.neg (by simpa using hb) (Ev.some ?_)
      rw [allF_no _ (by omega) (by simp only [risQ]; rw [decide_eq_false hb]; rfl)]
theorem rises_ev (l : List Int) (lo hi : Int) (hl : l.length ≤ 35184372088832) : Ev (fun k => spec_l00Rises.f k l lo hi) (allF (risQ l lo hi) l.length 0) := by
  unfold spec_l00Rises.f
  exact rises_l0 l lo hi hl l.length 0 (by omega)
def incQ (l : List Int) (j : Nat) : Bool := decide (l.getD (j - 1) 0 < l.getD j 0)
theorem inc_l0 (l : List Int) (hl : l.length ≤ 35184372088832) (d : Nat) : ∀ (i : Nat), 1 ≤ i → l.length ≤ i + d → Ev (fun k => impl_increasing.l0 k l i) (allF (incQ l) l.length i) := by
  induction d with
  | zero =>
    intro i h0 h1
    refine Ev.shift ?_
    simp only [impl_increasing.l0]
    exact Ev.neg (by omega) (Ev.some (by rw [allF_end _ (by omega)]))
  | succ d ih =>
    intro i h0 h1
    by_cases hi : i < l.length
    · refine Ev.shift ?_
      simp only [impl_increasing.l0]
      have e1 : wrap64 ((i : Int) - 1) = ((i - 1 : Nat) : Int) := by rw [wid (by omega)]; omega
      rw [e1, rd_nat, rd_nat]
      refine Ev.pos (by omega) (Ev.pos (by omega) (Ev.pos (by omega) (Ev.pos (by omega) ?_)))
      by_cases hc : l.getD (i - 1) 0 < l.getD i 0
      · refine Ev.neg (by omega) ?_
        rw [wid (by omega), allF_yes _ (by simp only [incQ]; simpa using hc)]
        exact ih (i + 1) (by omega) (by omega)
      · refine Ev.pos (by omega) (Ev.some ?_)
        rw [allF_no _ (by omega) (by simp only [incQ]; simpa using hc)]
    · refine Ev.shift ?_
      simp only [impl_increasing.l0]
      exact Ev.neg (by omega) (Ev.some (by rw [allF_end _ (by omega)]))
theorem inc_ev (l : List Int) (hl : l.length ≤ 35184372088832) : Ev (fun k => impl_increasing.f k l) (allF (incQ l) l.length 1) := by
  unfold impl_increasing.f
  exact inc_l0 l hl l.length 1 (by omega) (by omega)
/-- The one test is the two others. -/
theorem rises_inc (l : List Int) (lo hi : Int) : (allF (incQ l) l.length 1 && l.all fun x => decide (lo ≤ x ∧ x ≤ hi)) = allF (risQ l lo hi) l.length 0 := by
  rw [Bool.eq_iff_iff, Bool.and_eq_true, allF_iff, allF_iff, all_iff_get]
  constructor
  · rintro ⟨h1, h2⟩ j hj _
    simp only [risQ, Bool.and_eq_true, Bool.or_eq_true]
    refine ⟨h2 j hj, ?_⟩
    by_cases e : j = 0
    · left; simpa using e
    · right; exact h1 j hj (by omega)
  · intro h
    refine ⟨fun j hj h1 => ?_, fun j hj => ?_⟩
    · have := h j hj (by omega)
      simp only [risQ, Bool.and_eq_true, Bool.or_eq_true] at this
      rcases this.2 with e | e
      · simp at e; omega
      · exact e
    · have := h j hj (by omega)
      simp only [risQ, Bool.and_eq_true] at this
      exact this.1
def onsetsB (l : List Int) : Bool := decide (l.length ≤ 48) && allF (risQ l 0 10000000) l.length 0
theorem sOnsets (l : List Int) (hl : l.length ≤ 35184372088832) : Ev (fun k => spec_l24Ok.f k l) (onsetsB l) := by
  unfold spec_l24Ok.f onsetsB
  by_cases h : l.length ≤ 48
  · refine Ev.pos (by omega) (Ev.bind (rises_ev l _ _ hl) (Ev.some ?_))
    simp [h]
  · refine Ev.neg (by omega) (Ev.some ?_)
    simp [h]
theorem iOnsets (l : List Int) (hl : l.length ≤ 35184372088832) : Ev (fun k => impl_ValidOnsets.f k l) (onsetsB l) := by
  unfold impl_ValidOnsets.f onsetsB
  by_cases h : l.length ≤ 48
  · refine Ev.pos (by omega) (Ev.bind (inc_ev l hl) ?_)
    rw [← rises_inc]
    simp only [allIn_eq, Option.bind_some, h, decide_true, Bool.true_and]
    cases e : allF (incQ l) l.length 1
    · exact Ev.neg (by decide) (Ev.now _)
    · exact Ev.pos rfl (Ev.now _)
  · refine Ev.neg (by omega) (Ev.some ?_)
    simp [h]
theorem mx_abs (a : Int) (h : -9223372036854775807 ≤ a ∧ a ≤ 9223372036854775807) : mx a (wrap64 (-a)) = (a.natAbs : Int) := by
  rw [wid (by omega)]; unfold mx; split <;> omega

theorem abs_i (a : Int) (h : -9223372036854775807 ≤ a ∧ a ≤ 9223372036854775807) : impl_abs.f a = some (a.natAbs : Int) := by
  unfold impl_abs.f; rw [mx_abs a h]
theorem onsetsB_len {l : List Int} (h : onsetsB l = true) : l.length ≤ 48 := by
  unfold onsetsB at h; simp only [Bool.and_eq_true, decide_eq_true_eq] at h; exact h.1
theorem onsetsB_get {l : List Int} (h : onsetsB l = true) (j : Nat) (hj : j < l.length) : 0 ≤ l.getD j 0 ∧ l.getD j 0 ≤ 10000000 := by
  unfold onsetsB at h; simp only [Bool.and_eq_true] at h
  have := (allF_iff _).1 h.2 j hj (Nat.zero_le _)
  simp only [risQ, Bool.and_eq_true] at this
  exact of_decide_eq_true this.1
theorem onsetsB_lt {l : List Int} (h : onsetsB l = true) (j : Nat) (hj : j + 1 < l.length) : l.getD j 0 < l.getD (j + 1) 0 := by
  unfold onsetsB at h; simp only [Bool.and_eq_true] at h
  have := (allF_iff _).1 h.2 (j + 1) hj (Nat.zero_le _)
  simp only [risQ, Bool.and_eq_true, Bool.or_eq_true, Nat.add_sub_cancel] at this
  rcases this.2 with e | e
  · exact absurd (of_decide_eq_true e) (by omega)
  · exact of_decide_eq_true e
theorem onsetsB_rd {l : List Int} (h : onsetsB l = true) (x : Int) : 0 ≤ rd l x ∧ rd l x ≤ 10000000 := by
  unfold rd
  by_cases hx : x.toNat < l.length
  · exact onsetsB_get h _ hx
  · rw [List.getD_eq_getElem?_getD, List.getElem?_eq_none (by omega)]; simp
/-- the differences of neighbours -/
def gapsL : List Int → List Int
  | a :: b :: l => (b - a) :: gapsL (b :: l)
  | _ => []
theorem gapsL_length (l : List Int) : (gapsL l).length = l.length - 1 := by
  induction l with
  | nil => rfl
  | cons a l ih =>
    cases l with
    | nil => rfl
    | cons b l => simp only [gapsL, List.length_cons]; rw [ih]; simp
theorem gapsL_drop (l : List Int) (i : Nat) (h : i + 1 < l.length) : gapsL (l.drop i) = (l.getD (i + 1) 0 - l.getD i 0) :: gapsL (l.drop (i + 1)) := by
  rw [List.drop_eq_getElem_cons (by omega : i < l.length), List.drop_eq_getElem_cons (by omega : i + 1 < l.length), gapsL, List.getD_eq_getElem?_getD, List.getD_eq_getElem?_getD, List.getElem?_eq_getElem h, List.getElem?_eq_getElem (by omega : i < l.length)]
  rfl
theorem sGaps_l0 (l : List Int) (hl : l.length ≤ 35184372088) (hb : ∀ j, j < l.length → -1000000000 ≤ l.getD j 0 ∧ l.getD j 0 ≤ 1000000000) (d : Nat) : ∀ (i : Nat) (acc : List Int), l.length ≤ i + d + 1 → acc.length ≤ i →
    Ev (fun k => spec_l24Gaps.l0 k l acc ((i + 1 : Nat) : Int)) (acc ++ gapsL (l.drop i)) := by
  induction d with
  | zero =>
    intro i acc h1 h2
    refine Ev.shift ?_
    simp only [spec_l24Gaps.l0]
    refine Ev.neg (by omega) (Ev.some ?_)
    have e : gapsL (l.drop i) = [] := List.eq_nil_of_length_eq_zero (by rw [gapsL_length, List.length_drop]; omega)
    rw [e, List.append_nil]
  | succ d ih =>
    intro i acc h1 h2
    refine Ev.shift ?_
    simp only [spec_l24Gaps.l0]
    by_cases hi : i + 1 < l.length
    · have e1 : wrap64 (((i + 1 : Nat) : Int) - 1) = (i : Int) := by rw [wid (by omega)]; omega
      have b1 := hb i (by omega)
      have b2 := hb (i + 1) hi
      rw [e1, rd_nat, rd_nat, wid (x := l.getD (i + 1) 0 - l.getD i 0) (by omega), wid (x := ((i + 1 : Nat) : Int) + 1) (by omega)]
      refine Ev.pos (by omega) (Ev.pos (by omega) (Ev.pos (by omega) (Ev.pos (by omega) (Ev.pos (by omega) ?_))))
      rw [gapsL_drop l i hi]
      exact Ev.same (ih (i + 1) (acc ++ [l.getD (i + 1) 0 - l.getD i 0]) (by omega) (by rw [List.length_append, List.length_singleton]; omega)) (by simp)
    · refine Ev.neg (by omega) (Ev.some ?_)
      have e : gapsL (l.drop i) = [] := List.eq_nil_of_length_eq_zero (by rw [gapsL_length, List.length_drop]; omega)
      rw [e, List.append_nil]
theorem sGaps (l : List Int) (hl : l.length ≤ 35184372088) (hb : ∀ j, j < l.length → -1000000000 ≤ l.getD j 0 ∧ l.getD j 0 ≤ 1000000000) : Ev (fun k => spec_l24Gaps.f k l) (gapsL l) := by
  unfold spec_l24Gaps.f
  exact sGaps_l0 l hl hb l.length 0 [] (by omega) (by simp)
theorem gaps_same (l : List Int) (k : Nat) : ∀ acc i, impl_gapsOf.l0 k l acc i = spec_l24Gaps.l0 k l acc i := by
  induction k with
  | zero => intro acc i; rfl
  | succ k ih => intro acc i; simp only [impl_gapsOf.l0, spec_l24Gaps.l0, ih]
theorem iGaps (l : List Int) (hl : l.length ≤ 35184372088) (hb : ∀ j, j < l.length → -1000000000 ≤ l.getD j 0 ∧ l.getD j 0 ≤ 1000000000) : Ev (fun k => impl_gapsOf.f k l) (gapsL l) := by
  have := sGaps l hl hb
  unfold spec_l24Gaps.f at this
  unfold impl_gapsOf.f
  simp only [gaps_same]
  exact this
def shL (b : Int) (l : List Int) : List Int := l.map fun x => wrap64 (x + b)
theorem shL_len (b : Int) (l : List Int) : (shL b l).length = l.length := by simp [shL]
theorem shL_get (b : Int) (l : List Int) (i : Nat) (h : i < l.length) : (shL b l).getD i 0 = wrap64 (l.getD i 0 + b) := by
  simp [shL, List.getD_eq_getElem?_getD, h]
theorem take_snocD (l : List Int) (i : Nat) (h : i < l.length) : l.take i ++ [l.getD i 0] = l.take (i + 1) := by
  rw [List.take_add_one, List.getElem?_eq_getElem h, List.getD_eq_getElem?_getD, List.getElem?_eq_getElem h]; rfl
theorem ext_getD (a b : List Int) (hl : a.length = b.length) (h : ∀ j, j < a.length → a.getD j 0 = b.getD j 0) : a = b := by
  refine List.ext_getElem hl fun j h1 h2 => ?_
  have := h j h1
  rwa [List.getD_eq_getElem?_getD, List.getElem?_eq_getElem h1, List.getD_eq_getElem?_getD, List.getElem?_eq_getElem h2] at this
theorem getD_set' (l : List Int) (i j : Nat) (v : Int) (h : i < l.length) : (l.set i v).getD j 0 = if i = j then v else l.getD j 0 := by
  rw [List.getD_eq_getElem?_getD, List.getElem?_set, List.getD_eq_getElem?_getD]
  split
  · rfl
  · rfl
theorem iShift_l0 (b : Int) (l : List Int) (hl : l.length ≤ 35184372) (d : Nat) : ∀ (i : Nat) (acc : List Int), i + d = l.length → acc.length = l.length → (∀ j, j < i → acc.getD j 0 = (shL b l).getD j 0) → (∀ j, i ≤ j → acc.getD j 0 = l.getD j 0) → Ev (fun k => impl_shiftedBy.l0 k b acc (l.length : Int) i) (shL b l) := by
  have hL := shL_len b l
  induction d with
  | zero =>
    intro i acc hi ha h1 h2
    refine Ev.shift ?_
    simp only [impl_shiftedBy.l0]
    refine Ev.neg (by omega) ?_
    rw [ext_getD acc (shL b l) (by omega) (fun j hj => h1 j (by omega))]
    exact Ev.now _
  | succ d ih =>
    intro i acc hi ha h1 h2
    refine Ev.shift ?_
    simp only [impl_shiftedBy.l0]
    refine Ev.pos (by omega) (Ev.pos (by omega) (Ev.pos (by omega) ?_))
    rw [rd_nat, Int.toNat_natCast, show wrap64 ((i : Int) + 1) = ((i + 1 : Nat) : Int) by rw [wid (by omega)]; rfl]
    refine ih (i + 1) _ (by omega) (by rw [List.length_set]; exact ha) (fun j hj => ?_) (fun j hj => ?_)
    · rw [getD_set' acc i j _ (by omega)]
      split
      · rename_i e; subst e; rw [h2 i (Nat.le_refl _), shL_get b l i (by omega)]
      · exact h1 j (by omega)
    · rw [getD_set' acc i j _ (by omega), if_neg (by omega)]
      exact h2 j (by omega)
theorem iShift (b : Int) (l : List Int) (hl : l.length ≤ 35184372) : Ev (fun k => impl_shiftedBy.f k l b) (shL b l) := by
  unfold impl_shiftedBy.f slices_Clone_int64_int64.f
  rw [if_pos (by omega)]
  simp only [Option.bind_some]
  exact iShift_l0 b l hl l.length 0 l (by omega) rfl (fun j hj => by omega) (fun j _ => rfl)
theorem sorted_eq {L S : List Int} (hp : S.Perm L) (hs : S.Pairwise (· ≤ ·)) : S = L.mergeSort fun x y => decide (x ≤ y) := by
  have h2 : (L.mergeSort fun x y => decide (x ≤ y)).Pairwise fun a b => decide (a ≤ b) = true := List.pairwise_mergeSort (fun a b c h1 h2 => by simp only [decide_eq_true_eq] at *; omega) (fun a b => by simp only [Bool.or_eq_true, decide_eq_true_eq]; omega) L
  refine List.Perm.eq_of_pairwise (le := fun a b : Int => a ≤ b) (fun a b _ _ h1 h2 => by omega) hs (h2.imp fun h => of_decide_eq_true h) (hp.trans (List.mergeSort_perm L _).symm)
theorem ms_pairwise (L : List Int) : (L.mergeSort fun x y => decide (x ≤ y)).Pairwise (· ≤ ·) := by
  have h2 : (L.mergeSort fun x y => decide (x ≤ y)).Pairwise fun a b => decide (a ≤ b) = true := List.pairwise_mergeSort (fun a b c h1 h2 => by simp only [decide_eq_true_eq] at *; omega) (fun a b => by simp only [Bool.or_eq_true, decide_eq_true_eq]; omega) L
  exact h2.imp fun h => of_decide_eq_true h
/-- the best of some numbers: (0, 0) of none; else one of them with the greatest count, the least of these -/
def BestG (c : Int → Int) (L : List Int) (p : Int × Int) : Prop := (L = [] ∧ p = (0, 0)) ∨ (p.1 ∈ L ∧ p.2 = c p.1 ∧ ∀ y ∈ L, c y < p.2 ∨ (c y = p.2 ∧ p.1 ≤ y))
theorem BestG.uniq {c : Int → Int} {L L' : List Int} {p q : Int × Int} (h : BestG c L p) (h' : BestG c L' q) (hm : ∀ x, x ∈ L ↔ x ∈ L') : p = q := by
  rcases h with ⟨rfl, rfl⟩ | ⟨h1, h2, h3⟩
  · rcases h' with ⟨rfl, rfl⟩ | ⟨h1', _, _⟩
    · rfl
    · exact absurd ((hm _).2 h1') (by simp)
  · rcases h' with ⟨rfl, rfl⟩ | ⟨h1', h2', h3'⟩
    · exact absurd ((hm _).1 h1) (by simp)
    · have a := h3 _ ((hm _).2 h1')
      have b := h3' _ ((hm _).1 h1)
      have e1 : p.1 = q.1 := by omega
      have e2 : p.2 = q.2 := by rw [h2, h2', e1]
      exact Prod.ext e1 e2
theorem BestG.spec {c : Int → Int} {L : List Int} {b m : Int} (h : BestG c L (b, m)) (g : Int) (hc : 1 ≤ c g) (hm : 0 ≤ m) : BestG c (L ++ [g]) (if c g > m ∨ c g = m ∧ g < b then (g, c g) else (b, m)) := by
  rcases h with ⟨rfl, e⟩ | ⟨h1, h2, h3⟩
  · cases e
    rw [if_pos (by omega)]
    exact .inr ⟨by simp, rfl, fun y hy => by simp at hy; subst hy; right; exact ⟨rfl, Int.le_refl _⟩⟩
  · simp only at h1 h2 h3
    by_cases k : c g > m ∨ c g = m ∧ g < b
    · rw [if_pos k]
      refine .inr ⟨by simp, rfl, fun y hy => ?_⟩
      rcases List.mem_append.1 hy with hy | hy
      · have := h3 y hy; simp only; omega
      · simp at hy; subst hy; right; exact ⟨rfl, Int.le_refl _⟩
    · rw [if_neg k]
      refine .inr ⟨List.mem_append_left _ h1, h2, fun y hy => ?_⟩
      rcases List.mem_append.1 hy with hy | hy
      · exact h3 y hy
      · simp at hy; subst hy; simp only; omega
theorem BestG.impl {c : Int → Int} {L : List Int} {b m : Int} (h : BestG c L (b, m)) (g : Int) (hc : 1 ≤ c g) (hg : ∀ y ∈ L, y ≤ g) : BestG c (L ++ [g]) (if c g > m then (g, c g) else (b, m)) := by
  rcases h with ⟨rfl, e⟩ | ⟨h1, h2, h3⟩
  · cases e
    rw [if_pos (by omega)]
    exact .inr ⟨by simp, rfl, fun y hy => by simp at hy; subst hy; right; exact ⟨rfl, Int.le_refl _⟩⟩
  · simp only at h1 h2 h3
    by_cases k : c g > m
    · rw [if_pos k]
      refine .inr ⟨by simp, rfl, fun y hy => ?_⟩
      rcases List.mem_append.1 hy with hy | hy
      · have := h3 y hy; simp only; omega
      · simp at hy; subst hy; right; exact ⟨rfl, Int.le_refl _⟩
    · rw [if_neg k]
      refine .inr ⟨List.mem_append_left _ h1, h2, fun y hy => ?_⟩
      rcases List.mem_append.1 hy with hy | hy
      · exact h3 y hy
      · simp at hy; subst hy; have := hg b h1; simp only; omega
theorem BestG.pos {c : Int → Int} {L : List Int} {b m : Int} (h : BestG c L (b, m)) (hc : ∀ y ∈ L, 1 ≤ c y) : 0 ≤ m := by
  rcases h with ⟨rfl, e⟩ | ⟨h1, h2, h3⟩
  · cases e; omega
  · have := hc _ h1; simp only at h2; simp only at this; omega
def cntD (near : Int) (L : List Int) (x : Int) (j : Nat) : Nat := (L.drop j).countP fun y => decide (((y - x).natAbs : Int) ≤ near)
theorem cntD_end (near : Int) (L : List Int) (x : Int) (j : Nat) (h : L.length ≤ j) : cntD near L x j = 0 := by
  unfold cntD; rw [List.drop_of_length_le h]; rfl
theorem cntD_step (near : Int) (L : List Int) (x : Int) (j : Nat) (h : j < L.length) : cntD near L x j = cntD near L x (j + 1) + (if ((L.getD j 0 - x).natAbs : Int) ≤ near then 1 else 0) := by
  unfold cntD
  rw [List.drop_eq_getElem_cons h, List.countP_cons, List.getD_eq_getElem?_getD, List.getElem?_eq_getElem h]
  simp
theorem cntD_pos (near : Int) (hn : 0 ≤ near) (L : List Int) (x : Int) (h : x ∈ L) : 1 ≤ (cntD near L x 0 : Int) := by
  have : 0 < cntD near L x 0 := by
    unfold cntD; rw [List.drop_zero]
    exact List.countP_pos_iff.2 ⟨x, h, decide_eq_true (by simpa using hn)⟩
  omega
theorem cntD_perm (near : Int) {L S : List Int} (h : S.Perm L) (x : Int) : cntD near S x 0 = cntD near L x 0 := by
  unfold cntD; rw [List.drop_zero, List.drop_zero]; exact h.countP_eq _
theorem cntD_le (near : Int) (L : List Int) (x : Int) (j : Nat) : cntD near L x j ≤ L.length := by
  unfold cntD
  have := List.countP_le_length (p := fun y => decide (((y - x).natAbs : Int) ≤ near)) (l := L.drop j)
  simp only [List.length_drop] at this; omega
def selI (g n b m : Int) : Int × Int := if n > m then (g, n) else (b, m)
theorem take_snoc (L : List Int) (i : Nat) (h : i < L.length) : L.take (i + 1) = L.take i ++ [L.getD i 0] := by
  rw [List.take_add_one, List.getElem?_eq_getElem h, Option.toList_some, List.getD_eq_getElem?_getD, List.getElem?_eq_getElem h]; rfl
theorem getD_mem (L : List Int) (i : Nat) (h : i < L.length) : L.getD i 0 ∈ L := by
  rw [List.getD_eq_getElem?_getD, List.getElem?_eq_getElem h]; exact List.getElem_mem h
theorem iCG_l1 (near : Int) (L : List Int) (hl : L.length ≤ 48) (hb : ∀ j, j < L.length → -1000000000 ≤ L.getD j 0 ∧ L.getD j 0 ≤ 1000000000) (b m : Int) (i : Nat) (hi : i < L.length) (r : Int × Int × Int) (d : Nat) : ∀ (j : Nat) (c : Int), j + d = L.length → 0 ≤ c → c ≤ j →
    Ev (fun k => impl_CommonGap.l0 k near L (selI (L.getD i 0) (c + cntD near L (L.getD i 0) j) b m).1 (selI (L.getD i 0) (c + cntD near L (L.getD i 0) j) b m).2 L (L.length : Int) ((i + 1 : Nat) : Int)) r →
    Ev (fun k => impl_CommonGap.l1 k near L b m (L.getD i 0) c L (L.length : Int) i L (L.length : Int) j) r := by
  induction d with
  | zero =>
    intro j c h1 h2 h3 H
    rw [cntD_end _ _ _ _ (by omega), Int.natCast_zero, Int.add_zero] at H
    refine Ev.shift ?_
    simp only [impl_CommonGap.l1]
    rw [wid (x := (i : Int) + 1) (by omega)]
    refine Ev.neg (by omega) ?_
    unfold selI at H
    by_cases c1 : c > m
    · rw [if_pos c1] at H
      exact Ev.pos c1 H
    · rw [if_neg c1] at H
      exact Ev.neg c1 H
  | succ d ih =>
    intro j c h1 h2 h3 H
    have b1 := hb j (by omega)
    have b2 := hb i hi
    refine Ev.shift ?_
    simp only [impl_CommonGap.l1, rd_nat]
    rw [wid (x := (j : Int) + 1) (by omega), wid (x := c + 1) (by omega), wid (x := L.getD j 0 - L.getD i 0) (by omega), abs_i _ (by omega)]
    simp only [Option.bind_some]
    refine Ev.pos (by omega) (Ev.pos (by omega) (Ev.pos (by omega) ?_))
    have st := cntD_step near L (L.getD i 0) j (by omega)
    by_cases q : ((L.getD j 0 - L.getD i 0).natAbs : Int) ≤ near
    · rw [if_pos q] at st
      refine Ev.pos q (ih (j + 1) (c + 1) (by omega) (by omega) (by omega) ?_)
      rw [show c + 1 + (cntD near L (L.getD i 0) (j + 1) : Int) = c + (cntD near L (L.getD i 0) j : Int) by omega]
      exact H
    · rw [if_neg q] at st
      refine Ev.neg q (ih (j + 1) c (by omega) (by omega) (by omega) ?_)
      rw [show c + (cntD near L (L.getD i 0) (j + 1) : Int) = c + (cntD near L (L.getD i 0) j : Int) by omega]
      exact H
theorem sorted_take {L : List Int} (h : L.Pairwise (· ≤ ·)) (i : Nat) (hi : i < L.length) : ∀ y ∈ L.take i, y ≤ L.getD i 0 := by
  intro y hy
  obtain ⟨j, hj, rfl⟩ := List.getElem_of_mem hy
  rw [List.length_take] at hj
  rw [List.getElem_take, List.getD_eq_getElem?_getD, List.getElem?_eq_getElem hi]
  exact List.pairwise_iff_getElem.1 h j i (by omega) hi (by omega)
theorem iCG_l0 (near : Int) (hn : 0 ≤ near) (L : List Int) (hs : L.Pairwise (· ≤ ·)) (hl : L.length ≤ 48) (hb : ∀ j, j < L.length → -1000000000 ≤ L.getD j 0 ∧ L.getD j 0 ≤ 1000000000) (d : Nat) : ∀ (i : Nat) (b m : Int), i + d = L.length → BestG (fun x => (cntD near L x 0 : Int)) (L.take i) (b, m) →
    ∃ p, BestG (fun x => (cntD near L x 0 : Int)) L p ∧ Ev (fun k => impl_CommonGap.l0 k near L b m L (L.length : Int) i) (p.1, p.2, 0) := by
  induction d with
  | zero =>
    intro i b m h1 h2
    rw [List.take_of_length_le (by omega)] at h2
    refine ⟨(b, m), h2, Ev.shift ?_⟩
    simp only [impl_CommonGap.l0]
    exact Ev.neg (by omega) (Ev.now _)
  | succ d ih =>
    intro i b m h1 h2
    have hp : ∀ y ∈ L, 1 ≤ (cntD near L y 0 : Int) := fun y hy => cntD_pos near hn L y hy
    have st := h2.impl (L.getD i 0) (hp _ (getD_mem L i (by omega))) (sorted_take hs i (by omega))
    rw [← take_snoc L i (by omega)] at st
    obtain ⟨p, hp1, hp2⟩ := ih (i + 1) (selI (L.getD i 0) (cntD near L (L.getD i 0) 0) b m).1 (selI (L.getD i 0) (cntD near L (L.getD i 0) 0) b m).2 (by omega) st
    refine ⟨p, hp1, Ev.shift ?_⟩
    simp only [impl_CommonGap.l0, rd_nat]
    refine Ev.pos (by omega) (Ev.pos (by omega) (Ev.pos (by omega) ?_))
    refine iCG_l1 near L hl hb b m i (by omega) _ L.length 0 0 (by omega) (by omega) (by omega) ?_
    rw [Int.zero_add]
    exact hp2
theorem iGaps_any (l : List Int) (hl : l.length ≤ 35184372088) (d : Nat) : ∀ (i : Nat) (acc : List Int), l.length ≤ i + d → 1 ≤ i → acc.length ≤ i → ∃ r, Ev (fun k => impl_gapsOf.l0 k l acc i) r := by
  induction d with
  | zero =>
    intro i acc h1 h2 h3
    refine ⟨acc, Ev.shift ?_⟩
    simp only [impl_gapsOf.l0]
    exact Ev.neg (by omega) (Ev.now _)
  | succ d ih =>
    intro i acc h1 h2 h3
    by_cases hi : i < l.length
    · obtain ⟨r, hr⟩ := ih (i + 1) (acc ++ [wrap64 (rd l i - rd l (wrap64 ((i : Int) - 1)))]) (by omega) (by omega) (by simp; omega)
      refine ⟨r, Ev.shift ?_⟩
      simp only [impl_gapsOf.l0]
      rw [wid (x := (i : Int) + 1) (by omega)]
      have e1 : wrap64 ((i : Int) - 1) = (i : Int) - 1 := wid (by omega)
      refine Ev.pos (by omega) (Ev.pos (by omega) (Ev.pos (by omega) (Ev.pos (by omega) (Ev.pos (by omega) ?_))))
      exact hr
    · refine ⟨acc, Ev.shift ?_⟩
      simp only [impl_gapsOf.l0]
      exact Ev.neg (by omega) (Ev.now _)
theorem gapsL_get (l : List Int) : ∀ j, j + 1 < l.length → (gapsL l).getD j 0 = l.getD (j + 1) 0 - l.getD j 0 := by
  induction l with
  | nil => intro j h; simp at h
  | cons a r ih =>
    cases r with
    | nil => intro j h; simp at h
    | cons b r =>
      intro j h
      cases j with
      | zero => rfl
      | succ j => exact ih j (by simpa using h)
theorem gaps_bound (l : List Int) (h : onsetsB l = true) : ∀ j, j < (gapsL l).length → -1000000000 ≤ (gapsL l).getD j 0 ∧ (gapsL l).getD j 0 ≤ 1000000000 := by
  intro j hj
  rw [gapsL_length] at hj
  rw [gapsL_get l j (by omega)]
  have := onsetsB_get h j (by omega)
  have := onsetsB_get h (j + 1) (by omega)
  omega
theorem and255 (x : Int) : 0 ≤ wrap64 (Go.bits .and .u64 x 255) ∧ wrap64 (Go.bits .and .u64 x 255) ≤ 255 := by
  have e : Go.bits .and .u64 x 255 = IntKind.u64.wrap ((BitVec.ofInt 64 x &&& BitVec.ofInt 64 255).toNat : Int) := rfl
  have h : (BitVec.ofInt 64 x &&& BitVec.ofInt 64 255).toNat ≤ 255 := by
    rw [BitVec.toNat_and]
    exact Nat.le_trans Nat.and_le_right (by decide)
  generalize (BitVec.ofInt 64 x &&& BitVec.ofInt 64 255).toNat = n at e h
  have e2 : IntKind.u64.wrap (n : Int) = n := by
    unfold IntKind.wrap
    simp [IntKind.bits, IntKind.signed]
    omega
  rw [e, e2, wid (by omega)]
  omega
def bytesB (l : List Int) : Prop := ∀ j, j < l.length → 0 ≤ l.getD j 0 ∧ l.getD j 0 ≤ 255
theorem next_ok (l : List Int) (hb : bytesB l) (a s : Int) (h0 : 0 ≤ a) (h1 : a ≤ 4000000000000000000) : ∃ v s', spec_l00Src_next.f l a s = some (v, a + 1, s') ∧ 0 ≤ v ∧ v ≤ 255 := by
  unfold spec_l00Src_next.f
  rw [wid (x := a + 1) (by omega)]
  by_cases c : a < (l.length : Int)
  · have q := hb a.toNat (by omega)
    have e : rd l a = l.getD a.toNat 0 := rfl
    rw [if_pos c, if_pos h0, if_pos (by omega), e, wid (x := l.getD a.toNat 0) (by omega)]
    exact ⟨_, _, rfl, q⟩
  · rw [if_neg c, if_neg (by omega)]
    exact ⟨_, _, rfl, and255 _⟩
theorem pick_ok (l : List Int) (hb : bytesB l) (a s n : Int) (h0 : 0 ≤ a) (h1 : a ≤ 3000000000000000000) (hn : n ≤ 1000000) : ∃ v a' s', spec_l00Src_pick.f l a s n = some (v, a', s') ∧ 0 ≤ v ∧ (v < n ∨ v = 0) ∧ a ≤ a' ∧ a' ≤ a + 2 := by
  unfold spec_l00Src_pick.f
  by_cases c : n ≤ 1
  · rw [if_pos c]; exact ⟨_, _, _, rfl, Int.le_refl _, .inr rfl, Int.le_refl _, by omega⟩
  rw [if_neg c]
  obtain ⟨v, s1, e1, v0, v1⟩ := next_ok l hb a s h0 (by omega)
  rw [e1]
  simp only [Option.bind_some]
  have tm : ∀ x : Int, 0 ≤ x → 0 ≤ Int.tmod x n ∧ Int.tmod x n < n := fun x hx => by
    rw [Int.tmod_eq_emod_of_nonneg hx]
    exact ⟨Int.emod_nonneg _ (by omega), Int.emod_lt_of_pos _ (by omega)⟩
  by_cases c2 : n > 200
  · rw [if_pos c2]
    obtain ⟨v', s2, e2, v0', v1'⟩ := next_ok l hb (a + 1) s1 (by omega) (by omega)
    rw [e2]
    simp only [Option.bind_some]
    rw [if_neg (by omega), wid (x := v * 256) (by omega), wid (x := v * 256 + v') (by omega)]
    have := tm (v * 256 + v') (by omega)
    exact ⟨_, _, _, rfl, this.1, .inl this.2, by omega, by omega⟩
  · rw [if_neg c2, if_neg (by omega)]
    have := tm v v0
    exact ⟨_, _, _, rfl, this.1, .inl this.2, by omega, by omega⟩
theorem among_ok (l : List Int) (hb : bytesB l) (a s : Int) (m : List Int) (h0 : 0 ≤ a) (h1 : a ≤ 3000000000000000000) (hm : 0 < m.length) (hm2 : m.length ≤ 1000000) : ∃ v a' s', spec_l00Src_among.f l a s m = some (v, a', s') ∧ v ∈ m ∧ a ≤ a' ∧ a' ≤ a + 2 := by
  unfold spec_l00Src_among.f
  obtain ⟨v, a', s', e, v0, v1, a0, a1⟩ := pick_ok l hb a s (m.length : Int) h0 h1 (by omega)
  rw [e]
  simp only [Option.bind_some]
  have hv : v < (m.length : Int) := by rcases v1 with h | h <;> omega
  rw [if_pos v0, if_pos hv]
  refine ⟨_, _, _, rfl, ?_, a0, a1⟩
  have : rd m v = m.getD v.toNat 0 := rfl
  rw [this, List.getD_eq_getElem?_getD, List.getElem?_eq_getElem (by omega)]
  exact List.getElem_mem _
theorem put_l0 (x : List Int) (t : Int) (hx : x.length ≤ 1000000) (d : Nat) : ∀ (i : Nat) (acc : List Int) (b : Bool), i + d = x.length → acc.length ≤ i + 1 → ((b = false) → acc.length ≤ i) → ∃ r : List Int, r.length ≤ x.length + 1 ∧ Ev (fun k => spec_l00Put.l0 k x t acc b i) r := by
  induction d with
  | zero =>
    intro i acc b h1 h2 h3
    cases b with
    | true =>
      refine ⟨acc, by omega, Ev.shift ?_⟩
      simp only [spec_l00Put.l0]
      exact Ev.neg (by omega) (Ev.pos trivial (Ev.now _))
    | false =>
      have := h3 rfl
      refine ⟨acc ++ [t], by simp; omega, Ev.shift ?_⟩
      simp only [spec_l00Put.l0]
      exact Ev.neg (by omega) (Ev.neg (by simp) (Ev.pos (by omega) (Ev.now _)))
  | succ d ih =>
    intro i acc b h1 h2 h3
    have w1 : wrap64 ((i : Int) + 1) = ((i + 1 : Nat) : Int) := by rw [wid (by omega)]; rfl
    have jf : ∀ b' : Bool, b' = b → ∃ r : List Int, r.length ≤ x.length + 1 ∧ Ev (fun k => spec_l00Put.j1 k x t acc b' i false) r := by
      intro b' hb
      subst hb
      obtain ⟨r, r1, r2⟩ := ih (i + 1) (acc ++ [rd x i]) b' (by omega) (by simp; omega) (fun e => by have := h3 e; simp; omega)
      refine ⟨r, r1, Ev.shift ?_⟩
      simp only [spec_l00Put.j1, w1]
      exact Ev.neg (by simp) (Ev.pos (by omega) (Ev.pos (by omega) (Ev.pos (by omega) r2)))
    cases b with
    | true =>
      obtain ⟨r, r1, r2⟩ := jf true rfl
      refine ⟨r, r1, Ev.shift ?_⟩
      simp only [spec_l00Put.l0]
      exact Ev.pos (by omega) (Ev.pos trivial r2)
    | false =>
      have hle := h3 rfl
      by_cases c : rd x (i : Int) ≥ t
      · have hj : ∃ r : List Int, r.length ≤ x.length + 1 ∧ Ev (fun k => spec_l00Put.j1 k x t acc false i true) r := by
          by_cases c2 : rd x (i : Int) > t
          · obtain ⟨r, r1, r2⟩ := ih (i + 1) ((acc ++ [t]) ++ [rd x i]) true (by omega) (by simp; omega) (fun e => by cases e)
            refine ⟨r, r1, Ev.shift ?_⟩
            simp only [spec_l00Put.j1, w1]
            refine Ev.pos trivial (Ev.pos (by omega) (Ev.pos (by omega) (Ev.pos c2 (Ev.pos (by omega) ?_))))
            simp only [Option.bind_some]
            exact Ev.pos (by simp; omega) r2
          · obtain ⟨r, r1, r2⟩ := ih (i + 1) (acc ++ [rd x i]) true (by omega) (by simp; omega) (fun e => by cases e)
            refine ⟨r, r1, Ev.shift ?_⟩
            simp only [spec_l00Put.j1, w1]
            exact Ev.pos trivial (Ev.pos (by omega) (Ev.pos (by omega) (Ev.neg c2 (Ev.pos (by omega) r2))))
        obtain ⟨r, r1, r2⟩ := hj
        refine ⟨r, r1, Ev.shift ?_⟩
        simp only [spec_l00Put.l0]
        refine Ev.pos (by omega) (Ev.neg (by simp) (Ev.pos (by omega) ?_))
        rw [decide_eq_true c]; exact r2
      · obtain ⟨r, r1, r2⟩ := jf false rfl
        refine ⟨r, r1, Ev.shift ?_⟩
        simp only [spec_l00Put.l0]
        refine Ev.pos (by omega) (Ev.neg (by simp) (Ev.pos (by omega) ?_))
        rw [decide_eq_false c]; exact r2
theorem put_ok (x : List Int) (t : Int) (hx : x.length ≤ 1000000) : ∃ r : List Int, r.length ≤ x.length + 1 ∧ Ev (fun k => spec_l00Put.f k x t) r := by
  unfold spec_l00Put.f
  exact put_l0 x t hx x.length 0 [] false (by omega) (by simp) (fun _ => by simp)
theorem drawOk24_l0 (l : List Int) (hb : bytesB l) (g : Int) (d : Nat) (hd : d ≤ 100) : ∀ (x : List Int) (t a s : Int), x.length ≤ 1000 - d → 0 ≤ a → a ≤ 2000000 - 4 * d → ∃ r a' s', r.length ≤ 1000 ∧ 0 ≤ a' ∧ a' ≤ 2000000 ∧ Ev (fun k => spec_l24DrawOk.l0 k x t g d l a s) (r, a', s') := by
  induction d with
  | zero =>
    intro x t a s h1 h2 h3
    refine ⟨x, a, s, by omega, h2, by omega, Ev.shift ?_⟩
    simp only [spec_l24DrawOk.l0]
    exact Ev.neg (by omega) (Ev.now _)
  | succ d ih =>
    intro x t a s h1 h2 h3
    obtain ⟨p, p1, p2⟩ := put_ok x t (by omega)
    obtain ⟨v2, a2, s2, e2, _, b3, b4⟩ := among_ok l hb a s [0, 0, 10, 30, 100] (by omega) (by omega) (by simp) (by simp)
    obtain ⟨r, a', s', q1, q3, q4, q5⟩ := ih (by omega) p (wrap64 (t + (wrap64 (g + v2)))) a2 s2 (by omega) (by omega) (by omega)
    refine ⟨r, a', s', q1, q3, q4, Ev.shift ?_⟩
    simp only [spec_l24DrawOk.l0]
    refine Ev.pos (by omega) (Ev.bind p2 ?_)
    simp only [e2, Option.bind_some]
    rw [show wrap64 (((d + 1 : Nat) : Int) - 1) = (d : Int) by rw [wid (by omega)]; omega]
    exact q5
theorem draw24_l0 (l : List Int) (a s : Int) (n d : Nat) (hn : n ≤ 100) : ∀ (i : Nat) (x : List Int), i + d = n → x.length = i → ∃ r : List Int, r.length ≤ 1000 ∧ Ev (fun k => spec_l24Draw.l0 k x (n : Int) i l a s) (r, a, s) := by
  induction d with
  | zero =>
    intro i x h1 h2
    refine ⟨x, by omega, Ev.shift ?_⟩
    simp only [spec_l24Draw.l0]
    exact Ev.neg (by omega) (Ev.now _)
  | succ d ih =>
    intro i x h1 h2
    obtain ⟨r, q1, q2⟩ := ih (i + 1) (x ++ [wrap64 (500 * i)]) (by omega) (by simp; omega)
    refine ⟨r, q1, Ev.shift ?_⟩
    simp only [spec_l24Draw.l0]
    refine Ev.pos (by omega) (Ev.pos (by omega) ?_)
    rw [wid (x := (i : Int) + 1) (by omega)]
    exact q2
theorem draw24 (l : List Int) (hb : bytesB l) (a s : Int) (h0 : 0 ≤ a) (h1 : a ≤ 1000) : ∃ (r : List Int) (a' s' : Int), r.length ≤ 2000 ∧ 0 ≤ a' ∧ a' ≤ 3000000 ∧ Ev (fun k => spec_l24Draw.f k l a s) (r, a', s') := by
  unfold spec_l24Draw.f spec_l24DrawOk.f
  obtain ⟨v, a1, s1, e1, _, _, b1, b2⟩ := pick_ok l hb a s 8 h0 (by omega) (by omega)
  obtain ⟨v2, a2, s2, e2, _, _, b3, b4⟩ := pick_ok l hb a1 s1 8 (by omega) (by omega) (by omega)
  obtain ⟨v3, a3, s3, e3, v30, v31, b5, b6⟩ := pick_ok l hb a2 s2 9 (by omega) (by omega) (by omega)
  obtain ⟨n, rfl⟩ := Int.eq_ofNat_of_zero_le v30
  have hn : n ≤ 9 := by rcases v31 with h | h <;> omega
  obtain ⟨r, a4, s4, r1, b7, b8, ev⟩ := drawOk24_l0 l hb (wrap64 (100 * (wrap64 (2 + v2)))) n (by omega) [] (wrap64 (100 * v)) a3 s3 (by simp) (by omega) (by omega)
  obtain ⟨v5, a5, s5, e5, _, _, b9, b10⟩ := pick_ok l hb a4 s4 22 (by omega) (by omega) (by omega)
  simp only [e1, e2, e3, Option.bind_some]
  by_cases c0 : v5 = 0
  · obtain ⟨v6, a6, s6, e6, _, b11, b12⟩ := among_ok l hb a5 s5 [-1, 0, 10000000, 10000001] (by omega) (by omega) (by simp) (by simp)
    refine ⟨r ++ [v6], a6, s6, by simp; omega, by omega, by omega, Ev.bind ev ?_⟩
    simp only [e5, Option.bind_some]
    refine Ev.pos c0 ?_
    rw [e6]
    exact Ev.some (by simp only [Option.bind_some]; rw [if_pos (by omega)])
  by_cases c1 : v5 = 1
  · obtain ⟨v6, a6, s6, e6, hv6, b11, b12⟩ := among_ok l hb a5 s5 [48, 49] (by omega) (by omega) (by simp) (by simp)
    have h5 : 0 ≤ v6 ∧ v6 ≤ 49 := by simp at hv6; omega
    obtain ⟨m, rfl⟩ := Int.eq_ofNat_of_zero_le h5.1
    obtain ⟨r5, q1, q2⟩ := draw24_l0 l a6 s6 m m (by omega) 0 [] (by omega) rfl
    refine ⟨r5, a6, s6, by omega, by omega, by omega, Ev.bind ev ?_⟩
    simp only [e5, Option.bind_some]
    refine Ev.neg c0 (Ev.pos c1 ?_)
    simp only [e6, Option.bind_some]
    exact q2
  · refine ⟨r, a5, s5, by omega, by omega, by omega, Ev.bind ev ?_⟩
    simp only [e5, Option.bind_some]
    exact Ev.neg c0 (Ev.neg c1 (Ev.now _))
theorem numsB (a : List Int) (hl : a.length ≤ 35184372088832) (d : Nat) : ∀ i : Nat, i + d = a.length → Ev (fun k => laws_b10Nums.l0 k a a i) true := by
  induction d with
  | zero =>
    intro i h
    refine Ev.shift ?_
    simp only [laws_b10Nums.l0]
    exact Ev.neg (by omega) (Ev.now _)
  | succ d ih =>
    intro i h
    refine Ev.shift ?_
    simp only [laws_b10Nums.l0]
    refine Ev.pos (by omega) (Ev.pos (by omega) (Ev.pos (by omega) (Ev.pos (by trivial) ?_)))
    rw [wid (by omega)]
    exact ih (i + 1) (by omega)
theorem nums (a : List Int) (hl : a.length ≤ 35184372088832) : Ev (fun k => laws_b10Nums.f k a a) true := by
  unfold laws_b10Nums.f
  exact Ev.pos rfl (numsB a hl a.length 0 (by omega))
/-- the sum of the gaps up to a place -/
theorem sumG (l : List Int) (v : onsetsB l = true) (h1 : 1 ≤ l.length) (d : Nat) : ∀ i : Nat, i + d + 1 = l.length → Ev (fun k => laws_b10Sum.l0 k (gapsL l) (l.getD i 0 - l.getD 0 0) i) (l.getD (l.length - 1) 0 - l.getD 0 0) := by
  have hgl := gapsL_length l
  have h48 := onsetsB_len v
  induction d with
  | zero =>
    intro i h
    refine Ev.shift ?_
    simp only [laws_b10Sum.l0]
    refine Ev.neg (by omega) (Ev.some ?_)
    rw [show l.length - 1 = i by omega]
  | succ d ih =>
    intro i h
    refine Ev.shift ?_
    simp only [laws_b10Sum.l0]
    have b0 := onsetsB_get v 0 (by omega)
    have b1 := onsetsB_get v i (by omega)
    have b2 := onsetsB_get v (i + 1) (by omega)
    refine Ev.pos (by omega) (Ev.pos (by omega) ?_)
    rw [rd_nat, gapsL_get l i (by omega), show l.getD i 0 - l.getD 0 0 + (l.getD (i + 1) 0 - l.getD i 0) = l.getD (i + 1) 0 - l.getD 0 0 by omega, wid (x := l.getD (i + 1) 0 - l.getD 0 0) (by omega), wid (by omega)]
    exact ih (i + 1) (by omega)
theorem sumGaps (l : List Int) (v : onsetsB l = true) (h1 : 1 ≤ l.length) : Ev (fun k => laws_b10Sum.f k (gapsL l)) (l.getD (l.length - 1) 0 - l.getD 0 0) := by
  unfold laws_b10Sum.f
  have := sumG l v h1 (l.length - 1) 0 (by omega)
  rw [Int.sub_self] at this
  exact this
theorem rise (l : List Int) (v : onsetsB l = true) (i d : Nat) (h : i + d + 1 < l.length) : l.getD i 0 < l.getD (i + d + 1) 0 := by
  induction d with
  | zero => exact onsetsB_lt v i h
  | succ d ih =>
    have := ih (by omega)
    have := onsetsB_lt v (i + d + 1) (by omega)
    rw [show i + (d + 1) + 1 = i + d + 1 + 1 by omega]
    omega
theorem riseNe (l : List Int) (v : onsetsB l = true) (i j : Nat) (hi : i < l.length) (hj : j < l.length) (h : i ≠ j) : l.getD i 0 ≠ l.getD j 0 := by
  rcases Nat.lt_or_gt_of_ne h with h | h
  · have := rise l v i (j - i - 1) (by omega)
    rw [show i + (j - i - 1) + 1 = j by omega] at this; omega
  · have := rise l v j (i - j - 1) (by omega)
    rw [show j + (i - j - 1) + 1 = i by omega] at this; omega
/-- the nearest onset to one of them is this one -/
theorem nearAt (l : List Int) (v : onsetsB l = true) (t : Nat) (ht : t < l.length) (d : Nat) : ∀ (i b : Nat), i + d = l.length → b < l.length → (t < i → b = t) → Ev (fun k => impl_NearestOnset.l0 k l (l.getD t 0) b l (l.length : Int) i) ((t : Int), 0, 0) := by
  have h48 := onsetsB_len v
  have bt := onsetsB_get v t ht
  induction d with
  | zero =>
    intro i b h1 h2 h3
    obtain rfl := h3 (by omega)
    refine Ev.shift ?_
    simp only [impl_NearestOnset.l0, rd_nat]
    refine Ev.neg (by omega) (Ev.pos (by omega) (Ev.pos (by omega) (Ev.some ?_)))
    rw [Int.sub_self, wid (by omega)]
  | succ d ih =>
    intro i b h1 h2 h3
    have bi := onsetsB_get v i (by omega)
    have bb := onsetsB_get v b h2
    refine Ev.shift ?_
    simp only [impl_NearestOnset.l0, rd_nat]
    rw [wid (x := l.getD i 0 - l.getD t 0) (by omega), wid (x := l.getD b 0 - l.getD t 0) (by omega), wid (x := (i : Int) + 1) (by omega), abs_i _ (by omega), abs_i _ (by omega)]
    simp only [Option.bind_some]
    refine Ev.pos (by omega) (Ev.pos (by omega) (Ev.pos (by omega) (Ev.pos (by omega) (Ev.pos (by omega) ?_))))
    by_cases c : ((l.getD i 0 - l.getD t 0).natAbs : Int) < ((l.getD b 0 - l.getD t 0).natAbs : Int)
    · refine Ev.pos c (ih (i + 1) i (by omega) (by omega) (fun hti => ?_))
      rcases Nat.lt_or_ge t i with h | h
      · have e := h3 h
        rw [e, Int.sub_self] at c
        simp at c; omega
      · omega
    · refine Ev.neg c (ih (i + 1) b (by omega) h2 (fun hti => ?_))
      rcases Nat.lt_or_ge t i with h | h
      · exact h3 h
      · obtain rfl : t = i := by omega
        rw [Int.sub_self] at c
        by_cases e : b = t
        · exact e
        · have := riseNe l v b t h2 ht e
          exact absurd (show (((0 : Int).natAbs : Nat) : Int) < ((l.getD b 0 - l.getD t 0).natAbs : Int) by omega) c
theorem nearOn (l : List Int) (v : onsetsB l = true) (t : Nat) (ht : t < l.length) : Ev (fun k => impl_NearestOnset.f k l (l.getD t 0)) ((t : Int), 0, 0) := by
  have h48 := onsetsB_len v
  have bt := onsetsB_get v t ht
  unfold impl_NearestOnset.f
  have hv := iOnsets l (by omega)
  rw [v] at hv
  rw [within_eq]
  simp only [Option.bind_some]
  exact Ev.bind hv (Ev.pos rfl (Ev.pos (decide_eq_true bt) (Ev.neg (by omega) (nearAt l v t ht l.length 0 0 (by omega) (by omega) (fun h => by omega)))))
theorem fitOne_l0 (l : List Int) (v : onsetsB l = true) (d : Nat) : ∀ i : Nat, i + d = l.length → Ev (fun k => impl_FitGrid.l0 k 1 0 0 l (l.length : Int) i) (0, 0) := by
  have h48 := onsetsB_len v
  induction d with
  | zero =>
    intro i h
    refine Ev.shift ?_
    simp only [impl_FitGrid.l0]
    exact Ev.neg (by omega) (Ev.now _)
  | succ d ih =>
    intro i h
    have bi := onsetsB_get v i (by omega)
    have st := ih (i + 1) (by omega)
    refine Ev.shift ?_
    simp only [impl_FitGrid.l0, rd_nat]
    rw [wid (x := (i : Int) + 1) (by omega)]
    refine Ev.pos (by omega) (Ev.pos (by omega) (Ev.pos (by omega) ?_))
    by_cases c : l.getD i 0 ≤ 0
    · refine Ev.pos c ?_
      rw [show l.getD i 0 = 0 by omega, show wrap64 (0 + wrap64 (0 - 0)) = 0 by unfold wrap64; omega]
      exact st
    · refine Ev.neg c (Ev.neg (by omega) ?_)
      rw [wid (x := l.getD i 0 - 0) (by omega), show Int.tmod (l.getD i 0 - 0) 1 = 0 by rw [Int.tmod_one], show wrap64 (0 + mn 0 (wrap64 (1 - 0))) = 0 by unfold mn wrap64; split <;> omega]
      exact st
theorem fitOne (l : List Int) (v : onsetsB l = true) : Ev (fun k => impl_FitGrid.f k l 1 0) (0, 0) := by
  have h48 := onsetsB_len v
  unfold impl_FitGrid.f
  have hv := iOnsets l (by omega)
  rw [v] at hv
  rw [within_eq, within_eq]
  simp only [Option.bind_some]
  exact Ev.bind hv (Ev.pos rfl (Ev.pos (by decide) (Ev.pos (by decide) (fitOne_l0 l v l.length 0 (by omega)))))
theorem iShiftOn (l : List Int) (b : Int) (hl : l.length ≤ 1000000) : ∃ q, Ev (fun k => impl_ShiftOnsets.f k l b) q ∧ (q.2 = 0 → onsetsB l = true ∧ (-10000000 ≤ b ∧ b ≤ 10000000) ∧ q.1 = shL b l ∧ onsetsB (shL b l) = true) := by
  unfold impl_ShiftOnsets.f
  rw [within_eq]
  simp only [Option.bind_some]
  have hv := iOnsets l (by omega)
  cases v : onsetsB l with
  | false =>
    rw [v] at hv
    exact ⟨([], 1), Ev.bind hv (Ev.neg (by decide) (Ev.now _)), fun h => by cases h⟩
  | true =>
    rw [v] at hv
    have h48 := onsetsB_len v
    by_cases h : -10000000 ≤ b ∧ b ≤ 10000000
    · have hs := iShift b l (by omega)
      have hw := iOnsets (shL b l) (by rw [shL_len]; omega)
      cases w : onsetsB (shL b l) with
      | false =>
        rw [w] at hw
        exact ⟨([], 6), Ev.bind hv (Ev.pos rfl (Ev.pos (decide_eq_true h) (Ev.bind hs (Ev.bind hw (Ev.neg (by decide) (Ev.now _)))))), fun h => by cases h⟩
      | true =>
        rw [w] at hw
        exact ⟨(shL b l, 0), Ev.bind hv (Ev.pos rfl (Ev.pos (decide_eq_true h) (Ev.bind hs (Ev.bind hw (Ev.pos rfl (Ev.now _)))))), fun _ => ⟨rfl, h, rfl, rfl⟩⟩
    · exact ⟨([], 2), Ev.bind hv (Ev.pos rfl (Ev.neg (by rw [decide_eq_true_iff]; exact h) (Ev.now _))), fun h => by cases h⟩
theorem shBack (l : List Int) (v : onsetsB l = true) (b : Int) (hb : -10000000 ≤ b ∧ b ≤ 10000000) : shL (-b) (shL b l) = l := by
  unfold shL
  rw [List.map_map]
  conv => rhs; rw [← List.map_id l]
  refine List.map_congr_left fun x hx => ?_
  obtain ⟨j, hj, rfl⟩ := List.getElem_of_mem hx
  have := onsetsB_get v j hj
  rw [List.getD_eq_getElem?_getD, List.getElem?_eq_getElem hj, Option.getD_some] at this
  simp only [Function.comp, id]
  rw [wid (x := l[j] + b) (by omega), wid (by omega)]; omega
theorem shGaps (l : List Int) (v : onsetsB l = true) (b : Int) (hb : -10000000 ≤ b ∧ b ≤ 10000000) : gapsL (shL b l) = gapsL l := by
  have hl : (gapsL (shL b l)).length = (gapsL l).length := by rw [gapsL_length, gapsL_length, shL_len]
  refine ext_getD _ _ hl fun j hj => ?_
  rw [gapsL_length, shL_len] at hj
  rw [gapsL_get _ j (by rw [shL_len]; omega), gapsL_get l j (by omega), shL_get b l j (by omega), shL_get b l (j + 1) (by omega)]
  have b1 := onsetsB_get v j (by omega)
  have b2 := onsetsB_get v (j + 1) (by omega)
  rw [wid (x := l.getD j 0 + b) (by omega), wid (x := l.getD (j + 1) 0 + b) (by omega)]; omega
theorem iGapsOn (l : List Int) (v : onsetsB l = true) : Ev (fun k => impl_GapsOf.f k l) (gapsL l, 0) := by
  have h48 := onsetsB_len v
  unfold impl_GapsOf.f
  have hv := iOnsets l (by omega)
  rw [v] at hv
  exact Ev.bind hv (Ev.pos rfl (Ev.bind (iGaps l (by omega) (fun j hj => by have := onsetsB_get v j hj; omega)) (Ev.now _)))
theorem iCommon (l : List Int) (near : Int) (hl : l.length ≤ 1000000) : ∃ q, Ev (fun k => impl_CommonGap.f k l near) q ∧ (q.2.2 ≠ 0 → q.1 = 0 ∧ q.2.1 = 0) ∧ (q.2.2 = 0 → onsetsB l = true ∧ (0 ≤ near ∧ near ≤ 10000000) ∧ gapsL l ≠ [] ∧ BestG (fun x => (cntD near (gapsL l) x 0 : Int)) (gapsL l) (q.1, q.2.1)) := by
  obtain ⟨r0, hr0⟩ : ∃ r, Ev (fun k => impl_gapsOf.f k l) r := by
    unfold impl_gapsOf.f
    exact iGaps_any l (by omega) l.length 1 [] (by omega) (by omega) (by simp)
  unfold impl_CommonGap.f
  cases h : onsetsB l with
  | false =>
    refine ⟨(0, 0, 1), Ev.bind hr0 (Ev.bind (iOnsets l (by omega)) ?_), fun _ => ⟨rfl, rfl⟩, fun h => by cases h⟩
    rw [h]; exact Ev.neg (by decide) (Ev.now _)
  | true =>
    have h48 := onsetsB_len h
    have hb : ∀ j, j < l.length → -1000000000 ≤ l.getD j 0 ∧ l.getD j 0 ≤ 1000000000 := fun j hj => by have := onsetsB_get h j hj; omega
    have hv := iOnsets l (by omega)
    rw [h] at hv
    rw [within_eq]
    simp only [Option.bind_some]
    by_cases hn : 0 ≤ near ∧ near ≤ 10000000
    · have hgl : (gapsL l).length ≤ 48 := by rw [gapsL_length]; omega
      have hgb := gaps_bound l h
      by_cases z : (gapsL l).length = 0
      · exact ⟨(0, 0, 3), Ev.bind (iGaps l (by omega) hb) (Ev.bind hv (Ev.pos rfl (Ev.pos (decide_eq_true hn) (Ev.pos (by omega) (Ev.now _))))), fun _ => ⟨rfl, rfl⟩, fun h => by cases h⟩
      · have hsl : ((gapsL l).mergeSort fun x y => decide (x ≤ y)).length = (gapsL l).length := List.length_mergeSort _
        have hperm := List.mergeSort_perm (gapsL l) fun x y => decide (x ≤ y)
        obtain ⟨p', hp1', hp2'⟩ := iCG_l0 near hn.1 ((gapsL l).mergeSort fun x y => decide (x ≤ y)) (ms_pairwise _) (by omega) (fun j hj => by
          have hm := hperm.mem_iff.1 (getD_mem _ j hj)
          obtain ⟨i, hi, e⟩ := List.getElem_of_mem hm
          have := hgb i hi
          rw [List.getD_eq_getElem?_getD, List.getElem?_eq_getElem hi, Option.getD_some, e] at this
          exact this) (gapsL l).length 0 0 0 (by omega) (by rw [List.take_zero]; exact .inl ⟨rfl, rfl⟩)
        have ec : (fun x => (cntD near ((gapsL l).mergeSort fun x y => decide (x ≤ y)) x 0 : Int)) = fun x => (cntD near (gapsL l) x 0 : Int) := by
          funext x; rw [cntD_perm near hperm]
        rw [ec] at hp1'
        refine ⟨(p'.1, p'.2, 0), Ev.bind (iGaps l (by omega) hb) (Ev.bind hv (Ev.pos rfl (Ev.pos (decide_eq_true hn) (Ev.neg (by omega) ?_)))), fun h => absurd rfl h, fun _ => ⟨by first | trivial | rfl, hn, fun e => z (by rw [e]; rfl), ?_⟩⟩
        · unfold slices_Sort_int64_int64.f
          rw [if_pos (by omega)]
          simp only [Option.bind_some]
          rw [hsl] at hp2'
          exact hp2'
        · rcases hp1' with ⟨e, _⟩ | ⟨e1, e2, e3⟩
          · rw [e] at hsl; simp at hsl; exact absurd hsl.symm (by omega)
          · exact .inr ⟨hperm.mem_iff.1 e1, e2, fun y hy => e3 y (hperm.mem_iff.2 hy)⟩
    · exact ⟨(0, 0, 2), Ev.bind (iGaps l (by omega) hb) (Ev.bind hv (Ev.pos rfl (Ev.neg (by rw [decide_eq_true_iff]; exact hn) (Ev.now _)))), fun _ => ⟨rfl, rfl⟩, fun h => by cases h⟩
theorem b10_abs (x : Int) (h : -9000000000000000000 ≤ x ∧ x ≤ 9000000000000000000) : laws_b10Abs.f x = some (x.natAbs : Int) := by
  unfold laws_b10Abs.f
  by_cases c : x < 0
  · rw [if_pos c, wid (by omega)]; congr 1; omega
  · rw [if_neg c]; congr 1; omega
theorem hasB_l0 (l : List Int) (n : Int) (hl : l.length ≤ 35184372088832) (hn : n ∈ l) (d : Nat) : ∀ i : Nat, i + d = l.length → (∀ j, j < i → l.getD j 0 ≠ n) → Ev (fun k => laws_b10Has.l0 k l n i) true := by
  induction d with
  | zero =>
    intro i h1 h2
    obtain ⟨j, hj, e⟩ := List.getElem_of_mem hn
    have := h2 j (by omega)
    rw [List.getD_eq_getElem?_getD, List.getElem?_eq_getElem hj, Option.getD_some] at this
    exact absurd e this
  | succ d ih =>
    intro i h1 h2
    refine Ev.shift ?_
    simp only [laws_b10Has.l0, rd_nat]
    refine Ev.pos (by omega) (Ev.pos (by omega) ?_)
    by_cases c : l.getD i 0 = n
    · exact Ev.pos c (Ev.now _)
    · refine Ev.neg c ?_
      rw [wid (by omega)]
      exact ih (i + 1) (by omega) (fun j hj => by
        by_cases e : j = i
        · rw [e]; exact c
        · exact h2 j (by omega))
theorem law_l1 (near : Int) (G : List Int) (hG : G.length ≤ 48) (hb : ∀ j, j < G.length → -1000000000 ≤ G.getD j 0 ∧ G.getD j 0 ≤ 1000000000) (g : Int) (hg : -1000000000 ≤ g ∧ g ≤ 1000000000) (hm : g ∈ G) (d : Nat) : ∀ (i : Nat) (c : Int), i + d = G.length → 0 ≤ c → c ≤ i → c + cntD near G g i = cntD near G g 0 → Ev (fun k => laws_FnOnsets.l1 k near g (cntD near G g 0) G 0 c i) true := by
  induction d with
  | zero =>
    intro i c h1 h2 h3 h4
    rw [cntD_end _ _ _ _ (by omega)] at h4
    refine Ev.shift ?_
    simp only [laws_FnOnsets.l1]
    refine Ev.neg (by omega) (Ev.pos (by trivial) ?_)
    have := hasB_l0 G g (by omega) hm G.length 0 (by omega) (fun j hj => absurd hj (Nat.not_lt_zero _))
    refine Ev.bind (f := fun _ t => if t = true then some (c == (cntD near G g 0 : Int)) else some false) (by unfold laws_b10Has.f; exact this) ?_
    exact Ev.pos rfl (Ev.some (by rw [← h4]; simp))
  | succ d ih =>
    intro i c h1 h2 h3 h4
    have bi := hb i (by omega)
    have st := cntD_step near G g i (by omega)
    refine Ev.shift ?_
    simp only [laws_FnOnsets.l1, rd_nat]
    rw [wid (x := (i : Int) + 1) (by omega), wid (x := c + 1) (by omega), wid (x := G.getD i 0 - g) (by omega), b10_abs _ (by omega)]
    simp only [Option.bind_some]
    refine Ev.pos (by omega) (Ev.pos (by omega) ?_)
    by_cases q : ((G.getD i 0 - g).natAbs : Int) ≤ near
    · rw [if_pos q] at st
      exact Ev.pos q (ih (i + 1) (c + 1) (by omega) (by omega) (by omega) (by omega))
    · rw [if_neg q] at st
      exact Ev.neg q (ih (i + 1) c (by omega) (by omega) (by omega) (by omega))
theorem law_j3 (x1 : List Int) (hb : bytesB x1) : Ev (fun k => laws_FnOnsets.j3 k x1) true := by
  obtain ⟨l, a1, s1, m1, b1, b2, ev1⟩ := draw24 x1 hb 0 0 (by omega) (by omega)
  obtain ⟨near, a3, s3, ev3, _, b5, b6⟩ := among_ok x1 hb a1 s1 [0, 10, 30, 100, 10000000, 10000001, -1] (by omega) (by omega) (by simp) (by simp)
  have hd : Ev (fun k => spec_DrawCommonGap.f k x1) (l, near) := by
    unfold spec_DrawCommonGap.f spec_l00From.f
    simp only [Option.bind_some]
    refine Ev.bind ev1 ?_
    simp only [ev3, Option.bind_some]
    exact Ev.now _
  obtain ⟨q, hq, hne, hz⟩ := iCommon l near (by omega)
  refine Ev.shift ?_
  simp only [laws_FnOnsets.j3]
  refine Ev.bind hd (Ev.bind hq ?_)
  by_cases c : q.2.2 = 0
  · obtain ⟨v, hn, hg0, hB⟩ := hz c
    have h48 := onsetsB_len v
    have hsg : Ev (fun k => spec_GapsOf.f k l) (gapsL l, 0) := by
      unfold spec_GapsOf.f
      have hv := sOnsets l (by omega)
      rw [v] at hv
      exact Ev.bind hv (Ev.pos rfl (Ev.bind (sGaps l (by omega) (fun j hj => by have := onsetsB_get v j hj; omega)) (Ev.now _)))
    refine Ev.pos c (Ev.bind hsg ?_)
    rcases hB with ⟨e, _⟩ | ⟨e1, e2, _⟩
    · exact absurd e hg0
    · simp only at e1 e2
      rw [e2]
      have hgb := gaps_bound l v
      obtain ⟨j, hj, e⟩ := List.getElem_of_mem e1
      have bj := hgb j hj
      rw [List.getD_eq_getElem?_getD, List.getElem?_eq_getElem hj, Option.getD_some, e] at bj
      exact law_l1 near (gapsL l) (by rw [gapsL_length]; omega) hgb q.1 bj e1 (gapsL l).length 0 0 (by omega) (by omega) (by omega) (by omega)
  · obtain ⟨e1, e2⟩ := hne c
    exact Ev.neg c (Ev.pos e1 (Ev.some (by rw [e2]; rfl)))
theorem law_l0 (x1 : List Int) (hb : bytesB x1) (l : List Int) (v : onsetsB l = true) (d : Nat) : ∀ i : Nat, i + d = l.length → Ev (fun k => laws_FnOnsets.l0 k x1 l i) true := by
  have h48 := onsetsB_len v
  induction d with
  | zero =>
    intro i h
    refine Ev.shift ?_
    simp only [laws_FnOnsets.l0]
    exact Ev.neg (by omega) (Ev.bind (fitOne l v) (Ev.pos rfl (Ev.pos rfl (law_j3 x1 hb))))
  | succ d ih =>
    intro i h
    refine Ev.shift ?_
    simp only [laws_FnOnsets.l0, rd_nat]
    refine Ev.pos (by omega) (Ev.pos (by omega) (Ev.bind (nearOn l v i (by omega)) (Ev.pos rfl (Ev.pos rfl (Ev.pos rfl ?_)))))
    rw [wid (by omega)]
    exact ih (i + 1) (by omega)
theorem FnOnsets : laws_FnOnsets.Pure := by
  intro x0 x1 _ _ hw0 _ _ hw1
  have hb : ∀ l : List Int, (∀ x ∈ l, (Lit.int .u8 x).wf = true) → bytesB l := fun l hl j hj => by
    have h := hl _ (List.getElem_mem hj)
    rw [List.getD_eq_getElem?_getD, List.getElem?_eq_getElem hj, Option.getD_some]
    simp [Lit.wf, IntKind.min, IntKind.max, IntKind.signed, IntKind.bits] at h
    omega
  have h0 := hb x0 hw0
  have h1 := hb x1 hw1
  refine Ev.rounds (g := fun k => laws_FnOnsets.f k x0 x1) ?_
  unfold laws_FnOnsets.f laws_b10Long.f
  simp only [Option.bind_some]
  have jt : Ev (fun k => laws_FnOnsets.j0 k x0 x1 true) true := by
    refine Ev.shift ?_
    simp only [laws_FnOnsets.j0]
    exact Ev.pos trivial (Ev.now _)
  have jf : Ev (fun k => laws_FnOnsets.j0 k x0 x1 false) true := by
    obtain ⟨l, a1, s1, m1, b1, b2, ev1⟩ := draw24 x0 h0 0 0 (by omega) (by omega)
    obtain ⟨b, a3, s3, ev3, _, b5, b6⟩ := among_ok x0 h0 a1 s1 [0, 100, -100, 5000, -700, 10000000, 10000001, -10000001] (by omega) (by omega) (by simp) (by simp)
    have hd : Ev (fun k => spec_DrawShiftOnsets.f k x0) (l, b) := by
      unfold spec_DrawShiftOnsets.f spec_l00From.f
      simp only [Option.bind_some]
      refine Ev.bind ev1 ?_
      simp only [ev3, Option.bind_some]
      exact Ev.now _
    obtain ⟨q, hq, hz⟩ := iShiftOn l b (by omega)
    refine Ev.shift ?_
    simp only [laws_FnOnsets.j0]
    refine Ev.neg (by simp) (Ev.bind hd (Ev.bind hq ?_))
    by_cases c : q.2 = 0
    · obtain ⟨v, hbb, e, w⟩ := hz c
      have h48 := onsetsB_len v
      obtain ⟨q2, hq2, hz2⟩ := iShiftOn (shL b l) (-b) (by rw [shL_len]; omega)
      have hq2' : q2 = (l, 0) := by
        have hv := iOnsets (shL b l) (by rw [shL_len]; omega)
        rw [w] at hv
        have hv2 := iOnsets l (by omega)
        rw [v] at hv2
        have hs := iShift (-b) (shL b l) (by rw [shL_len]; omega)
        rw [shBack l v b hbb] at hs
        have : Ev (fun k => impl_ShiftOnsets.f k (shL b l) (-b)) (l, 0) := by
          unfold impl_ShiftOnsets.f
          rw [within_eq]
          simp only [Option.bind_some]
          exact Ev.bind hv (Ev.pos rfl (Ev.pos (decide_eq_true (by omega)) (Ev.bind hs (Ev.bind hv2 (Ev.pos rfl (Ev.now _))))))
        obtain ⟨K1, k1⟩ := hq2
        obtain ⟨K2, k2⟩ := this
        have a := k1 (K1 + K2) (by omega)
        have b' := k2 (K1 + K2) (by omega)
        rw [a] at b'
        exact Option.some.inj b'
      rw [hq2'] at hq2
      have g1 := iGapsOn l v
      have g2 := iGapsOn (shL b l) w
      rw [shGaps l v b hbb] at g2
      have n1 := nums l (by omega)
      have n2 := nums (gapsL l) (by rw [gapsL_length]; omega)
      refine Ev.pos c ?_
      rw [e]
      simp only
      rw [wid (x := -b) (by omega)]
      refine Ev.bind hq2 (Ev.bind g1 (Ev.bind g2 (Ev.pos rfl (Ev.bind n1 (Ev.pos rfl (Ev.pos rfl (Ev.pos rfl (Ev.bind n2 (Ev.pos rfl ?_)))))))))
      have fin := law_l0 x1 h1 l v l.length 0 (by omega)
      have j1f : Ev (fun k => laws_FnOnsets.j1 k x1 l false) true := by
        refine Ev.shift ?_
        simp only [laws_FnOnsets.j1]
        exact Ev.neg (by simp) fin
      by_cases z : (l.length : Int) > 0
      · have hs := sumGaps l v (by omega)
        have b0 := onsetsB_get v 0 (by omega)
        have b9 := onsetsB_get v (l.length - 1) (by omega)
        refine Ev.pos z (Ev.bind hs ?_)
        have e1 : wrap64 ((l.length : Int) - 1) = ((l.length - 1 : Nat) : Int) := by rw [wid (by omega)]; omega
        rw [e1, rd_nat]
        refine Ev.pos (by omega) (Ev.pos (by omega) (Ev.pos (by omega) ?_))
        rw [show rd l 0 = l.getD 0 0 from rfl, wid (x := l.getD (l.length - 1) 0 - l.getD 0 0) (by omega), bne_self_eq_false]
        exact j1f
      · exact Ev.neg z j1f
    · exact Ev.neg c (law_j3 x1 h1)
  by_cases c : (x0.length : Int) > 1048576
  · exact Ev.pos (decide_eq_true c) jt
  · refine Ev.neg (by rw [decide_eq_true_iff]; exact c) ?_
    by_cases c2 : (x1.length : Int) > 1048576
    · rw [decide_eq_true c2]; exact jt
    · rw [decide_eq_false c2]; exact jf

end Go.Proofs.Ytapjnnaaflinlaa.Pure
