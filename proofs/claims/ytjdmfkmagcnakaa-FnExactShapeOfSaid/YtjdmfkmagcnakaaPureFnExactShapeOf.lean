/- The pure statement of the law FnExactShapeOf: what the Go functions compute, told by plain Lean functions, is what the law asks, for all arguments. No condition beyond the printed ones. -/
import Derived.Test.YtjdmfkmagcnakaaPFnExactShapeOfx5
import Derived.Test.YtjdmfkmagcnakaaXW
namespace Go.Proofs.Ytjdmfkmagcnakaa.Pure
open Go.RowKit Go.Proofs.Ytjdmfkmagcnakaa.PFnExactShapeOf Go.Proofs.YtjdmfkmagcnakaaW.PrintWords Go.Proofs.YtjdmfkmagcnakaaW.PrintLast Go.Proofs.YtjdmfkmagcnakaaW.PrintMore Go.Proofs.YtjdmfkmagcnakaaXW
set_option linter.unusedVariables false
set_option linter.unusedSimpArgs false
theorem toI_l0 (l : List Int) (hl : l.length ≤ 35184372088832) (d : Nat) : ∀ (i : Nat) (acc : List Int), i + d = l.length → acc.length = l.length → acc.take i = l.take i → Ev (fun k => laws_toInt64S.l0 k l acc i) l := by
  induction d with
  | zero =>
    intro i acc h1 h2 h3
    refine Ev.shift ?_
    simp only [laws_toInt64S.l0]
    refine Ev.neg (by omega) ?_
    refine Ev.some ?_
    rw [List.take_of_length_le (by omega), List.take_of_length_le (by omega)] at h3
    rw [h3]
  | succ d ih =>
    intro i acc h1 h2 h3
    refine Ev.shift ?_
    simp only [laws_toInt64S.l0]
    refine Ev.pos (by omega) (Ev.pos (by omega) (Ev.pos (by omega) ?_))
    rw [wid (by omega), rd_get l i (by omega), Int.toNat_natCast]
    refine ih (i + 1) (acc.set i l[i]) (by omega) (by rw [List.length_set, h2]) ?_
    rw [List.take_succ_eq_append_getElem (by rw [List.length_set]; omega), List.take_succ_eq_append_getElem (by omega), List.take_set_of_le (by omega), List.getElem_set_self, h3]
theorem toI (l : List Int) (hl : l.length ≤ 35184372088832) : Ev (fun k => laws_toInt64S.f k l) l := by
  unfold laws_toInt64S.f
  refine Ev.pos (by omega) (Ev.pos (by omega) ?_)
  rw [Int.toNat_natCast]
  exact toI_l0 l hl l.length 0 _ (by omega) (by simp) (by simp)
theorem eqI_l0 (l : List Int) (hl : l.length ≤ 35184372088832) (d : Nat) : ∀ (i : Nat), i + d = l.length → Ev (fun k => laws_eqInt64S.l0 k l l i) true := by
  induction d with
  | zero =>
    intro i h1
    refine Ev.shift ?_
    simp only [laws_eqInt64S.l0]
    exact Ev.neg (by omega) (Ev.now _)
  | succ d ih =>
    intro i h1
    refine Ev.shift ?_
    simp only [laws_eqInt64S.l0]
    refine Ev.pos (by omega) (Ev.pos (by omega) (Ev.pos (by omega) (Ev.pos (by trivial) ?_)))
    rw [wid (by omega)]
    exact ih (i + 1) (by omega)
theorem eqI (l : List Int) (hl : l.length ≤ 35184372088832) : Ev (fun k => laws_eqInt64S.f k l l) true := by
  unfold laws_eqInt64S.f
  exact Ev.pos rfl (eqI_l0 l hl l.length 0 (by omega))
theorem in_eq (a b c : Int) : spec_l00In.f a b c = some (decide (b ≤ a ∧ a ≤ c)) := by
  unfold spec_l00In.f; split <;> simp_all; omega
theorem within_eq (a b c : Int) : impl_within.f a b c = some (decide (b ≤ a ∧ a ≤ c)) := by
  unfold impl_within.f; split <;> simp_all; omega
theorem allIn_eq (l : List Int) (a b : Int) : impl_allWithin.f l a b = some (l.all fun x => decide (a ≤ x ∧ x ≤ b)) := by
  unfold impl_allWithin.f
  rw [List.not_any_eq_all_not]
  congr 2
  funext x
  simp [allP]
theorem sLen1 (n : Int) : spec_l09Length.f n = some (decide (1 ≤ n ∧ n ≤ 64)) := by
  unfold spec_l09Length.f; rw [in_eq]; rfl
def lensB (l : List Int) : Bool := decide (l.length ≤ 48) && l.all fun x => decide (1 ≤ x ∧ x ≤ 64)
def lenQ (l : List Int) (j : Nat) : Bool := decide (1 ≤ l.getD j 0 ∧ l.getD j 0 ≤ 64)
theorem sLens_l0 (l : List Int) (hl : l.length ≤ 35184372088832) (d : Nat) : ∀ (i : Nat), i + d = l.length → Ev (fun k => spec_l21Lengths.l0 k l i) (decide (l.length ≤ 48) && allF (lenQ l) l.length i) := by
  induction d with
  | zero =>
    intro i h1
    refine Ev.shift ?_
    simp only [spec_l21Lengths.l0]
    exact Ev.neg (by omega) (Ev.some (by rw [allF_end _ (by omega), Bool.and_true]; congr 1; rw [decide_eq_decide]; omega))
  | succ d ih =>
    intro i h1
    refine Ev.shift ?_
    simp only [spec_l21Lengths.l0, sLen1, Option.bind_some]
    refine Ev.pos (by omega) (Ev.pos (by omega) ?_)
    rw [rd_nat]
    by_cases hb : 1 ≤ l.getD i 0 ∧ l.getD i 0 ≤ 64
    · refine Ev.pos (by simpa using hb) ?_
      rw [wid (by omega), allF_yes _ (by simp only [lenQ]; exact decide_eq_true hb)]
      exact ih (i + 1) (by omega)
    · refine Ev.neg (by simpa using hb) (Ev.some ?_)
      rw [allF_no _ (by omega) (by simp only [lenQ]; exact decide_eq_false hb), Bool.and_false]
theorem sLens (l : List Int) (hl : l.length ≤ 35184372088832) : Ev (fun k => spec_l21Lengths.f k l) (lensB l) := by
  unfold spec_l21Lengths.f
  refine Ev.same (sLens_l0 l hl l.length 0 (by omega)) ?_
  unfold lensB
  congr 1
  rw [Bool.eq_iff_iff, allF_iff, all_iff_get]
  exact ⟨fun h j hj => h j hj (Nat.zero_le _), fun h j hj _ => h j hj⟩
theorem lensB_len {l : List Int} (h : lensB l = true) : l.length ≤ 48 := by
  unfold lensB at h; simp only [Bool.and_eq_true, decide_eq_true_eq] at h; exact h.1
theorem lensB_get {l : List Int} (h : lensB l = true) (j : Nat) (hj : j < l.length) : 1 ≤ l.getD j 0 ∧ l.getD j 0 ≤ 64 := by
  unfold lensB at h; simp only [Bool.and_eq_true] at h
  have := (all_iff_get _ _).1 h.2 j hj
  exact of_decide_eq_true this
theorem iLens (l : List Int) : impl_lengthsOk.f l = some (lensB l) := by
  unfold impl_lengthsOk.f lensB
  rw [allIn_eq]
  by_cases h : l.length ≤ 48
  · rw [if_pos (by omega)]; simp [h]
  · rw [if_neg (by omega)]; simp [h]
/-- of neighbours that are the same, one -/
def dd : List Int → List Int
  | a :: b :: r => if a = b then dd (b :: r) else a :: dd (b :: r)
  | l => l
theorem dd_snoc (l : List Int) (x : Int) : dd (l ++ [x]) = dd l ++ (if l.getLast? = some x then [] else [x]) := by
  induction l with
  | nil => rfl
  | cons a r ih =>
    cases r with
    | nil =>
      show dd [a, x] = [a] ++ _
      simp only [dd]
      by_cases h : a = x
      · rw [if_pos h, if_pos (by simp [h]), h]; rfl
      · rw [if_neg h, if_neg (by simpa using h)]; rfl
    | cons b r =>
      show dd (a :: b :: (r ++ [x])) = _
      simp only [dd]
      rw [show (a :: b :: r).getLast? = (b :: r).getLast? from List.getLast?_cons_cons]
      by_cases h : a = b
      · rw [if_pos h, if_pos h]; exact ih
      · rw [if_neg h, if_neg h, List.cons_append]; congr 1
theorem dd_take (T : List Int) : ∀ m, m ≤ T.length → Lib.compactUpTo T.toArray m = dd (T.take m) := by
  intro m
  induction m with
  | zero => intro _; simp [Lib.compactUpTo, dd]
  | succ m ih =>
    intro h
    rw [List.take_add_one, List.getElem?_eq_getElem (by omega), Option.toList_some, dd_snoc, ← ih (by omega)]
    simp only [Lib.compactUpTo]
    rw [List.range_succ, List.filter_append, List.map_append]
    congr 1
    have e1 : T.toArray[m]! = T[m] := by simp [show m < T.length by omega]
    simp only [List.filter_cons, List.filter_nil, Lib.keeps, e1]
    cases m with
    | zero => simp [List.getElem?_eq_getElem (show 0 < T.length by omega)]
    | succ m =>
      have e2 : T.toArray[m]! = T[m] := by simp [show m < T.length by omega]
      have e3 : (T.take (m + 1)).getLast? = some T[m] := by rw [List.take_add_one, List.getElem?_eq_getElem (by omega), Option.toList_some, List.getLast?_concat]
      rw [e3]
      simp only [Nat.add_sub_cancel, e2]
      by_cases h : T[m] = T[m + 1]
      · have hk : decide (m + 1 = 0 ∨ T[m + 1] ≠ T[m]) = false := decide_eq_false (by intro q; rcases q with q | q; omega; exact q h.symm)
        rw [hk, if_neg (by simp), if_pos (by rw [h])]; rfl
      · have hk : decide (m + 1 = 0 ∨ T[m + 1] ≠ T[m]) = true := decide_eq_true (.inr (Ne.symm h))
        rw [hk, if_pos rfl, if_neg (by simpa using h)]; simp [show m + 1 < T.length by omega]
theorem compact_dd (T : List Int) : Lib.compact T = dd T := by
  have := dd_take T T.length (Nat.le_refl _)
  rwa [List.take_length] at this
theorem dd_nil {T : List Int} : dd T = [] ↔ T = [] := by
  constructor
  · intro h
    induction T with
    | nil => rfl
    | cons a r ih =>
      cases r with
      | nil => simp [dd] at h
      | cons b r =>
        simp only [dd] at h
        split at h
        · exact absurd (ih h) (by simp)
        · simp at h
  · rintro rfl; rfl
theorem dd_one {T : List Int} {x : Int} : dd T = [x] ↔ T ≠ [] ∧ ∀ y ∈ T, y = x := by
  induction T with
  | nil => simp [dd]
  | cons a r ih =>
    cases r with
    | nil => simp [dd]
    | cons b r =>
      simp only [dd]
      by_cases h : a = b
      · subst h
        rw [if_pos rfl, ih]; simp
      · rw [if_neg h]
        constructor
        · intro e
          have := (List.cons.inj e).2
          exact absurd (dd_nil.1 this) (by simp)
        · rintro ⟨_, e⟩
          exact absurd ((e a (by simp)).trans (e b (by simp)).symm) h
def okT (T : List Int) (t : Nat) (x y : Int) : Prop := ∀ j, j < T.length → T.getD j 0 = if j < t then x else y
theorem okT_cons {a : Int} {r : List Int} {t : Nat} {x y : Int} : okT (a :: r) (t + 1) x y ↔ a = x ∧ okT r t x y := by
  constructor
  · intro h
    refine ⟨by simpa using h 0 (by simp), fun j hj => ?_⟩
    have := h (j + 1) (by simpa using hj)
    simpa using this
  · rintro ⟨rfl, h⟩ j hj
    cases j with
    | zero => simp
    | succ j => simpa using h j (by simpa using hj)
theorem okT_zero {r : List Int} {x y : Int} : okT r 0 x y ↔ ∀ z ∈ r, z = y := by
  constructor
  · intro h z hz
    obtain ⟨j, hj, e⟩ := List.getElem_of_mem hz
    have := h j hj
    rw [if_neg (by omega), List.getD_eq_getElem?_getD, List.getElem?_eq_getElem hj, Option.getD_some] at this
    rw [← e]; exact this
  · intro h j hj
    rw [if_neg (by omega), List.getD_eq_getElem?_getD, List.getElem?_eq_getElem hj, Option.getD_some]
    exact h _ (List.getElem_mem hj)
theorem dd_two {T : List Int} {x y : Int} (hxy : x ≠ y) : dd T = [x, y] ↔ ∃ t, 1 ≤ t ∧ t < T.length ∧ okT T t x y := by
  induction T with
  | nil => simp [dd]
  | cons a r ih =>
    cases r with
    | nil => simp only [dd, List.length_singleton]; constructor
             · intro h; simp at h
             · rintro ⟨t, h1, h2, _⟩; omega
    | cons b r =>
      simp only [dd]
      by_cases h : a = b
      · subst h
        rw [if_pos rfl, ih]
        constructor
        · rintro ⟨t, h1, h2, h3⟩
          refine ⟨t + 1, by omega, by simpa using h2, okT_cons.2 ⟨?_, h3⟩⟩
          have := h3 0 (by simp)
          rw [if_pos (by omega)] at this; simpa using this
        · rintro ⟨t, h1, h2, h3⟩
          obtain ⟨t, rfl⟩ : ∃ u, t = u + 1 := ⟨t - 1, by omega⟩
          obtain ⟨e, h4⟩ := okT_cons.1 h3
          refine ⟨t, ?_, by simpa using h2, h4⟩
          rcases Nat.eq_zero_or_pos t with rfl | h
          · exact absurd ((okT_zero.1 h4 a (by simp)).symm.trans e).symm hxy
          · exact h
      · rw [if_neg h]
        constructor
        · intro e
          obtain ⟨e1, e2⟩ := List.cons.inj e
          exact ⟨1, Nat.le_refl _, by simp, okT_cons.2 ⟨e1, okT_zero.2 (dd_one.1 e2).2⟩⟩
        · rintro ⟨t, h1, h2, h3⟩
          obtain ⟨t, rfl⟩ : ∃ u, t = u + 1 := ⟨t - 1, by omega⟩
          obtain ⟨e, h4⟩ := okT_cons.1 h3
          rcases Nat.eq_zero_or_pos t with rfl | ht
          · rw [e, dd_one.2 ⟨by simp, okT_zero.1 h4⟩]
          · obtain ⟨t, rfl⟩ : ∃ u, t = u + 1 := ⟨t - 1, by omega⟩
            exact absurd (e.trans (okT_cons.1 h4).1.symm) h
/-- the shape of neighbours' signs -/
def shapeF (t : List Int) : Int := if t = [] ∨ t = [0] then 1 else if t = [1] then 2 else if t = [-1] then 3 else if t = [1, -1] then 4 else if t = [-1, 1] then 5 else 0
def shapeR (t : List Int) : Int × Int := if shapeF t = 0 then (0, 3) else (shapeF t, 0)
def sgn (a b : Int) : Int := if a < b then -1 else if a > b then 1 else 0
def turnsL (l : List Int) : List Int := (List.range (l.length - 1)).map fun j => sgn (l.getD (j + 1) 0) (l.getD j 0)
theorem turnsL_length (l : List Int) : (turnsL l).length = l.length - 1 := by simp [turnsL]
theorem turnsL_get (l : List Int) (j : Nat) (h : j + 1 < l.length) : (turnsL l).getD j 0 = sgn (l.getD (j + 1) 0) (l.getD j 0) := by
  unfold turnsL
  rw [List.getD_eq_getElem?_getD, List.getElem?_eq_getElem (by simp; omega)]
  simp
theorem eqII_l0 (a b : List Int) (he : a.length = b.length) (hl : a.length ≤ 35184372088832) (d : Nat) : ∀ (i : Nat), i + d = a.length → Ev (fun k => slices_Equal_int_int.l0 k a b a.length i) (decide (a.drop i = b.drop i)) := by
  induction d with
  | zero =>
    intro i h
    refine Ev.shift ?_
    simp only [slices_Equal_int_int.l0]
    refine Ev.neg (by omega) (Ev.some ?_)
    rw [List.drop_of_length_le (by omega), List.drop_of_length_le (by omega)]; simp
  | succ d ih =>
    intro i h
    refine Ev.shift ?_
    simp only [slices_Equal_int_int.l0]
    refine Ev.pos (by omega) (Ev.pos (by omega) (Ev.pos (by omega) (Ev.pos (by omega) ?_)))
    have ea : a.drop i = a[i] :: a.drop (i + 1) := List.drop_eq_getElem_cons (by omega)
    have eb : b.drop i = b[i] :: b.drop (i + 1) := List.drop_eq_getElem_cons (by omega)
    rw [rd_nat, rd_nat, wid (by omega), ea, eb, List.getD_eq_getElem?_getD, List.getD_eq_getElem?_getD, List.getElem?_eq_getElem (by omega), List.getElem?_eq_getElem (by omega), Option.getD_some, Option.getD_some]
    by_cases c : a[i] = b[i]
    · refine Ev.pos c (Ev.same (ih (i + 1) (by omega)) ?_)
      rw [decide_eq_decide]
      exact ⟨fun h => by rw [c, h], fun h => (List.cons.inj h).2⟩
    · exact Ev.neg c (Ev.some (by rw [decide_eq_false (fun h => c (List.cons.inj h).1)]))
theorem eqII (a b : List Int) (hl : a.length ≤ 35184372088832) : Ev (fun k => slices_Equal_int_int.f k a b) (decide (a = b)) := by
  unfold slices_Equal_int_int.f
  by_cases he : a.length = b.length
  · refine Ev.pos (by omega) ?_
    have := eqII_l0 a b he hl a.length 0 (by omega)
    rwa [List.drop_zero, List.drop_zero] at this
  · refine Ev.neg (by omega) (Ev.some ?_)
    rw [decide_eq_false (fun e => he (by rw [e]))]
theorem cmpI (a b : Int) : cmp_Compare_int64.f a b = some (sgn a b) := by
  unfold cmp_Compare_int64.f cmp_isNaN_int64.f sgn
  simp only [bne_self_eq_false, Option.bind_some, Bool.false_eq_true, if_false]
  by_cases h : a < b
  · rw [if_pos h, if_pos h]
  · rw [if_neg h, if_neg h]
    by_cases h2 : a > b
    · rw [if_pos h2, if_pos h2]
    · rw [if_neg h2, if_neg h2]
theorem shape_j1 (t : List Int) (hl : t.length ≤ 35184372088832) (b : Bool) (hb : b = true ↔ t = [] ∨ t = [0]) : Ev (fun k => impl_ShapeOf.j1 k t b) (shapeR t) := by
  refine Ev.shift ?_
  simp only [impl_ShapeOf.j1]
  by_cases h : t = [] ∨ t = [0]
  · refine Ev.pos (hb.2 h) (Ev.some ?_)
    unfold shapeR shapeF; rw [if_pos h]; rfl
  refine Ev.neg (fun e => h (hb.1 e)) ?_
  refine Ev.bind (eqII t [1] hl) ?_
  by_cases h1 : t = [1]
  · refine Ev.pos (by simp [h1]) (Ev.some ?_)
    unfold shapeR shapeF; rw [if_neg h, if_pos h1]; rfl
  refine Ev.neg (by simp [h1]) (Ev.bind (eqII t [-1] hl) ?_)
  by_cases h2 : t = [-1]
  · refine Ev.pos (by simp [h2]) (Ev.some ?_)
    unfold shapeR shapeF; rw [if_neg h, if_neg h1, if_pos h2]; rfl
  refine Ev.neg (by simp [h2]) (Ev.bind (eqII t [1, -1] hl) ?_)
  by_cases h3 : t = [1, -1]
  · refine Ev.pos (by simp [h3]) (Ev.some ?_)
    unfold shapeR shapeF; rw [if_neg h, if_neg h1, if_neg h2, if_pos h3]; rfl
  refine Ev.neg (by simp [h3]) (Ev.bind (eqII t [-1, 1] hl) ?_)
  by_cases h4 : t = [-1, 1]
  · refine Ev.pos (by simp [h4]) (Ev.some ?_)
    unfold shapeR shapeF; rw [if_neg h, if_neg h1, if_neg h2, if_neg h3, if_pos h4]; rfl
  refine Ev.neg (by simp [h4]) (Ev.some ?_)
  unfold shapeR shapeF; rw [if_neg h, if_neg h1, if_neg h2, if_neg h3, if_neg h4]; rfl
theorem dd_len (T : List Int) : (dd T).length ≤ T.length := by
  induction T with
  | nil => simp [dd]
  | cons a r ih =>
    cases r with
    | nil => simp [dd]
    | cons b r =>
      simp only [dd]
      split
      · simp only [List.length_cons] at ih ⊢; omega
      · simp only [List.length_cons] at ih ⊢; omega
theorem iShape_l0 (l : List Int) (hl : l.length ≤ 48) (d : Nat) : ∀ (i : Nat), 1 ≤ i → l.length ≤ i + d → (i ≤ l.length ∨ i = 1) →
    Ev (fun k => impl_ShapeOf.l0 k l ((List.range (i - 1)).map fun j => sgn (l.getD (j + 1) 0) (l.getD j 0)) i) (shapeR (dd (turnsL l))) := by
  have fin : ∀ i : Nat, 1 ≤ i → l.length ≤ i → (i ≤ l.length ∨ i = 1) → Ev (fun k => impl_ShapeOf.l0 k l ((List.range (i - 1)).map fun j => sgn (l.getD (j + 1) 0) (l.getD j 0)) i) (shapeR (dd (turnsL l))) := by
    intro i h1 h2 h3
    have e : ((List.range (i - 1)).map fun j => sgn (l.getD (j + 1) 0) (l.getD j 0)) = turnsL l := by
      unfold turnsL; congr 2; omega
    rw [e]
    have hT := turnsL_length l
    refine Ev.shift ?_
    simp only [impl_ShapeOf.l0]
    refine Ev.neg (by omega) ?_
    unfold slices_Compact_int_int.f
    rw [if_pos (by omega), compact_dd]
    simp only [Option.bind_some]
    have hd := dd_len (turnsL l)
    by_cases h0 : dd (turnsL l) = []
    · refine Ev.pos (by rw [h0]; rfl) ?_
      exact shape_j1 _ (by omega) true (by simp [h0])
    · refine Ev.neg (fun e => h0 (List.eq_nil_of_length_eq_zero (by omega))) ?_
      refine Ev.bind (eqII _ [0] (by omega)) ?_
      exact shape_j1 _ (by omega) _ (by simp [h0])
  induction d with
  | zero => intro i h1 h2 h3; exact fin i h1 h2 h3
  | succ d ih =>
    intro i h1 h2 h3
    by_cases hi : i < l.length
    · refine Ev.shift ?_
      simp only [impl_ShapeOf.l0]
      rw [show wrap64 ((i : Int) - 1) = ((i - 1 : Nat) : Int) by rw [wid (by omega)]; omega]
      refine Ev.pos (by omega) (Ev.pos (by omega) (Ev.pos (by omega) (Ev.pos (by omega) ?_)))
      rw [cmpI, rd_nat, rd_nat]
      simp only [Option.bind_some]
      refine Ev.pos (by simp; omega) ?_
      rw [wid (by omega)]
      have := ih (i + 1) (by omega) (by omega) (by omega)
      rw [Nat.add_sub_cancel] at this
      have e : (List.range i).map (fun j => sgn (l.getD (j + 1) 0) (l.getD j 0)) = ((List.range (i - 1)).map fun j => sgn (l.getD (j + 1) 0) (l.getD j 0)) ++ [sgn (l.getD i 0) (l.getD (i - 1) 0)] := by
        conv => lhs; rw [show i = (i - 1) + 1 by omega]
        rw [List.range_succ, List.map_append, List.map_singleton, show i - 1 + 1 = i by omega]
      rw [e] at this
      exact this
    · exact fin i h1 (by omega) h3
/-- what the reference asks of each step -/
def eqQ (l : List Int) (j : Nat) : Bool := decide (l.getD j 0 = l.getD (j - 1) 0)
def grQ (l : List Int) (j : Nat) : Bool := decide (l.getD j 0 > l.getD (j - 1) 0)
def shQ (l : List Int) (j : Nat) : Bool := decide (l.getD j 0 < l.getD (j - 1) 0)
def tQ (l : List Int) (u : Bool) (t j : Nat) : Bool := if j ≤ t then (if u then grQ l j else shQ l j) else (if u then shQ l j else grQ l j)
theorem turn_l1 (l : List Int) (hl : l.length ≤ 48) (u : Bool) (t : Nat) (ht : t ≤ 48) (r : Bool) (hno : Ev (fun k => spec_l21Turn.l0 k l u ((t + 1 : Nat) : Int)) r) (d : Nat) : ∀ (i : Nat) (x : Bool), 1 ≤ i → l.length ≤ i + d →
    Ev (fun k => spec_l21Turn.l1 k l u t x i) ((x && allF (tQ l u t) l.length i) || r) := by
  induction d with
  | zero =>
    intro i x h1 h2
    refine Ev.shift ?_
    simp only [spec_l21Turn.l1]
    refine Ev.neg (by omega) ?_
    rw [allF_end _ (by omega), Bool.and_true]
    cases x with
    | true => exact Ev.pos rfl (Ev.some (by simp))
    | false => refine Ev.neg (by simp) ?_; rw [wid (by omega)]; simpa using hno
  | succ d ih =>
    intro i x h1 h2
    by_cases hi : i < l.length
    · have e1 : wrap64 ((i : Int) - 1) = ((i - 1 : Nat) : Int) := by rw [wid (by omega)]; omega
      have e2 : wrap64 ((i : Int) + 1) = ((i + 1 : Nat) : Int) := wid (by omega)
      have step : ∀ b : Bool, b = (x && tQ l u t i) → Ev (fun k => spec_l21Turn.l1 k l u t b ((i + 1 : Nat) : Int)) ((x && allF (tQ l u t) l.length i) || r) := by
        intro b hb
        refine Ev.same (ih (i + 1) b (by omega) (by omega)) ?_
        congr 1
        cases hq : tQ l u t i with
        | true => rw [hb, hq, Bool.and_true, allF_yes _ hq]
        | false => rw [hb, hq, Bool.and_false, allF_no _ hi hq, Bool.and_false, Bool.false_and]
      refine Ev.shift ?_
      simp only [spec_l21Turn.l1, e1, e2, rd_nat]
      refine Ev.pos (by omega) (Ev.pos (by omega) (Ev.pos (by omega) (Ev.pos (by omega) ?_)))
      by_cases ct : i ≤ t
      · refine Ev.pos (by omega) ?_
        cases x with
        | false => exact Ev.neg (by simp) (step _ rfl)
        | true =>
          refine Ev.pos rfl ?_
          cases u with
          | true =>
            refine Ev.pos rfl ?_
            by_cases c : l.getD i 0 > l.getD (i - 1) 0
            · exact Ev.pos c (step _ (by unfold tQ grQ; rw [if_pos ct, if_pos rfl, decide_eq_true c]; rfl))
            · exact Ev.neg c (step _ (by unfold tQ grQ; rw [if_pos ct, if_pos rfl, decide_eq_false c]; rfl))
          | false => exact Ev.neg (by simp) (step _ (by simp [tQ, ct, shQ]))
      · refine Ev.neg (by omega) ?_
        cases x with
        | false => exact Ev.neg (by simp) (step _ rfl)
        | true =>
          refine Ev.pos rfl ?_
          cases u with
          | true =>
            refine Ev.pos rfl ?_
            by_cases c : l.getD i 0 < l.getD (i - 1) 0
            · exact Ev.pos c (step _ (by unfold tQ shQ; rw [if_neg ct, if_pos rfl, decide_eq_true c]; rfl))
            · exact Ev.neg c (step _ (by unfold tQ shQ; rw [if_neg ct, if_pos rfl, decide_eq_false c]; rfl))
          | false => exact Ev.neg (by simp) (step _ (by simp [tQ, ct, grQ]))
    · refine Ev.shift ?_
      simp only [spec_l21Turn.l1]
      refine Ev.neg (by omega) ?_
      rw [allF_end _ (by omega), Bool.and_true]
      cases x with
      | true => exact Ev.pos rfl (Ev.some (by simp))
      | false => refine Ev.neg (by simp) ?_; rw [wid (by omega)]; simpa using hno
/-- is there a top from t on? -/
def anyT (l : List Int) (u : Bool) : Nat → Nat → Bool
  | 0, _ => false
  | d + 1, t => if t + 1 < l.length then allF (tQ l u t) l.length 1 || anyT l u d (t + 1) else false
theorem turn_l0 (l : List Int) (hl : l.length ≤ 48) (u : Bool) (d : Nat) : ∀ t : Nat, 1 ≤ t → l.length ≤ t + d → t ≤ 48 → Ev (fun k => spec_l21Turn.l0 k l u t) (anyT l u d t) := by
  induction d with
  | zero =>
    intro t h1 h2 h3
    refine Ev.shift ?_
    simp only [spec_l21Turn.l0]
    rw [wid (x := (l.length : Int) - 1) (by omega)]
    exact Ev.neg (by omega) (Ev.now _)
  | succ d ih =>
    intro t h1 h2 h3
    refine Ev.shift ?_
    simp only [spec_l21Turn.l0, anyT]
    rw [wid (x := (l.length : Int) - 1) (by omega)]
    by_cases c : t + 1 < l.length
    · rw [if_pos c]
      refine Ev.pos (by omega) ?_
      have := turn_l1 l hl u t (by omega) _ (ih (t + 1) (by omega) (by omega) (by omega)) l.length 1 true (by omega) (by omega)
      rw [Bool.true_and] at this
      exact this
    · rw [if_neg c]
      exact Ev.neg (by omega) (Ev.now _)
theorem anyT_iff (l : List Int) (u : Bool) (d : Nat) : ∀ t, l.length ≤ t + d → (anyT l u d t = true ↔ ∃ s, t ≤ s ∧ s + 1 < l.length ∧ allF (tQ l u s) l.length 1 = true) := by
  induction d with
  | zero => intro t h; simp only [anyT]; constructor
            · intro h; simp at h
            · rintro ⟨s, h1, h2, _⟩; omega
  | succ d ih =>
    intro t h
    simp only [anyT]
    by_cases c : t + 1 < l.length
    · rw [if_pos c, Bool.or_eq_true, ih (t + 1) (by omega)]
      constructor
      · rintro (h | ⟨s, h1, h2, h3⟩)
        · exact ⟨t, Nat.le_refl _, c, h⟩
        · exact ⟨s, by omega, h2, h3⟩
      · rintro ⟨s, h1, h2, h3⟩
        rcases Nat.eq_or_lt_of_le h1 with rfl | h
        · exact .inl h3
        · exact .inr ⟨s, h, h2, h3⟩
    · rw [if_neg c]
      constructor
      · intro h; simp at h
      · rintro ⟨s, h1, h2, _⟩; omega
def turnB (l : List Int) (u : Bool) : Bool := anyT l u l.length 1
theorem sTurn (l : List Int) (hl : l.length ≤ 48) (u : Bool) : Ev (fun k => spec_l21Turn.f k l u) (turnB l u) := by
  unfold spec_l21Turn.f turnB
  exact turn_l0 l hl u l.length 1 (by omega) (by omega) (by omega)
theorem turn_ok (l : List Int) (u : Bool) : turnB l u = true ↔ ∃ t, 1 ≤ t ∧ t < (turnsL l).length ∧ okT (turnsL l) t (if u then 1 else -1) (if u then -1 else 1) := by
  unfold turnB
  rw [anyT_iff l u l.length 1 (by omega), turnsL_length]
  constructor
  · rintro ⟨s, h1, h2, h3⟩
    refine ⟨s, h1, by omega, fun j hj => ?_⟩
    rw [turnsL_length] at hj
    rw [turnsL_get l j (by omega)]
    have := (allF_iff _).1 h3 (j + 1) (by omega) (by omega)
    unfold tQ at this
    unfold sgn
    by_cases c : j < s
    · rw [if_pos c]; rw [if_pos (by omega)] at this
      cases u <;> simp [grQ, shQ] at this ⊢ <;> omega
    · rw [if_neg c]; rw [if_neg (by omega)] at this
      cases u <;> simp [grQ, shQ] at this ⊢ <;> omega
  · rintro ⟨t, h1, h2, h3⟩
    refine ⟨t, h1, by omega, (allF_iff _).2 fun j hj h => ?_⟩
    obtain ⟨j, rfl⟩ : ∃ i, j = i + 1 := ⟨j - 1, by omega⟩
    have := h3 j (by rw [turnsL_length]; omega)
    rw [turnsL_get l j (by omega)] at this
    unfold sgn at this
    unfold tQ
    by_cases c : j < t
    · rw [if_pos (by omega)]; rw [if_pos c] at this
      cases u <;> simp [grQ, shQ] at this ⊢ <;> omega
    · rw [if_neg (by omega)]; rw [if_neg c] at this
      cases u <;> simp [grQ, shQ] at this ⊢ <;> omega
theorem allF_turns (l : List Int) (Q : Nat → Bool) (x : Int) (hQ : ∀ j, Q (j + 1) = decide (sgn (l.getD (j + 1) 0) (l.getD j 0) = x)) : allF Q l.length 1 = true ↔ ∀ y ∈ turnsL l, y = x := by
  rw [allF_iff]
  constructor
  · intro h y hy
    obtain ⟨j, hj, rfl⟩ := List.mem_map.1 hy
    have := h (j + 1) (by have := List.mem_range.1 hj; omega) (by omega)
    rw [hQ] at this
    exact of_decide_eq_true this
  · intro h j hj h1
    obtain ⟨j, rfl⟩ : ∃ i, j = i + 1 := ⟨j - 1, by omega⟩
    rw [hQ]
    exact decide_eq_true (h _ (List.mem_map.2 ⟨j, List.mem_range.2 (by omega), rfl⟩))
def finS (l : List Int) (e g s : Bool) : Int := if e = true then 1 else if g = true then 2 else if s = true then 3 else if turnB l true = true then 4 else if turnB l false = true then 5 else 0
theorem fin_shape (l : List Int) : finS l (allF (eqQ l) l.length 1) (allF (grQ l) l.length 1) (allF (shQ l) l.length 1) = shapeF (dd (turnsL l)) := by
  have e0 := allF_turns l (eqQ l) 0 (fun j => by unfold eqQ sgn; rw [decide_eq_decide, Nat.add_sub_cancel]; constructor <;> intro h <;> (repeat' split at *) <;> omega)
  have e1 := allF_turns l (grQ l) 1 (fun j => by unfold grQ sgn; rw [decide_eq_decide, Nat.add_sub_cancel]; constructor <;> intro h <;> (repeat' split at *) <;> omega)
  have e2 := allF_turns l (shQ l) (-1) (fun j => by unfold shQ sgn; rw [decide_eq_decide, Nat.add_sub_cancel]; constructor <;> intro h <;> (repeat' split at *) <;> omega)
  have t1 := turn_ok l true
  have t2 := turn_ok l false
  simp only [if_true, Bool.false_eq_true, if_false] at t1 t2
  rw [← dd_two (by omega)] at t1 t2
  generalize turnsL l = T at *
  unfold finS shapeF
  by_cases n : T = []
  · subst n
    rw [if_pos (e0.2 (by simp)), if_pos (.inl rfl)]
  have d0 : allF (eqQ l) l.length 1 = true ↔ dd T = [] ∨ dd T = [0] := by rw [e0, dd_one, dd_nil]; simp [n]
  have d1 : allF (grQ l) l.length 1 = true ↔ dd T = [1] := by rw [e1, dd_one]; simp [n]
  have d2 : allF (shQ l) l.length 1 = true ↔ dd T = [-1] := by rw [e2, dd_one]; simp [n]
  simp only [d0, d1, d2, t1, t2]
theorem sShape_l0 (l : List Int) (hl : l.length ≤ 48) (d : Nat) : ∀ (i : Nat) (e g s : Bool), 1 ≤ i → l.length ≤ i + d →
    Ev (fun k => spec_l21Shape.l0 k l e g s i) (finS l (e && allF (eqQ l) l.length i) (g && allF (grQ l) l.length i) (s && allF (shQ l) l.length i)) := by
  have fin : ∀ (i : Nat) (e g s : Bool), 1 ≤ i → l.length ≤ i → Ev (fun k => spec_l21Shape.l0 k l e g s i) (finS l (e && allF (eqQ l) l.length i) (g && allF (grQ l) l.length i) (s && allF (shQ l) l.length i)) := by
    intro i e g s h1 h2
    rw [allF_end _ h2, allF_end _ h2, allF_end _ h2, Bool.and_true, Bool.and_true, Bool.and_true]
    refine Ev.shift ?_
    simp only [spec_l21Shape.l0]
    refine Ev.neg (by omega) ?_
    unfold finS
    cases e with
    | true => exact Ev.pos rfl (Ev.now _)
    | false =>
      refine Ev.neg (by simp) ?_
      cases g with
      | true => exact Ev.pos rfl (Ev.now _)
      | false =>
        refine Ev.neg (by simp) ?_
        cases s with
        | true => exact Ev.pos rfl (Ev.now _)
        | false =>
          refine Ev.neg (by simp) (Ev.bind (sTurn l hl true) ?_)
          simp only [Bool.false_eq_true, if_false]
          cases turnB l true with
          | true => exact Ev.pos rfl (Ev.now _)
          | false =>
            refine Ev.neg (by simp) (Ev.bind (sTurn l hl false) ?_)
            cases turnB l false with
            | true => exact Ev.pos rfl (Ev.now _)
            | false => exact Ev.neg (by simp) (Ev.now _)
  induction d with
  | zero => intro i e g s h1 h2; exact fin i e g s h1 (by omega)
  | succ d ih =>
    intro i e g s h1 h2
    by_cases hi : i < l.length
    · have e1 : wrap64 ((i : Int) - 1) = ((i - 1 : Nat) : Int) := by rw [wid (by omega)]; omega
      have e2 : wrap64 ((i : Int) + 1) = ((i + 1 : Nat) : Int) := wid (by omega)
      have q1 : ∀ (x : Bool) (Q : Nat → Bool), (x && Q i && allF Q l.length (i + 1)) = (x && allF Q l.length i) := by
        intro x Q
        cases hq : Q i with
        | true => rw [Bool.and_true, allF_yes _ hq]
        | false => rw [Bool.and_false, allF_no _ hi hq, Bool.and_false, Bool.false_and]
      have step := ih (i + 1) (e && eqQ l i) (g && grQ l i) (s && shQ l i) (by omega) (by omega)
      rw [q1, q1, q1] at step
      have f1 : (l.getD i 0 == l.getD (i - 1) 0) = eqQ l i := by unfold eqQ; rw [Bool.eq_iff_iff]; simp
      refine Ev.shift ?_
      simp only [spec_l21Shape.l0, e1, e2, rd_nat, f1]
      refine Ev.pos (by omega) ?_
      cases e <;> cases g <;> cases s <;>
        (repeat (first | exact step | exact Ev.same step rfl | refine Ev.pos (by omega) ?_ | refine Ev.pos (by trivial) ?_ | refine Ev.neg (by simp; done) ?_))
    · exact fin i e g s h1 (by omega)
theorem FnExactShapeOf : laws_FnExactShapeOf.Pure := by
  intro l0 _ _ _
  refine Ev.rounds (g := fun k => laws_FnExactShapeOf.f k l0) ?_
  unfold laws_FnExactShapeOf.f
  by_cases h0 : (l0.length : Int) > 1048576
  · exact Ev.pos h0 (Ev.now _)
  refine Ev.neg h0 ?_
  have hl : l0.length ≤ 35184372088832 := by omega
  have hS : Ev (fun k => spec_ShapeOf.f k l0) (if lensB l0 = true then shapeR (dd (turnsL l0)) else (0, 7)) := by
    unfold spec_ShapeOf.f
    refine Ev.bind (sLens l0 hl) ?_
    by_cases c : lensB l0 = true
    · rw [if_pos c]
      refine Ev.pos c ?_
      have h48 := lensB_len c
      have := sShape_l0 l0 h48 l0.length 1 true true true (by omega) (by omega)
      rw [Bool.true_and, Bool.true_and, Bool.true_and, fin_shape] at this
      unfold spec_l21Shape.f
      refine Ev.bind this ?_
      by_cases z : shapeF (dd (turnsL l0)) = 0
      · rw [show shapeR (dd (turnsL l0)) = (0, 3) by unfold shapeR; rw [if_pos z]]; exact Ev.pos z (Ev.now _)
      · rw [show shapeR (dd (turnsL l0)) = (shapeF (dd (turnsL l0)), 0) by unfold shapeR; rw [if_neg z]]; exact Ev.neg z (Ev.now _)
    · rw [if_neg c]
      exact Ev.neg c (Ev.now _)
  have hI : Ev (fun k => impl_ShapeOf.f k l0) (if lensB l0 = true then shapeR (dd (turnsL l0)) else (0, 7)) := by
    unfold impl_ShapeOf.f
    rw [iLens]
    simp only [Option.bind_some]
    by_cases c : lensB l0 = true
    · rw [if_pos c]
      refine Ev.pos c ?_
      exact iShape_l0 l0 (lensB_len c) l0.length 1 (by omega) (by omega) (by omega)
    · rw [if_neg c]
      exact Ev.neg c (Ev.now _)
  generalize (if lensB l0 = true then shapeR (dd (turnsL l0)) else (0, 7)) = q at hS hI
  obtain ⟨a, b⟩ := q
  refine Ev.bind (toI l0 hl) (Ev.bind hS (Ev.bind (toI l0 hl) (Ev.bind hI ?_)))
  refine Ev.pos rfl (Ev.shift ?_)
  simp only [laws_FnExactShapeOf.j0]
  refine Ev.neg (by simp) (Ev.bind (toI l0 hl) (Ev.bind (eqI l0 hl) ?_))
  exact Ev.pos rfl (Ev.now _)

end Go.Proofs.Ytjdmfkmagcnakaa.Pure
