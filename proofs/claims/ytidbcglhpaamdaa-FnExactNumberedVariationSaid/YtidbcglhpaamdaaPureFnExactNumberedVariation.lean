/- The pure statement of the law FnExactNumberedVariation: what the Go functions compute, told by plain Lean functions, is what the law asks, for all arguments. No condition beyond the printed ones. -/
import Derived.Test.YtidbcglhpaamdaaPFnExactNumberedVariationxo
import Derived.Test.YtidbcglhpaamdaaXW
namespace Go.Proofs.Ytidbcglhpaamdaa.Pure
open Go.RowKit Go.Proofs.Ytidbcglhpaamdaa.PFnExactNumberedVariation Go.Proofs.YtidbcglhpaamdaaW.PrintWords Go.Proofs.YtidbcglhpaamdaaW.PrintLast Go.Proofs.YtidbcglhpaamdaaW.PrintMore Go.Proofs.YtidbcglhpaamdaaXW
set_option linter.unusedVariables false
set_option linter.unusedSimpArgs false
theorem toI_l0 (l : List Int) (hl : l.length ≤ 35184372088832) (d : Nat) : ∀ (i : Nat) (acc : List Int), i + d = l.length → acc.length = l.length → acc.take i = l.take i → Ev (fun k => laws_toInt64S.l0 k l acc i) l := by
  induction d with
  | zero =>
    intro i acc h1 h2 h3
    refine Ev.shift ?_
    simp only [laws_toInt64S.l0]
    refine Ev.neg (by omega) ?_
    refine Ev.some ?_
    rw [List.take_of_length_le (by omega), List.take_of_length_le (by omega)] at h3
    rw [h3]
  | succ d ih =>
    intro i acc h1 h2 h3
    refine Ev.shift ?_
    simp only [laws_toInt64S.l0]
    refine Ev.pos (by omega) (Ev.pos (by omega) (Ev.pos (by omega) ?_))
    rw [wid (by omega), rd_get l i (by omega), Int.toNat_natCast]
    refine ih (i + 1) (acc.set i l[i]) (by omega) (by rw [List.length_set, h2]) ?_
    rw [List.take_succ_eq_append_getElem (by rw [List.length_set]; omega), List.take_succ_eq_append_getElem (by omega), List.take_set_of_le (by omega), List.getElem_set_self, h3]
theorem toI (l : List Int) (hl : l.length ≤ 35184372088832) : Ev (fun k => laws_toInt64S.f k l) l := by
  unfold laws_toInt64S.f
  refine Ev.pos (by omega) (Ev.pos (by omega) ?_)
  rw [Int.toNat_natCast]
  exact toI_l0 l hl l.length 0 _ (by omega) (by simp) (by simp)
theorem eqI_l0 (l : List Int) (hl : l.length ≤ 35184372088832) (d : Nat) : ∀ (i : Nat), i + d = l.length → Ev (fun k => laws_eqInt64S.l0 k l l i) true := by
  induction d with
  | zero =>
    intro i h1
    refine Ev.shift ?_
    simp only [laws_eqInt64S.l0]
    exact Ev.neg (by omega) (Ev.now _)
  | succ d ih =>
    intro i h1
    refine Ev.shift ?_
    simp only [laws_eqInt64S.l0]
    refine Ev.pos (by omega) (Ev.pos (by omega) (Ev.pos (by omega) (Ev.pos (by trivial) ?_)))
    rw [wid (by omega)]
    exact ih (i + 1) (by omega)
theorem eqI (l : List Int) (hl : l.length ≤ 35184372088832) : Ev (fun k => laws_eqInt64S.f k l l) true := by
  unfold laws_eqInt64S.f
  exact Ev.pos rfl (eqI_l0 l hl l.length 0 (by omega))
/-- what marks leave: from m on, one by one -/
def marks (m : Int) : Nat → List Int
  | 0 => []
  | n + 1 => m :: marks (m + 1) n
theorem marks_length (n : Nat) : ∀ m, (marks m n).length = n := by
  induction n with
  | zero => intro m; rfl
  | succ n ih => intro m; simp [marks, ih]
theorem marks_get (n : Nat) : ∀ (m : Int) (i : Nat) (h : i < (marks m n).length), (marks m n)[i] = m + i := by
  induction n with
  | zero => intro m i h; simp [marks] at h
  | succ n ih =>
    intro m i h
    cases i with
    | zero => simp [marks]
    | succ i => simp only [marks, List.getElem_cons_succ]; rw [ih]; omega
theorem marks_snoc (n : Nat) : ∀ m, marks m (n + 1) = marks m n ++ [m + n] := by
  induction n with
  | zero => intro m; simp [marks]
  | succ n ih =>
    intro m
    rw [marks, ih, marks, List.cons_append]
    congr 3
    simp; omega
theorem markI_l0 (m0 : Int) (n : Nat) (h0 : 0 ≤ m0) (h1 : m0 + n ≤ 9000000000000000000) (d : Nat) : ∀ (i : Nat) (acc : List Int), i + d = n → acc.length = n → acc.take i = marks m0 i → Ev (fun k => laws_markInt64S.l0 k acc (m0 + i) i) (m0 + n, marks m0 n) := by
  induction d with
  | zero =>
    intro i acc h2 h3 h4
    refine Ev.shift ?_
    simp only [laws_markInt64S.l0]
    refine Ev.neg (by omega) (Ev.some ?_)
    rw [List.take_of_length_le (by omega)] at h4
    rw [h4, show i = n by omega]
  | succ d ih =>
    intro i acc h2 h3 h4
    refine Ev.shift ?_
    simp only [laws_markInt64S.l0]
    refine Ev.pos (by omega) (Ev.pos (by omega) ?_)
    rw [wid (x := m0 + i + 1) (by omega), wid (x := (i : Int) + 1) (by omega), Int.toNat_natCast, show m0 + (i : Int) + 1 = m0 + ((i + 1 : Nat) : Int) by omega]
    refine ih (i + 1) _ (by omega) (by rw [List.length_set, h3]) ?_
    rw [List.take_succ_eq_append_getElem (by rw [List.length_set]; omega), List.take_set_of_le (by omega), List.getElem_set_self, h4, marks_snoc]
theorem markI (l : List Int) (m : Int) (h0 : 0 ≤ m) (h1 : m + l.length ≤ 9000000000000000000) : Ev (fun k => laws_markInt64S.f k l m) (m + l.length, marks m l.length) := by
  unfold laws_markInt64S.f
  have := markI_l0 m l.length h0 h1 l.length 0 l (by omega) rfl (by simp [marks])
  simpa using this
theorem heldI_l0 (m0 : Int) (n : Nat) (h0 : 0 ≤ m0) (h1 : m0 + n ≤ 9000000000000000000) (d : Nat) : ∀ (i : Nat), i + d = n → Ev (fun k => laws_heldInt64S.l0 k (marks m0 n) (m0 + i) i) (m0 + n) := by
  induction d with
  | zero =>
    intro i h2
    refine Ev.shift ?_
    simp only [laws_heldInt64S.l0, marks_length]
    exact Ev.neg (by omega) (Ev.some (by rw [show i = n by omega]))
  | succ d ih =>
    intro i h2
    refine Ev.shift ?_
    simp only [laws_heldInt64S.l0, marks_length]
    refine Ev.pos (by omega) (Ev.pos (by omega) (Ev.pos (by rw [rd_get _ _ (by rw [marks_length]; omega), marks_get]) ?_))
    rw [wid (x := m0 + i + 1) (by omega), wid (x := (i : Int) + 1) (by omega), show m0 + (i : Int) + 1 = m0 + ((i + 1 : Nat) : Int) by omega]
    exact ih (i + 1) (by omega)
theorem heldI (n : Nat) (m : Int) (h0 : 0 ≤ m) (h1 : m + n ≤ 9000000000000000000) : Ev (fun k => laws_heldInt64S.f k (marks m n) m) (m + n) := by
  unfold laws_heldInt64S.f
  have := heldI_l0 m n h0 h1 n 0 (by omega)
  simpa using this
def risQ (l : List Int) (lo hi : Int) (j : Nat) : Bool := decide (lo ≤ l.getD j 0 ∧ l.getD j 0 ≤ hi) && (decide (j = 0) || decide (l.getD (j - 1) 0 < l.getD j 0))
theorem in_eq (a b c : Int) : spec_l00In.f a b c = some (decide (b ≤ a ∧ a ≤ c)) := by
  unfold spec_l00In.f; split <;> simp_all; omega
theorem within_eq (a b c : Int) : impl_within.f a b c = some (decide (b ≤ a ∧ a ≤ c)) := by
  unfold impl_within.f; split <;> simp_all; omega
theorem allIn_eq (l : List Int) (a b : Int) : impl_allWithin.f l a b = some (l.all fun x => decide (a ≤ x ∧ x ≤ b)) := by
  unfold impl_allWithin.f
  rw [List.not_any_eq_all_not]
  congr 2
  funext x
  simp [allP]
def cpSyllable (l : List S61) : List S66 := l.map fun x => ⟨x.f0, x.f1, x.f2⟩
theorem cpSyllable_length (l : List S61) : (cpSyllable l).length = l.length := List.length_map _
theorem toSyllable_l0 (l : List S61) (hl : l.length ≤ 8796093022208) (d : Nat) : ∀ (i : Nat) (acc : List S66), i + d = l.length → acc.length = l.length → acc.take i = (cpSyllable l).take i → Ev (fun k => laws_toSyllableS.l0 k l acc i) (cpSyllable l) := by
  have hc : (cpSyllable l).length = l.length := List.length_map _
  induction d with
  | zero =>
    intro i acc h1 h2 h3
    refine Ev.shift ?_
    simp only [laws_toSyllableS.l0]
    refine Ev.neg (by omega) (Ev.some ?_)
    rw [List.take_of_length_le (by omega), List.take_of_length_le (by omega)] at h3
    rw [h3]
  | succ d ih =>
    intro i acc h1 h2 h3
    refine Ev.shift ?_
    simp only [laws_toSyllableS.l0, laws_toSyllable.f, Option.bind_some]
    refine Ev.pos (by omega) (Ev.pos (by omega) (Ev.pos (by omega) ?_))
    rw [wid (by omega), Int.toNat_natCast]
    refine ih (i + 1) _ (by omega) (by rw [List.length_set, h2]) ?_
    rw [List.take_succ_eq_append_getElem (by rw [List.length_set]; omega), List.take_succ_eq_append_getElem (by omega), List.take_set_of_le (by omega), List.getElem_set_self, h3]
    have e : rd_T61 l (i : Int) = l[i] := by
      unfold rd_T61
      rw [Int.toNat_natCast, List.getD_eq_getElem?_getD, List.getElem?_eq_getElem (by omega), Option.getD_some]
    simp only [cpSyllable, List.getElem_map, e]
theorem toSyllable (l : List S61) (hl : l.length ≤ 8796093022208) : Ev (fun k => laws_toSyllableS.f k l) (cpSyllable l) := by
  unfold laws_toSyllableS.f
  refine Ev.pos (by omega) (Ev.pos (by omega) ?_)
  rw [Int.toNat_natCast]
  exact toSyllable_l0 l hl l.length 0 _ (by omega) (by simp) (by simp)
theorem eqSyllable_l0 (l : List S66) (hl : l.length ≤ 8796093022208) (d : Nat) : ∀ (i : Nat), i + d = l.length → Ev (fun k => laws_eqSyllableS.l0 k l l i) true := by
  induction d with
  | zero =>
    intro i h1
    refine Ev.shift ?_
    simp only [laws_eqSyllableS.l0]
    exact Ev.neg (by omega) (Ev.now _)
  | succ d ih =>
    intro i h1
    refine Ev.shift ?_
    simp only [laws_eqSyllableS.l0, laws_eqSyllable.f, Option.bind_some, if_true]
    refine Ev.pos (by omega) (Ev.pos (by omega) (Ev.pos (by omega) ?_))
    rw [wid (by omega)]
    exact ih (i + 1) (by omega)
theorem eqSyllable (l : List S66) (hl : l.length ≤ 8796093022208) : Ev (fun k => laws_eqSyllableS.f k l l) true := by
  unfold laws_eqSyllableS.f
  exact Ev.pos rfl (eqSyllable_l0 l hl l.length 0 (by omega))
theorem szSyllable_l0 (l : List S61) (hl : l.length ≤ 1048576) (hm : ∀ z ∈ l, z.f0.size ≤ maxLen) (d : Nat) : ∀ (i : Nat) (t : Int), i + d = l.length → 0 ≤ t ∧ t ≤ 1048576 → ∃ r, r ≤ 1048576 ∧ Ev (fun k => laws_szSyllableS.l0 k l t i) r := by
  induction d with
  | zero =>
    intro i t h1 ht
    refine ⟨t, by omega, Ev.shift ?_⟩
    simp only [laws_szSyllableS.l0]
    exact Ev.neg (by omega) (Ev.now _)
  | succ d ih =>
    intro i t h1 ht
    have e : rd_T61 l (i : Int) ∈ l := by
      unfold rd_T61
      rw [Int.toNat_natCast, List.getD_eq_getElem?_getD, List.getElem?_eq_getElem (by omega), Option.getD_some]
      exact List.getElem_mem _
    have hz := hm _ e
    unfold maxLen at hz
    have w1 : wrap64 ((i : Int) + 1) = ((i + 1 : Nat) : Int) := by rw [wid (by omega)]; rfl
    by_cases c : t - ((rd_T61 l (i : Int)).f0.size : Int) < 0
    · refine ⟨-1, by omega, Ev.shift ?_⟩
      simp only [laws_szSyllableS.l0, laws_szSyllable.f]
      rw [wid (x := t - _) (by omega), if_pos c]
      simp only [Option.bind_some]
      exact Ev.pos (by omega) (Ev.pos (by omega) (Ev.pos (by omega) (Ev.now _)))
    · obtain ⟨r, hb, hr⟩ := ih (i + 1) (t - ((rd_T61 l (i : Int)).f0.size : Int)) (by omega) (by omega)
      refine ⟨r, hb, Ev.shift ?_⟩
      simp only [laws_szSyllableS.l0, laws_szSyllable.f, w1]
      rw [wid (x := t - _) (by omega), if_neg c]
      simp only [Option.bind_some]
      exact Ev.pos (by omega) (Ev.pos (by omega) (Ev.neg c hr))
theorem szSyllable2 (l : List S61) (hl : l.length ≤ maxLen) (hm : ∀ z ∈ l, z.f0.size ≤ maxLen) : ∃ r, Ev (fun k => laws_szSyllableS.f k l 1048576) r ∧ r ≤ 1048576 ∧ (0 ≤ r → l.length ≤ 1048576) := by
  unfold laws_szSyllableS.f
  unfold maxLen at hl
  rw [wid (by omega)]
  by_cases h : l.length ≤ 1048576
  · obtain ⟨r, hb, hr⟩ := szSyllable_l0 l h hm l.length 0 (1048576 - (l.length : Int)) (by omega) (by omega)
    exact ⟨r, Ev.neg (by omega) hr, hb, fun _ => h⟩
  · exact ⟨-1, Ev.pos (by omega) (Ev.now _), by omega, fun h => by omega⟩
theorem szSyllable (l : List S61) (hl : l.length ≤ maxLen) (hm : ∀ z ∈ l, z.f0.size ≤ maxLen) : ∃ r, Ev (fun k => laws_szSyllableS.f k l 1048576) r ∧ (0 ≤ r → l.length ≤ 1048576) := by
  obtain ⟨r, h1, _, h2⟩ := szSyllable2 l hl hm
  exact ⟨r, h1, h2⟩
def chQ (s : ByteArray) (j : Nat) : Bool := decide (97 ≤ bt s j ∧ bt s j ≤ 122) || decide (48 ≤ bt s j ∧ bt s j ≤ 57)
def nameB (s : ByteArray) : Bool := decide (1 ≤ s.size ∧ s.size ≤ 10) && (decide (97 ≤ bt s 0 ∧ bt s 0 ≤ 122) && allF (chQ s) s.size 0)
theorem small_eq (a : Int) : spec_l01Small.f a = some (decide (97 ≤ a ∧ a ≤ 122)) := by
  unfold spec_l01Small.f; split <;> simp_all; omega
theorem digit_eq (a : Int) : spec_l01Digit.f a = some (decide (48 ≤ a ∧ a ≤ 57)) := by
  unfold spec_l01Digit.f; split <;> simp_all; omega
theorem sName_l0 (s : ByteArray) (hs : s.size ≤ 10) (d : Nat) : ∀ (i : Nat), i + d = s.size → Ev (fun k => spec_l01Name.l0 k s i) (allF (chQ s) s.size i) := by
  induction d with
  | zero =>
    intro i h1
    refine Ev.shift ?_
    simp only [spec_l01Name.l0]
    exact Ev.neg (by omega) (Ev.some (by rw [allF_end _ (by omega)]))
  | succ d ih =>
    intro i h1
    have w1 : wrap64 ((i : Int) + 1) = ((i + 1 : Nat) : Int) := by rw [wid (by omega)]; rfl
    refine Ev.shift ?_
    simp only [spec_l01Name.l0, small_eq, digit_eq, Option.bind_some, w1]
    refine Ev.pos (by omega) (Ev.pos (by omega) ?_)
    by_cases a : 97 ≤ bt s i ∧ bt s i ≤ 122
    · rw [allF_yes _ (show chQ s i = true by unfold chQ; rw [decide_eq_true a]; rfl)]
      exact Ev.pos (decide_eq_true a) (ih (i + 1) (by omega))
    · refine Ev.neg (by rw [decide_eq_true_iff]; exact a) ?_
      by_cases b : 48 ≤ bt s i ∧ bt s i ≤ 57
      · rw [allF_yes _ (show chQ s i = true by unfold chQ; rw [decide_eq_true b, Bool.or_true])]
        exact Ev.pos (decide_eq_true b) (ih (i + 1) (by omega))
      · rw [allF_no _ (by omega) (show chQ s i = false by unfold chQ; rw [decide_eq_false a, decide_eq_false b]; rfl)]
        exact Ev.neg (by rw [decide_eq_true_iff]; exact b) (Ev.now _)
theorem sName (s : ByteArray) : Ev (fun k => spec_l01Name.f k s) (nameB s) := by
  unfold spec_l01Name.f nameB
  simp only [small_eq, Option.bind_some]
  have e : s.toList.length = s.size := by rw [ByteArray.toList_eq]; simp
  have f : Ev (fun k => spec_l01Name.j0 k s true) false := by
    refine Ev.shift ?_
    simp only [spec_l01Name.j0]
    exact Ev.pos trivial (Ev.now _)
  by_cases h0 : s.toList = []
  · refine Ev.pos h0 ?_
    rw [h0] at e
    rw [decide_eq_false (by simp at e; omega)]
    exact f
  · refine Ev.neg h0 ?_
    have hp : 0 < s.toList.length := List.length_pos_iff.2 h0
    by_cases h1 : (s.size : Int) > 10
    · refine Ev.pos h1 ?_
      rw [decide_eq_false (show ¬ (1 ≤ s.size ∧ s.size ≤ 10) by omega)]
      exact f
    · refine Ev.neg h1 (Ev.pos (by omega) ?_)
      rw [decide_eq_true (show 1 ≤ s.size ∧ s.size ≤ 10 by omega), Bool.true_and]
      cases hb : decide (97 ≤ bt s 0 ∧ bt s 0 ≤ 122) with
      | false => exact f
      | true =>
        refine Ev.shift ?_
        simp only [spec_l01Name.j0]
        exact Ev.neg (by decide) (sName_l0 s (by omega) s.size 0 (by omega))
theorem iName_l0 (s : ByteArray) (hs : s.size ≤ 10) (d : Nat) : ∀ (i : Nat), i + d = s.size → Ev (fun k => impl_onlyNameBytes.l0 k s (s.size : Int) i) (allF (chQ s) s.size i) := by
  induction d with
  | zero =>
    intro i h1
    refine Ev.shift ?_
    simp only [impl_onlyNameBytes.l0]
    exact Ev.neg (by omega) (Ev.some (by rw [allF_end _ (by omega)]))
  | succ d ih =>
    intro i h1
    have w1 : wrap64 ((i : Int) + 1) = ((i + 1 : Nat) : Int) := by rw [wid (by omega)]; rfl
    refine Ev.shift ?_
    simp only [impl_onlyNameBytes.l0, w1]
    refine Ev.pos (by omega) (Ev.pos (by omega) (Ev.pos (by omega) ?_))
    by_cases a : 97 ≤ bt s i ∧ bt s i ≤ 122
    · rw [allF_yes _ (show chQ s i = true by unfold chQ; rw [decide_eq_true a]; rfl)]
      exact Ev.neg (by omega) (Ev.neg (by omega) (ih (i + 1) (by omega)))
    · by_cases b : 48 ≤ bt s i ∧ bt s i ≤ 57
      · rw [allF_yes _ (show chQ s i = true by unfold chQ; rw [decide_eq_true b, Bool.or_true])]
        exact Ev.pos (by omega) (Ev.neg (by omega) (Ev.neg (by omega) (ih (i + 1) (by omega))))
      · rw [allF_no _ (by omega) (show chQ s i = false by unfold chQ; rw [decide_eq_false a, decide_eq_false b]; rfl)]
        by_cases c : bt s i < 97
        · refine Ev.pos c ?_
          by_cases c2 : bt s i < 48
          · exact Ev.pos c2 (Ev.now _)
          · exact Ev.neg c2 (Ev.pos (by omega) (Ev.now _))
        · exact Ev.neg c (Ev.pos (by omega) (Ev.neg (by omega) (Ev.pos (by omega) (Ev.now _))))
theorem iName (s : ByteArray) : Ev (fun k => impl_IsName.f k s) (nameB s) := by
  unfold impl_IsName.f nameB impl_onlyNameBytes.f
  by_cases h0 : (s.size : Int) < 1
  · rw [decide_eq_false (show ¬ (1 ≤ s.size ∧ s.size ≤ 10) by omega)]
    exact Ev.pos h0 (Ev.now _)
  · refine Ev.neg h0 ?_
    by_cases h1 : (s.size : Int) > 10
    · rw [decide_eq_false (show ¬ (1 ≤ s.size ∧ s.size ≤ 10) by omega)]
      exact Ev.pos h1 (Ev.now _)
    · rw [decide_eq_true (show 1 ≤ s.size ∧ s.size ≤ 10 by omega), Bool.true_and]
      refine Ev.neg h1 (Ev.pos (by omega) ?_)
      by_cases a : bt s 0 < 97
      · rw [decide_eq_false (show ¬ (97 ≤ bt s 0 ∧ bt s 0 ≤ 122) by omega)]
        exact Ev.pos a (Ev.now _)
      · refine Ev.neg a ?_
        by_cases b : bt s 0 > 122
        · rw [decide_eq_false (show ¬ (97 ≤ bt s 0 ∧ bt s 0 ≤ 122) by omega)]
          exact Ev.pos b (Ev.now _)
        · rw [decide_eq_true (show 97 ≤ bt s 0 ∧ bt s 0 ≤ 122 by omega), Bool.true_and]
          exact Ev.neg b (Ev.bind (iName_l0 s (by omega) s.size 0 (by omega)) (Ev.now _))
def sylB (x : S66) : Bool := nameB x.f0 && (decide ((x.f0.size : Int) ≤ 6) && (decide (1 ≤ x.f1 ∧ x.f1 ≤ 3) && decide (1 ≤ x.f2 ∧ x.f2 ≤ 8)))
theorem dec_and (p q : Prop) [Decidable p] [Decidable q] : (decide p && decide q) = decide (p ∧ q) := by
  by_cases p <;> by_cases q <;> simp [*]
theorem sSyl (x : S66) : Ev (fun k => spec_l18One_at.f k x.f0 x.f1 x.f2) (sylB x) := by
  unfold spec_l18One_at.f
  refine Ev.bind (sName x.f0) (Ev.same (Ev.now _) ?_)
  unfold sylB
  rw [dec_and, dec_and]
theorem rdSy (l : List S66) (i : Nat) : rd_T66 l (i : Int) = l.getD i z66 := by
  unfold rd_T66
  rw [Int.toNat_natCast]
def syQ (l : List S66) (j : Nat) : Bool := sylB (l.getD j z66) && (decide (j = 0) || Op.bytesLess (l.getD (j - 1) z66).f0.toList (l.getD j z66).f0.toList)
def sylsB (l : List S66) : Bool := allF (syQ l) l.length 0 && decide ((l.length : Int) ≤ 16)
theorem sSyls_l0 (l : List S66) (hl : l.length ≤ 8796093022208) (d : Nat) : ∀ (i : Nat), i + d = l.length → Ev (fun k => spec_l18Ok.l0 k l i) (allF (syQ l) l.length i && decide ((l.length : Int) ≤ 16)) := by
  induction d with
  | zero =>
    intro i h1
    refine Ev.shift ?_
    simp only [spec_l18Ok.l0]
    exact Ev.neg (by omega) (Ev.some (by rw [allF_end _ (by omega), Bool.true_and]))
  | succ d ih =>
    intro i h1
    have w1 : wrap64 ((i : Int) + 1) = ((i + 1 : Nat) : Int) := by rw [wid (by omega)]; rfl
    refine Ev.shift ?_
    simp only [spec_l18Ok.l0, rdSy, w1]
    refine Ev.pos (by omega) (Ev.pos (by omega) (Ev.bind (sSyl _) ?_))
    cases hb : sylB (l.getD i z66) with
    | false =>
      rw [allF_no _ (by omega) (show syQ l i = false by unfold syQ; rw [hb]; rfl)]
      exact Ev.neg (by decide) (Ev.now _)
    | true =>
      refine Ev.pos rfl ?_
      cases i with
      | zero =>
        rw [allF_yes _ (show syQ l 0 = true by unfold syQ; rw [hb]; rfl)]
        exact Ev.neg (by omega) (ih 1 (by omega))
      | succ i =>
        refine Ev.pos (by omega) ?_
        have e1 : wrap64 (((i + 1 : Nat) : Int) - 1) = (i : Int) := by rw [wid (by omega)]; omega
        rw [e1, rdSy]
        refine Ev.pos (by omega) (Ev.pos (by omega) ?_)
        have e2 : syQ l (i + 1) = Op.bytesLess (l.getD i z66).f0.toList (l.getD (i + 1) z66).f0.toList := by
          unfold syQ
          rw [hb, decide_eq_false (by omega), Bool.true_and, Bool.false_or]
          rfl
        cases hc : Op.bytesLess (l.getD i z66).f0.toList (l.getD (i + 1) z66).f0.toList with
        | true =>
          rw [allF_yes _ (e2.trans hc)]
          exact Ev.pos rfl (ih (i + 2) (by omega))
        | false =>
          rw [allF_no _ (by omega) (e2.trans hc)]
          exact Ev.neg (by decide) (Ev.now _)
theorem sSyls (l : List S66) (hl : l.length ≤ 8796093022208) : Ev (fun k => spec_l18Ok.f k l) (sylsB l) :=
  sSyls_l0 l hl l.length 0 (by omega)
theorem iSyl (x : S66) : Ev (fun k => impl_ValidSyllable.f k x.f0 x.f1 x.f2) (sylB x) := by
  unfold impl_ValidSyllable.f sylB
  simp only [within_eq, Option.bind_some]
  refine Ev.bind (iName x.f0) ?_
  cases nameB x.f0 with
  | false => exact Ev.neg (by decide) (Ev.now _)
  | true =>
    refine Ev.pos rfl ?_
    rw [Bool.true_and]
    by_cases h : (x.f0.size : Int) ≤ 6
    · rw [decide_eq_true h, Bool.true_and]
      refine Ev.pos h ?_
      cases decide (1 ≤ x.f1 ∧ x.f1 ≤ 3) with
      | false => exact Ev.neg (by decide) (Ev.now _)
      | true => exact Ev.pos rfl (Ev.now _)
    · rw [decide_eq_false h, Bool.false_and]
      exact Ev.neg h (Ev.now _)
theorem iSyls_l0 (l : List S66) (hl : l.length ≤ 16) (d : Nat) : ∀ (i : Nat), i + d = l.length → Ev (fun k => impl_ValidSyllables.l0 k l l (l.length : Int) i) (allF (syQ l) l.length i) := by
  induction d with
  | zero =>
    intro i h1
    refine Ev.shift ?_
    simp only [impl_ValidSyllables.l0]
    exact Ev.neg (by omega) (Ev.some (by rw [allF_end _ (by omega)]))
  | succ d ih =>
    intro i h1
    have w1 : wrap64 ((i : Int) + 1) = ((i + 1 : Nat) : Int) := by rw [wid (by omega)]; rfl
    refine Ev.shift ?_
    simp only [impl_ValidSyllables.l0, rdSy, w1]
    refine Ev.pos (by omega) (Ev.pos (by omega) (Ev.pos (by omega) (Ev.bind (iSyl _) ?_)))
    cases hb : sylB (l.getD i z66) with
    | false =>
      rw [allF_no _ (by omega) (show syQ l i = false by unfold syQ; rw [hb]; rfl)]
      exact Ev.neg (by decide) (Ev.now _)
    | true =>
      refine Ev.pos rfl ?_
      cases i with
      | zero =>
        rw [allF_yes _ (show syQ l 0 = true by unfold syQ; rw [hb]; rfl)]
        exact Ev.neg (by omega) (ih 1 (by omega))
      | succ i =>
        refine Ev.pos (by omega) ?_
        have e1 : wrap64 (((i + 1 : Nat) : Int) - 1) = (i : Int) := by rw [wid (by omega)]; omega
        rw [e1, rdSy]
        refine Ev.pos (by omega) (Ev.pos (by omega) ?_)
        have e2 : syQ l (i + 1) = Op.bytesLess (l.getD i z66).f0.toList (l.getD (i + 1) z66).f0.toList := by
          unfold syQ
          rw [hb, decide_eq_false (by omega), Bool.true_and, Bool.false_or]
          rfl
        cases hc : Op.bytesLess (l.getD i z66).f0.toList (l.getD (i + 1) z66).f0.toList with
        | true =>
          rw [allF_yes _ (e2.trans hc)]
          exact Ev.pos rfl (ih (i + 2) (by omega))
        | false =>
          rw [allF_no _ (by omega) (e2.trans hc)]
          exact Ev.neg (by decide) (Ev.now _)
theorem iSyls (l : List S66) : Ev (fun k => impl_ValidSyllables.f k l) (sylsB l) := by
  unfold impl_ValidSyllables.f sylsB
  by_cases h : (l.length : Int) > 16
  · rw [decide_eq_false (show ¬ (l.length : Int) ≤ 16 by omega), Bool.and_false]
    exact Ev.pos h (Ev.now _)
  · rw [decide_eq_true (show (l.length : Int) ≤ 16 by omega), Bool.and_true]
    exact Ev.neg h (iSyls_l0 l (by omega) l.length 0 (by omega))
def thQ (n : Nat) (t : List Int) (j : Nat) : Bool := decide (0 ≤ t.getD j 0 ∧ t.getD j 0 ≤ (n : Int) - 1)
def thB (n : Nat) (t : List Int) : Bool := allF (thQ n t) t.length 0 && decide (1 ≤ t.length ∧ t.length ≤ 32)
theorem sComposed_l0 (l : List S66) (t : List Int) (hl : l.length ≤ 8796093022208) (ht : t.length ≤ 35184372088832) (d : Nat) : ∀ (i : Nat), i + d = t.length → Ev (fun k => spec_l18Composed.l0 k l t i) (allF (thQ l.length t) t.length i && decide ((t.length : Int) ≤ 64)) := by
  induction d with
  | zero =>
    intro i h1
    refine Ev.shift ?_
    simp only [spec_l18Composed.l0]
    exact Ev.neg (by omega) (Ev.some (by rw [allF_end _ (by omega), Bool.true_and]))
  | succ d ih =>
    intro i h1
    have w1 : wrap64 ((i : Int) + 1) = ((i + 1 : Nat) : Int) := by rw [wid (by omega)]; rfl
    have w2 : wrap64 ((l.length : Int) - 1) = (l.length : Int) - 1 := wid (by omega)
    refine Ev.shift ?_
    simp only [spec_l18Composed.l0, rd_nat, w1, w2, in_eq, Option.bind_some]
    refine Ev.pos (by omega) (Ev.pos (by omega) ?_)
    cases hb : thQ l.length t i with
    | true =>
      rw [allF_yes _ hb]
      exact Ev.pos hb (ih (i + 1) (by omega))
    | false =>
      rw [allF_no _ (by omega) hb]
      refine Ev.neg ?_ (Ev.now _)
      rw [show decide (0 ≤ t.getD i 0 ∧ t.getD i 0 ≤ (l.length : Int) - 1) = false from hb]
      decide
theorem sTheme (l : List S66) (t : List Int) (hl : l.length ≤ 8796093022208) (ht : t.length ≤ 35184372088832) : Ev (fun k => spec_l20Theme.f k l t) (thB l.length t) := by
  unfold spec_l20Theme.f thB
  have h := sComposed_l0 l t hl ht t.length 0 (by omega)
  cases ha : allF (thQ l.length t) t.length 0 with
  | false =>
    rw [ha] at h
    exact Ev.bind h (Ev.neg (by simp) (Ev.now _))
  | true =>
    rw [ha, Bool.true_and] at h
    refine Ev.bind h ?_
    rw [Bool.true_and]
    by_cases h1 : (t.length : Int) ≤ 64
    · refine Ev.pos (decide_eq_true h1) ?_
      by_cases h2 : (t.length : Int) ≥ 1
      · exact Ev.pos h2 (Ev.some (by rw [Option.some_inj, decide_eq_decide]; omega))
      · exact Ev.neg h2 (Ev.some (by rw [decide_eq_false (show ¬ (1 ≤ t.length ∧ t.length ≤ 32) by omega)]))
    · refine Ev.neg (by rw [decide_eq_true_iff]; exact h1) (Ev.some ?_)
      rw [decide_eq_false (show ¬ (1 ≤ t.length ∧ t.length ≤ 32) by omega)]
def thCode (l : List S66) (t : List Int) (x : Int) : Int := if sylsB l = true then (if thB l.length t = true then (if 1 ≤ x ∧ x ≤ 32 then 0 else 2) else 7) else 1
theorem thCode_len {l : List S66} {t : List Int} {x : Int} (h : thCode l t x = 0) : (1 ≤ t.length ∧ t.length ≤ 32) ∧ 1 ≤ x ∧ x ≤ 32 := by
  unfold thCode at h
  split at h
  · split at h
    · rename_i h2
      unfold thB at h2
      rw [Bool.and_eq_true, decide_eq_true_iff] at h2
      split at h
      · exact ⟨h2.2, by assumption⟩
      · cases h
    · cases h
  · cases h
theorem thCode_two {l : List S66} {t : List Int} {x : Int} : thCode l t x = if thCode l t 1 = 0 then (if 1 ≤ x ∧ x ≤ 32 then 0 else 2) else thCode l t 1 := by
  unfold thCode
  by_cases h1 : sylsB l = true
  · by_cases h2 : thB l.length t = true
    · simp [h1, h2]
    · simp [h1, h2]
  · simp [h1]
theorem iTheme (l : List S66) (t : List Int) (x : Int) (hl : l.length ≤ 8796093022208) : Ev (fun k => impl_themeCode.f k l t x) (thCode l t x) := by
  unfold impl_themeCode.f thCode
  have hs := iSyls l
  cases v : sylsB l with
  | false =>
    rw [v] at hs
    rw [if_neg (show ¬ (false = true) by decide)]
    exact Ev.bind hs (Ev.neg (by decide) (Ev.now _))
  | true =>
    rw [v] at hs
    rw [if_pos (show true = true from rfl)]
    refine Ev.bind hs (Ev.pos rfl ?_)
    have f : Ev (fun k => impl_themeCode.j0 k x true) 7 := by
      refine Ev.shift ?_
      simp only [impl_themeCode.j0]
      exact Ev.pos trivial (Ev.now _)
    by_cases h1 : (t.length : Int) < 1
    · rw [show thB l.length t = false by unfold thB; rw [decide_eq_false (by omega), Bool.and_false], if_neg (show ¬ (false = true) by decide)]
      exact Ev.pos h1 f
    · refine Ev.neg h1 ?_
      by_cases h2 : (t.length : Int) > 32
      · rw [show thB l.length t = false by unfold thB; rw [decide_eq_false (by omega), Bool.and_false], if_neg (show ¬ (false = true) by decide)]
        exact Ev.pos h2 f
      · refine Ev.neg h2 ?_
        have w2 : wrap64 ((l.length : Int) - 1) = (l.length : Int) - 1 := wid (by omega)
        have e : (t.all fun x => decide (0 ≤ x ∧ x ≤ (l.length : Int) - 1)) = thB l.length t := by
          unfold thB
          rw [decide_eq_true (show 1 ≤ t.length ∧ t.length ≤ 32 by omega), Bool.and_true, Bool.eq_iff_iff, all_iff_get, allF_iff]
          exact ⟨fun h j hj _ => h j hj, fun h j hj => h j hj (Nat.zero_le _)⟩
        unfold impl_composedOk.f
        rw [if_pos (show (t.length : Int) ≤ 64 by omega), w2, allIn_eq, e]
        simp only [Option.bind_some]
        cases thB l.length t with
        | false =>
          rw [if_neg (show ¬ (false = true) by decide)]
          exact f
        | true =>
          rw [if_pos (show true = true from rfl)]
          refine Ev.shift ?_
          simp only [impl_themeCode.j0, within_eq, Option.bind_some]
          refine Ev.neg (by decide) ?_
          by_cases h3 : 1 ≤ x ∧ x ≤ 32
          · rw [if_pos h3]
            exact Ev.pos (decide_eq_true h3) (Ev.now _)
          · rw [if_neg h3]
            exact Ev.neg (by rw [decide_eq_true_iff]; exact h3) (Ev.now _)
theorem sAsk (l : List S66) (t : List Int) (hl : l.length ≤ 8796093022208) (ht : t.length ≤ 35184372088832) : Ev (fun k => spec_l20Ask.f k l t) (thCode l t 1) := by
  unfold spec_l20Ask.f thCode
  have hs := sSyls l hl
  cases v : sylsB l with
  | false =>
    rw [v] at hs
    rw [if_neg (show ¬ (false = true) by decide)]
    exact Ev.bind hs (Ev.neg (by decide) (Ev.now _))
  | true =>
    rw [v] at hs
    rw [if_pos (show true = true from rfl), if_pos (show (1 : Int) ≤ 1 ∧ (1 : Int) ≤ 32 by omega)]
    refine Ev.bind hs (Ev.pos rfl ?_)
    have hst := sTheme l t hl ht
    cases h : thB l.length t with
    | false =>
      rw [h] at hst
      rw [if_neg (show ¬ (false = true) by decide)]
      exact Ev.bind hst (Ev.neg (by decide) (Ev.now _))
    | true =>
      rw [h] at hst
      rw [if_pos (show true = true from rfl)]
      exact Ev.bind hst (Ev.pos rfl (Ev.now _))
theorem thCode_zero {l : List S66} {t : List Int} (h : thCode l t 1 = 0) : 1 ≤ t.length ∧ t.length ≤ 32 := by
  unfold thCode at h
  split at h
  · split at h
    · rename_i h2
      unfold thB at h2
      rw [Bool.and_eq_true, decide_eq_true_iff] at h2
      exact h2.2
    · cases h
  · cases h
theorem strN1 (x : Int) : (strOfNums [x]).size = 1 := rfl
theorem markText_l0 (N : Nat) : ∀ (n : Nat) (acc : ByteArray), n ≤ N → acc.size + n ≤ 9000000000000000000 → ∃ s, Ev (fun k => laws_markText.l0 k (n : Int) acc) s := by
  induction N with
  | zero =>
    intro n acc hn h
    obtain rfl : n = 0 := by omega
    refine ⟨(⟨#[109]⟩ : ByteArray) ++ acc, Ev.shift ?_⟩
    simp only [laws_markText.l0]
    exact Ev.neg (by omega) (Ev.pos (by omega) (Ev.now _))
  | succ N ih =>
    intro n acc hn h
    by_cases h0 : n = 0
    · subst h0
      refine ⟨(⟨#[109]⟩ : ByteArray) ++ acc, Ev.shift ?_⟩
      simp only [laws_markText.l0]
      exact Ev.neg (by omega) (Ev.pos (by omega) (Ev.now _))
    · have e : wrap64 (Int.tdiv (n : Int) 10) = ((n / 10 : Nat) : Int) := by
        rw [Int.tdiv_eq_ediv_of_nonneg (by omega), wid (by omega)]; omega
      obtain ⟨s, hs⟩ := ih (n / 10) (strOfNums [(wrap64 (48 + (Int.tmod (n : Int) 10))) % 256] ++ acc) (by omega) (by rw [ByteArray.size_append, strN1]; omega)
      refine ⟨s, Ev.shift ?_⟩
      simp only [laws_markText.l0, e, Option.bind_some]
      exact Ev.pos (by omega) (Ev.pos (by rw [strN1]; omega) hs)
theorem markText (n : Int) (h : 0 ≤ n ∧ n ≤ 9000000000000000000) : ∃ s, Ev (fun k => laws_markText.f k n) s := by
  unfold laws_markText.f
  obtain ⟨m, rfl⟩ := Int.eq_ofNat_of_zero_le h.1
  by_cases h0 : (m : Int) ≤ 0
  · exact ⟨_, Ev.pos h0 (Ev.now _)⟩
  · obtain ⟨s, hs⟩ := markText_l0 m m ⟨#[]⟩ (Nat.le_refl _) (by have : (⟨#[]⟩ : ByteArray).size = 0 := rfl; omega)
    exact ⟨s, Ev.neg h0 hs⟩
theorem markSyl_l0 (n : Nat) (d : Nat) : ∀ (i : Nat) (acc : List S66) (m : Int), i + d = n → acc.length = n → 0 ≤ m → m + 3 * d + n ≤ 8000000000000000000 → ∃ l', Ev (fun k => laws_markSyllableS.l0 k acc m i) (m + 3 * d, l') := by
  induction d with
  | zero =>
    intro i acc m h1 h2 h3 h4
    refine ⟨acc, Ev.shift ?_⟩
    simp only [laws_markSyllableS.l0]
    have e : m + 3 * ((0 : Nat) : Int) = m := by omega
    rw [e]
    exact Ev.neg (by omega) (Ev.now _)
  | succ d ih =>
    intro i acc m h1 h2 h3 h4
    obtain ⟨s, hs⟩ := markText m (by omega)
    have w0 : wrap64 (m + 1) = m + 1 := wid (by omega)
    have w1 : wrap64 (m + 1 + 1) = m + 1 + 1 := wid (by omega)
    have w2 : wrap64 (m + 1 + 1 + 1) = m + 3 := by rw [wid (by omega)]; omega
    have w3 : wrap64 ((i : Int) + 1) = ((i + 1 : Nat) : Int) := by rw [wid (by omega)]; rfl
    have e : m + 3 * ((d + 1 : Nat) : Int) = m + 3 + 3 * (d : Int) := by omega
    have key : ∀ acc' : List S66, acc'.length = n → ∃ l', Ev (fun k => laws_markSyllableS.l0 k acc' (m + 3) ((i + 1 : Nat) : Int)) (m + 3 + 3 * (d : Int), l') := fun acc' h => ih (i + 1) acc' (m + 3) (by omega) h (by omega) (by omega)
    have p1 : (i : Int) < (acc.length : Int) := by omega
    rw [e]
    let a1 : List S66 := acc.set i ⟨s, (rd_T66 acc (i : Int)).f1, (rd_T66 acc (i : Int)).f2⟩
    let a2 : List S66 := a1.set i ⟨(rd_T66 a1 (i : Int)).f0, m + 1, (rd_T66 a1 (i : Int)).f2⟩
    let a3 : List S66 := a2.set i ⟨(rd_T66 a2 (i : Int)).f0, (rd_T66 a2 (i : Int)).f1, m + 1 + 1⟩
    obtain ⟨l', hl'⟩ := key a3 (by
      show List.length (List.set (List.set (List.set acc i _) i _) i _) = n
      rw [List.length_set, List.length_set, List.length_set]; exact h2)
    refine ⟨l', Ev.shift ?_⟩
    simp only [laws_markSyllableS.l0]
    refine Ev.pos p1 (Ev.bind hs (Ev.pos (Int.natCast_nonneg _) ?_))
    simp only [Option.bind_some, Int.toNat_natCast, w0, w1, w2, w3]
    exact hl'
theorem markSyl (l : List S66) (m : Int) (h0 : 0 ≤ m) (h1 : m + 4 * l.length ≤ 8000000000000000000) : ∃ l', Ev (fun k => laws_markSyllableS.f k l m) (m + 3 * l.length, l') :=
  markSyl_l0 l.length l.length 0 l m (by omega) rfl h0 (by omega)
theorem len_eq (a : Int) : spec_l20Length.f a = some (decide (1 ≤ a ∧ a ≤ 32)) := by
  unfold spec_l20Length.f; rw [in_eq]; rfl
theorem chunks_count {n : Nat} {l : List Int} (hn : 1 ≤ n) : (chunks n l).length ≤ l.length := by
  unfold chunks
  rw [List.length_map, List.length_range, Nat.div_le_iff_le_mul_add_pred (by omega)]
  have : l.length ≤ n * l.length := Nat.le_mul_of_pos_left _ hn
  omega
theorem chunks_pos {n : Nat} {l : List Int} (hn : 1 ≤ n) (hl : 1 ≤ l.length) : 1 ≤ (chunks n l).length := by
  unfold chunks
  rw [List.length_map, List.length_range, Nat.le_div_iff_mul_le (by omega)]
  omega
theorem chunks_row {n : Nat} {l : List Int} {x : List Int} (hx : x ∈ chunks n l) : x.length ≤ l.length := by
  unfold chunks at hx
  obtain ⟨k, _, rfl⟩ := List.mem_map.1 hx
  unfold chunk
  rw [List.length_take, List.length_drop]; omega
theorem chunks_get {n : Nat} {l : List Int} (j : Nat) : ((chunks n l).getD j []).length ≤ l.length := by
  rw [List.getD_eq_getElem?_getD]
  by_cases h : j < (chunks n l).length
  · rw [List.getElem?_eq_getElem h]; exact chunks_row (List.getElem_mem h)
  · rw [List.getElem?_eq_none (by omega)]; exact Nat.zero_le _
theorem iBlocks (t : List Int) (a : Int) (ha : 1 ≤ a ∧ a ≤ 32) (ht : 1 ≤ t.length ∧ t.length ≤ 32) : impl_blocksOf.f t a = some (chunks a.toNat t) := by
  unfold impl_blocksOf.f
  rw [if_pos (by omega)]
theorem sBlocks_l0 (t : List Int) (n : Nat) (hn : 1 ≤ n ∧ n ≤ 32) (ht : t.length ≤ 32) (d : Nat) : ∀ i, i + d = (t.length + n - 1) / n → Ev (fun k => spec_l20Blocks.l0 k t (n : Int) ((List.range i).map fun k => chunk n t (k * n)) ((i * n : Nat) : Int)) (chunks n t) := by
  have hC : (t.length + n - 1) / n ≤ t.length := by have := @chunks_count n t hn.1; unfold chunks at this; rwa [List.length_map, List.length_range] at this
  induction d with
  | zero =>
    intro i h
    have h1 : t.length ≤ i * n := by
      have := (Nat.div_lt_iff_lt_mul (x := t.length + n - 1) (y := i + 1) (by omega : 0 < n)).1 (by omega)
      rw [Nat.add_mul] at this; omega
    refine Ev.shift ?_
    simp only [spec_l20Blocks.l0]
    refine Ev.neg (by omega) (Ev.some ?_)
    unfold chunks
    rw [show (t.length + n - 1) / n = i by omega]
  | succ d ih =>
    intro i h
    have h1 : i * n < t.length := by
      have := (Nat.le_div_iff_mul_le (x := i + 1) (y := t.length + n - 1) (by omega : 0 < n)).1 (by omega)
      rw [Nat.add_mul] at this; omega
    have w : wrap64 (((i * n : Nat) : Int) + (n : Int)) = (((i + 1) * n : Nat) : Int) := by rw [wid (by omega), Nat.add_mul]; omega
    have hmin : spec_l00Min.f ((((i + 1) * n : Nat) : Int)) (t.length : Int) = some ((min ((i + 1) * n) t.length : Nat) : Int) := by
      unfold spec_l00Min.f; split <;> (congr 1; omega)
    have hx : (i + 1) * n = i * n + n := by rw [Nat.add_mul, Nat.one_mul]
    have hch : (t.take (min ((i + 1) * n) t.length)).drop (i * n) = chunk n t (i * n) := by
      unfold chunk
      rw [List.drop_take]
      by_cases c : (i + 1) * n ≤ t.length
      · rw [Nat.min_eq_left c]; congr 1; omega
      · rw [Nat.min_eq_right (by omega), List.take_of_length_le (by rw [List.length_drop]; omega), List.take_of_length_le (by rw [List.length_drop]; omega)]
    have hown : spec_l00Own.f (chunk n t (i * n)) = some (chunk n t (i * n)) := by
      unfold spec_l00Own.f
      have : (chunk n t (i * n)).length ≤ t.length := by unfold chunk; rw [List.length_take, List.length_drop]; omega
      simp only [Option.bind_some, List.nil_append, List.length_nil, Nat.zero_add]
      rw [if_pos (by omega)]
    have hs : ((List.range i).map fun k => chunk n t (k * n)) ++ [chunk n t (i * n)] = (List.range (i + 1)).map fun k => chunk n t (k * n) := by
      rw [List.range_succ, List.map_append]; rfl
    have ih' := ih (i + 1) (by omega)
    refine Ev.shift ?_
    simp only [spec_l20Blocks.l0, w, hmin, Option.bind_some, Int.toNat_natCast, hch, hown, hs]
    exact Ev.pos (by omega) (Ev.pos (by omega) (Ev.pos (by omega) (Ev.pos (by omega) (Ev.pos (by rw [List.length_map, List.length_range]; omega) ih'))))
theorem sBlocks (t : List Int) (a : Int) (ha : 1 ≤ a ∧ a ≤ 32) (ht : t.length ≤ 32) : Ev (fun k => spec_l20Blocks.f k t a) (chunks a.toNat t) := by
  unfold spec_l20Blocks.f
  have h := sBlocks_l0 t a.toNat (by omega) ht ((t.length + a.toNat - 1) / a.toNat) 0 (by omega)
  rw [Nat.zero_mul, show ((a.toNat : Nat) : Int) = a by omega] at h
  exact h
theorem vEq_all (a b : List Int) (h : a.length = b.length) : allF (fun j => decide (a.getD j 0 = b.getD j 0)) a.length 0 = decide (a = b) := by
  by_cases e : a = b
  · subst e
    rw [decide_eq_true rfl, allF_iff]
    intro j _ _
    exact decide_eq_true rfl
  · rw [decide_eq_false e]
    cases hq : allF (fun j => decide (a.getD j 0 = b.getD j 0)) a.length 0 with
    | false => rfl
    | true =>
      rw [allF_iff] at hq
      refine absurd (List.ext_getElem h fun i h1 h2 => ?_) e
      have := of_decide_eq_true (hq i h1 (Nat.zero_le _))
      rwa [List.getD_eq_getElem?_getD, List.getD_eq_getElem?_getD, List.getElem?_eq_getElem h1, List.getElem?_eq_getElem h2, Option.getD_some, Option.getD_some] at this
theorem vEq_l0 (a b : List Int) (ha : a.length ≤ 32) (hab : a.length = b.length) (d : Nat) : ∀ (i : Nat), i + d = a.length → Ev (fun k => slices_Equal_int64_int64.l0 k a b (a.length : Int) i) (allF (fun j => decide (a.getD j 0 = b.getD j 0)) a.length i) := by
  induction d with
  | zero =>
    intro i h1
    refine Ev.shift ?_
    simp only [slices_Equal_int64_int64.l0]
    exact Ev.neg (by omega) (Ev.some (by rw [allF_end _ (by omega)]))
  | succ d ih =>
    intro i h1
    have w1 : wrap64 ((i : Int) + 1) = ((i + 1 : Nat) : Int) := by rw [wid (by omega)]; rfl
    refine Ev.shift ?_
    simp only [slices_Equal_int64_int64.l0, w1, rd_nat]
    refine Ev.pos (by omega) (Ev.pos (by omega) (Ev.pos (by omega) (Ev.pos (by omega) ?_)))
    by_cases h : a.getD i 0 = b.getD i 0
    · rw [allF_yes (fun j => decide (a.getD j 0 = b.getD j 0)) (decide_eq_true h)]
      exact Ev.pos h (ih (i + 1) (by omega))
    · rw [allF_no (fun j => decide (a.getD j 0 = b.getD j 0)) (by omega) (decide_eq_false h)]
      exact Ev.neg h (Ev.now _)
theorem vEqual (a b : List Int) (ha : a.length ≤ 32) : Ev (fun k => slices_Equal_int64_int64.f k a b) (decide (a = b)) := by
  unfold slices_Equal_int64_int64.f
  by_cases h : a.length = b.length
  · rw [← vEq_all a b h]
    exact Ev.pos (by omega) (vEq_l0 a b ha h a.length 0 (by omega))
  · rw [decide_eq_false (fun e => h (by rw [e]))]
    exact Ev.neg (by omega) (Ev.now _)
theorem ev_list {α : Type} {P : Nat → α → Prop} : ∀ (l : List α), (∀ x ∈ l, ∃ N, ∀ k, N ≤ k → P k x) → ∃ N, ∀ k, N ≤ k → ∀ x ∈ l, P k x
  | [], _ => ⟨0, fun _ _ x hx => by simp at hx⟩
  | a :: l, h => by
    obtain ⟨N1, h1⟩ := h a List.mem_cons_self
    obtain ⟨N2, h2⟩ := ev_list l (fun x hx => h x (List.mem_cons_of_mem _ hx))
    refine ⟨max N1 N2, fun k hk x hx => ?_⟩
    rcases List.mem_cons.1 hx with rfl | hx
    · exact h1 k (by omega)
    · exact h2 k (by omega) x hx
theorem vEqs (B : List (List Int)) (hB : ∀ x ∈ B, x.length ≤ 32) : ∃ N, ∀ k, N ≤ k → ch_eqs k B = true := by
  obtain ⟨N, h⟩ := ev_list (P := fun k x => (B.all fun y => decide (slices_Equal_int64_int64.f k x y = some (decide (x = y)))) = true) B (fun x hx => by
    obtain ⟨N, h⟩ := ev_list (P := fun k y => slices_Equal_int64_int64.f k x y = some (decide (x = y))) B (fun y _ => vEqual x y (hB x hx))
    exact ⟨N, fun k hk => List.all_eq_true.2 fun y hy => decide_eq_true (h k hk y hy)⟩)
  exact ⟨N, fun k hk => List.all_eq_true.2 fun x hx => h k hk x hx⟩
def uw (l : List S66) : Int → List Int → Int
  | a, [] => a
  | a, i :: is => uw l (wrap64 (a + (rd_T66 l i).f2)) is
def rowOk (n : Nat) (t : List Int) : Prop := t.length ≤ 32 ∧ ∀ j, j < t.length → 0 ≤ t.getD j 0 ∧ t.getD j 0 < (n : Int)
theorem uw_drop (l : List S66) (t : List Int) (a : Int) (i : Nat) (h : i < t.length) : uw l a (t.drop i) = uw l (wrap64 (a + (rd_T66 l (t.getD i 0)).f2)) (t.drop (i + 1)) := by
  rw [List.drop_eq_getElem_cons h, List.getD_eq_getElem?_getD, List.getElem?_eq_getElem h, Option.getD_some]
  rfl
theorem iUw_l0 (l : List S66) (t : List Int) (h : rowOk l.length t) (d : Nat) : ∀ (i : Nat) (a : Int), i + d = t.length → Ev (fun k => impl_unitsOfComposed.l0 k l a t (t.length : Int) i) (uw l a (t.drop i)) := by
  have h32 := h.1
  induction d with
  | zero =>
    intro i a h1
    refine Ev.shift ?_
    simp only [impl_unitsOfComposed.l0]
    exact Ev.neg (by omega) (Ev.some (by rw [List.drop_of_length_le (by omega)]; rfl))
  | succ d ih =>
    intro i a h1
    have w1 : wrap64 ((i : Int) + 1) = ((i + 1 : Nat) : Int) := by rw [wid (by omega)]; rfl
    have h2 := h.2 i (by omega)
    rw [uw_drop l t a i (by omega)]
    refine Ev.shift ?_
    simp only [impl_unitsOfComposed.l0, w1, rd_nat]
    exact Ev.pos (by omega) (Ev.pos (by omega) (Ev.pos (by omega) (Ev.pos h2.1 (Ev.pos h2.2 (ih (i + 1) _ (by omega))))))
theorem iUw (l : List S66) (t : List Int) (h : rowOk l.length t) : Ev (fun k => impl_unitsOfComposed.f k l t) (uw l 0 t) := iUw_l0 l t h t.length 0 0 (by omega)
theorem vUnits (l : List S66) : ∀ (B : List (List Int)), (∀ x ∈ B, rowOk l.length x) → Ev (fun k => ch_units k l B) (B.map (uw l 0))
  | [], _ => Ev.now _
  | b :: bs, h => by
    simp only [ch_units]
    exact Ev.bind (iUw l b (h b List.mem_cons_self)) (Ev.bind (vUnits l bs fun x hx => h x (List.mem_cons_of_mem _ hx)) (Ev.now _))
theorem getDL (l : List (List Int)) (k : Nat) (h : k < l.length) : l.getD k [] = l[k] := by
  rw [List.getD_eq_getElem?_getD, List.getElem?_eq_getElem h]; rfl
def vL (B : List (List Int)) (kk : Nat) (i m : Int) : Int := if B.getD i.toNat [] = B.getD kk [] then m else m - 1
def vSum (B : List (List Int)) (prev : List Int) (kk : Nat) (m : Int) : List Int → Int → Int
  | [], a => a
  | i :: is, a => vSum B prev kk m is (if 0 ≤ vL B kk i m then a + rd prev (vL B kk i m) else a)
def vRow (B O : List (List Int)) (M : Nat) (prev : List Int) (kk : Nat) : List Int := (List.range (M + 1)).map fun (m : Nat) => min (vSum B prev kk (m : Int) (O.getD kk []) 0) 20001
def vAt (B O : List (List Int)) (M : Nat) : Nat → List Int
  | 0 => List.replicate (M + 1) 1
  | d + 1 => vRow B O M (vAt B O M d) (B.length - 1 - d)
theorem vAt_len (B O : List (List Int)) (M : Nat) : ∀ d, (vAt B O M d).length = M + 1
  | 0 => List.length_replicate
  | d + 1 => by unfold vAt vRow; rw [List.length_map, List.length_range]
theorem vSum_low (B : List (List Int)) (prev : List Int) (kk : Nat) (m : Int) (hp : ∀ q, 0 ≤ rd prev q ∧ rd prev q ≤ 20001) : ∀ (L : List Int) (a : Int), a ≤ vSum B prev kk m L a ∧ vSum B prev kk m L a ≤ a + 20001 * (L.length : Int)
  | [], a => by simp [vSum]
  | i :: is, a => by
    unfold vSum
    have h1 := hp (vL B kk i m)
    have h2 := vSum_low B prev kk m hp is (if 0 ≤ vL B kk i m then a + rd prev (vL B kk i m) else a)
    rw [List.length_cons]
    revert h2
    split <;> intro h2 <;> omega
theorem vAt_bnd (B O : List (List Int)) (M : Nat) : ∀ d q, 0 ≤ rd (vAt B O M d) q ∧ rd (vAt B O M d) q ≤ 20001
  | 0, q => by
    unfold rd vAt
    rw [List.getD_eq_getElem?_getD, List.getElem?_replicate]
    split <;> simp
  | d + 1, q => by
    have hb := vAt_bnd B O M d
    unfold rd vAt vRow
    rw [List.getD_eq_getElem?_getD, List.getElem?_map]
    by_cases h : q.toNat < M + 1
    · rw [List.getElem?_range h]
      have := vSum_low B (vAt B O M d) (B.length - 1 - d) ((q.toNat : Nat) : Int) hb (O.getD (B.length - 1 - d) []) 0
      simp only [Option.map_some, Option.getD_some]
      omega
    · rw [List.getElem?_eq_none (by rw [List.length_range]; omega)]
      simp
theorem vAt_get (B O : List (List Int)) (M d m : Nat) (hm : m ≤ M) : rd (vAt B O M (d + 1)) (m : Int) = min (vSum B (vAt B O M d) (B.length - 1 - d) (m : Int) (O.getD (B.length - 1 - d) []) 0) 20001 := by
  rw [rd_nat]
  rw [show vAt B O M (d + 1) = vRow B O M (vAt B O M d) (B.length - 1 - d) from rfl]
  unfold vRow
  rw [List.getD_eq_getElem?_getD, List.getElem?_map, List.getElem?_range (by omega)]
  rfl
theorem vSum_drop (B : List (List Int)) (prev : List Int) (kk : Nat) (m : Int) (L : List Int) (a : Int) (i : Nat) (h : i < L.length) : vSum B prev kk m (L.drop i) a = vSum B prev kk m (L.drop (i + 1)) (if 0 ≤ vL B kk (L.getD i 0) m then a + rd prev (vL B kk (L.getD i 0) m) else a) := by
  rw [List.drop_eq_getElem_cons h, List.getD_eq_getElem?_getD, List.getElem?_eq_getElem h, Option.getD_some]
  rfl
structure vOk (B O : List (List Int)) : Prop where
  b : B.length ≤ 32
  r : ∀ j, (B.getD j []).length ≤ 32
  o : O.length = B.length
  l : ∀ j, (O.getD j []).length ≤ 32
  i : ∀ j q, q < (O.getD j []).length → 0 ≤ (O.getD j []).getD q 0 ∧ (O.getD j []).getD q 0 < (B.length : Int)
theorem iLeft {B O C : List (List Int)} (h : vOk B O) (kk : Nat) (i m : Int) (hk : kk < B.length) (hi : 0 ≤ i ∧ i < (B.length : Int)) (hm : 0 ≤ m ∧ m ≤ 32) : Ev (fun k => impl_choices_left.f k B O C kk i m) (vL B kk i m) := by
  unfold impl_choices_left.f vL
  simp only [rd_L3, Int.toNat_natCast]
  refine Ev.pos (by omega) (Ev.pos (by omega) (Ev.pos hi.1 (Ev.pos hi.2 (Ev.bind (vEqual _ _ (h.r kk)) ?_))))
  by_cases e : B.getD kk [] = B.getD i.toNat []
  · rw [if_pos e.symm]
    exact Ev.pos (decide_eq_true e) (Ev.now _)
  · rw [if_neg (Ne.symm e)]
    exact Ev.neg (by rw [decide_eq_true_iff]; exact e) (Ev.some (by rw [wid (by omega)]))
theorem v_step {a p : Int} {i : Nat} (h2 : 0 ≤ a ∧ a ≤ 20001 * (i : Int)) (h3 : 0 ≤ p ∧ p ≤ 20001) : 0 ≤ a + p ∧ a + p ≤ 20001 * ((i + 1 : Nat) : Int) := by omega
theorem v_step2 {a : Int} {i : Nat} (h2 : 0 ≤ a ∧ a ≤ 20001 * (i : Int)) : 0 ≤ a ∧ a ≤ 20001 * ((i + 1 : Nat) : Int) := by omega
theorem v_step3 {a p : Int} {i : Nat} (h2 : 0 ≤ a ∧ a ≤ 20001 * (i : Int)) (h3 : 0 ≤ p ∧ p ≤ 20001) (hi : i ≤ 32) : wrap64 (a + p) = a + p := wid (by omega)
theorem iCnt_l0 {B O C : List (List Int)} (h : vOk B O) (M kk : Nat) (m : Int) (prev : List Int) (hk : kk < B.length) (hM : M ≤ 32) (hm : 0 ≤ m ∧ m ≤ (M : Int)) (hC : C.length = B.length + 1) (hpv : C.getD (kk + 1) [] = prev) (hpl : prev.length = M + 1) (hp : ∀ q, 0 ≤ rd prev q ∧ rd prev q ≤ 20001) (d : Nat) : ∀ (i : Nat) (a : Int), i + d = (O.getD kk []).length → 0 ≤ a ∧ a ≤ 20001 * (i : Int) →
    Ev (fun k => impl_choices_count.l0 k kk m a (O.getD kk []) ((O.getD kk []).length : Int) i B O C) (min (vSum B prev kk m ((O.getD kk []).drop i) a) 20001) := by
  have h32 := h.l kk
  have hbb := h.b
  induction d with
  | zero =>
    intro i a h1 h2
    clear h2
    refine Ev.shift ?_
    simp only [impl_choices_count.l0]
    rw [List.drop_of_length_le (by omega)]
    exact Ev.neg (by omega) (Ev.some (by rw [mn_eq]; rfl))
  | succ d ih =>
    intro i a h1 h2
    have w1 : wrap64 ((i : Int) + 1) = ((i + 1 : Nat) : Int) := by rw [wid (by omega)]; rfl
    have w2 : wrap64 ((kk : Int) + 1) = ((kk + 1 : Nat) : Int) := by rw [wid (by omega)]; rfl
    have hi := h.i kk i (by omega)
    have hl := iLeft (C := C) h kk ((O.getD kk []).getD i 0) m hk hi (by omega)
    rw [vSum_drop B prev kk m (O.getD kk []) a i (by omega)]
    have hv : vL B kk ((O.getD kk []).getD i 0) m ≤ m := by unfold vL; split <;> omega
    generalize vL B kk ((O.getD kk []).getD i 0) m = v at hl hv ⊢
    have h3 := hp v
    have hs : Aside0 (0 ≤ a + rd prev v ∧ a + rd prev v ≤ 20001 * ((i + 1 : Nat) : Int)) := ⟨v_step h2 h3⟩
    have hs2 : Aside0 (0 ≤ a ∧ a ≤ 20001 * ((i + 1 : Nat) : Int)) := ⟨v_step2 h2⟩
    have hw : Aside0 (wrap64 (a + rd prev v) = a + rd prev v) := ⟨v_step3 h2 h3 (show i ≤ 32 by clear h2 h3; omega)⟩
    clear h2 h3
    refine Ev.shift ?_
    simp only [impl_choices_count.l0, w1, w2, rd_nat, rd_L3, Int.toNat_natCast, hpv]
    clear w1 w2
    refine Ev.pos (by omega) ?_
    refine Ev.pos (Int.natCast_nonneg _) ?_
    refine Ev.pos (by omega) ?_
    refine Ev.bind hl ?_
    by_cases c : 0 ≤ v
    · rw [if_pos c]
      rw [hw.out]
      refine Ev.pos c ?_
      refine Ev.pos (Int.natCast_nonneg _) ?_
      refine Ev.pos (by omega) ?_
      refine Ev.pos c ?_
      refine Ev.pos (by omega) ?_
      exact ih (i + 1) _ (by omega) hs.out
    · rw [if_neg c]
      exact Ev.neg c (ih (i + 1) _ (by omega) hs2.out)
theorem iCnt {B O C : List (List Int)} (h : vOk B O) (M kk m : Nat) (hk : kk ≤ B.length) (hM : M ≤ 32) (hm : m ≤ M) (hC : C.length = B.length + 1) (hpv : kk < B.length → C.getD (kk + 1) [] = vAt B O M (B.length - (kk + 1))) :
    Ev (fun k => impl_choices_count.f k B O C kk m) (rd (vAt B O M (B.length - kk)) m) := by
  unfold impl_choices_count.f
  by_cases e : kk = B.length
  · subst e
    refine Ev.pos rfl (Ev.some ?_)
    rw [Nat.sub_self, rd_nat]
    unfold vAt
    rw [List.getD_eq_getElem?_getD, List.getElem?_replicate, if_pos (by omega)]
    rfl
  · obtain ⟨d, hd⟩ : ∃ d, B.length - kk = d + 1 := ⟨B.length - kk - 1, by omega⟩
    have e1 : B.length - 1 - d = kk := by omega
    have e2 : B.length - (kk + 1) = d := by omega
    have ho := h.o
    rw [hd, vAt_get B O M d m hm, e1]
    have hpv' := hpv (by omega)
    rw [e2] at hpv'
    have := iCnt_l0 (C := C) h M kk (m : Int) (vAt B O M d) (by omega) hM (by omega) hC hpv' (vAt_len B O M d) (vAt_bnd B O M d) _ 0 0 (Nat.zero_add _) (by omega)
    rw [List.drop_zero] at this
    simp only [rd_L3, Int.toNat_natCast]
    exact Ev.neg (by omega) (Ev.pos (by omega) (Ev.pos (by omega) this))
theorem set_get (C : List (List Int)) (s : Nat) (x : List Int) (h : s < C.length) : (C.set s x).getD s [] = x := by
  rw [List.getD_eq_getElem?_getD, List.getElem?_set_self h]; rfl
theorem set_other (C : List (List Int)) (s j : Nat) (x : List Int) (h : s ≠ j) : (C.set s x).getD j [] = C.getD j [] := by
  rw [List.getD_eq_getElem?_getD, List.getElem?_set_ne h, ← List.getD_eq_getElem?_getD]
theorem iIn {B O : List (List Int)} (h : vOk B O) (M kk : Nat) (hk : kk ≤ B.length) (hM : M ≤ 32) : ∀ (d m : Nat) (C : List (List Int)), m + d = M + 1 → C.length = B.length + 1 → (kk < B.length → C.getD (kk + 1) [] = vAt B O M (B.length - (kk + 1))) → C.getD kk [] = (vAt B O M (B.length - kk)).take m ++ List.replicate d 0 →
    Ev (fun k => ch_in k B O kk d m C) (C.set kk (vAt B O M (B.length - kk)))
  | 0, m, C, h1, h2, h3, h4 => by
    refine Ev.some ?_
    rw [List.replicate_zero, List.append_nil, List.take_of_length_le (by rw [vAt_len]; omega)] at h4
    rw [← h4]
    congr 1
    apply List.ext_getElem?
    intro j
    by_cases e : kk = j
    · subst e
      rw [List.getElem?_set_self (by omega), getDL C kk (by omega), List.getElem?_eq_getElem (by omega)]
    · rw [List.getElem?_set_ne e]
  | d + 1, m, C, h1, h2, h3, h4 => by
    simp only [ch_in]
    refine Ev.bind (iCnt (C := C) h M kk m hk hM (by omega) h2 h3) ?_
    have := iIn h M kk hk hM d (m + 1) (C.set kk ((C.getD kk []).set m (rd (vAt B O M (B.length - kk)) m))) (by omega) (by rw [List.length_set]; exact h2) (fun hlt => by rw [set_other _ _ _ _ (by omega)]; exact h3 hlt) (by
      rw [set_get _ _ _ (by omega), h4]
      have hl := vAt_len B O M (B.length - kk)
      rw [rd_get _ _ (by omega), List.set_append_right _ _ (by rw [List.length_take]; omega), List.length_take, Nat.min_eq_left (by omega), Nat.sub_self, List.replicate_succ, List.set_cons_zero, List.take_add_one, List.getElem?_eq_getElem (by omega), List.append_assoc]
      rfl)
    rw [List.set_set] at this
    exact this
theorem iOut {B O : List (List Int)} (h : vOk B O) (M : Nat) (hM : M ≤ 32) : ∀ (s : Nat) (C : List (List Int)), s ≤ B.length + 1 → C.length = B.length + 1 → (∀ j, s ≤ j → j ≤ B.length → C.getD j [] = vAt B O M (B.length - j)) →
    Ev (fun k => ch_out k B O M s C) ((List.range (B.length + 1)).map fun j => vAt B O M (B.length - j))
  | 0, C, h1, h2, h3 => by
    refine Ev.some ?_
    congr 1
    apply List.ext_getElem (by rw [List.length_map, List.length_range, h2])
    intro j h4 h5
    rw [List.getElem_map, List.getElem_range, ← h3 j (Nat.zero_le _) (by omega), getDL C j h4]
  | s + 1, C, h1, h2, h3 => by
    simp only [ch_out]
    have := iIn h M s (by omega) hM (M + 1) 0 (C.set s (List.replicate (M + 1) 0)) (by omega) (by rw [List.length_set]; exact h2) (fun hlt => by rw [set_other _ _ _ _ (by omega)]; exact h3 (s + 1) (by omega) (by omega)) (by rw [set_get _ _ _ (by omega), List.take_zero, List.nil_append])
    rw [List.set_set] at this
    refine Ev.bind this (iOut h M hM s _ (by omega) (by rw [List.length_set]; exact h2) (fun j h5 h6 => ?_))
    by_cases e : s = j
    · subst e; rw [set_get _ _ _ (by omega)]
    · rw [set_other _ _ _ _ e]; exact h3 j (by omega) h6
def vC (B O : List (List Int)) (M : Nat) : List (List Int) := (List.range (B.length + 1)).map fun j => vAt B O M (B.length - j)
theorem vC_get (B O : List (List Int)) (M j : Nat) (hj : j ≤ B.length) : (vC B O M).getD j [] = vAt B O M (B.length - j) := by
  unfold vC
  rw [List.getD_eq_getElem?_getD, List.getElem?_map, List.getElem?_range (by omega)]
  rfl
theorem vC_len (B O : List (List Int)) (M : Nat) : (vC B O M).length = B.length + 1 := by unfold vC; rw [List.length_map, List.length_range]
def vO (l : List S66) (B : List (List Int)) : List (List Int) := ch_opts B (B.map (uw l 0)) B.length
theorem vO_get (l : List S66) (B : List (List Int)) (j : Nat) (hj : j < B.length) : (vO l B).getD j [] = ch_opt B (B.map (uw l 0)) j B.length := by
  unfold vO ch_opts
  rw [List.getD_eq_getElem?_getD, List.getElem?_map, List.getElem?_range hj]
  rfl
theorem vOk_of (l : List S66) (B : List (List Int)) (hB : B.length ≤ 32) (hr : ∀ x ∈ B, x.length ≤ 32) : vOk B (vO l B) := by
  have hO : (vO l B).length = B.length := ch_opts_len _ _ _
  have hz : ∀ j, ¬ j < B.length → (vO l B).getD j [] = [] := fun j h => by rw [List.getD_eq_getElem?_getD, List.getElem?_eq_none (by omega)]; rfl
  refine ⟨hB, fun j => ?_, hO, fun j => ?_, fun j q hq => ?_⟩
  · by_cases h : j < B.length
    · rw [getDL B j h]; exact hr _ (List.getElem_mem h)
    · rw [List.getD_eq_getElem?_getD, List.getElem?_eq_none (by omega)]; exact Nat.zero_le _
  · by_cases h : j < B.length
    · rw [vO_get l B j h]; exact Nat.le_trans (ch_opt_len _ _ _ _) hB
    · rw [hz j h]; exact Nat.zero_le _
  · by_cases h : j < B.length
    · rw [vO_get l B j h] at hq ⊢
      rw [List.getD_eq_getElem?_getD, List.getElem?_eq_getElem hq, Option.getD_some]
      have hm := List.getElem_mem hq
      generalize (ch_opt B (B.map (uw l 0)) j B.length)[q] = x at hm
      unfold ch_opt at hm
      obtain ⟨y, hy, rfl⟩ := List.mem_map.1 hm
      have := List.mem_range.1 (List.mem_filter.1 hy).1
      omega
    · rw [hz j h] at hq
      simp at hq
theorem chunk_getD (n i j : Nat) (t : List Int) : j < (chunk n t i).length → i + j < t.length ∧ (chunk n t i).getD j 0 = t.getD (i + j) 0 := by
  unfold chunk
  intro h
  rw [List.length_take, List.length_drop] at h
  refine ⟨by omega, ?_⟩
  rw [List.getD_eq_getElem?_getD, List.getD_eq_getElem?_getD, List.getElem?_take_of_lt (by omega), List.getElem?_drop]
theorem rows_ok (l : List S66) (t : List Int) (a : Int) (h : thCode l t a = 0) : ∀ x ∈ chunks a.toNat t, rowOk l.length x := by
  obtain ⟨⟨h1, h2⟩, h3, h4⟩ := thCode_len h
  intro x hx
  refine ⟨Nat.le_trans (chunks_row hx) h2, fun j hj => ?_⟩
  unfold chunks at hx
  obtain ⟨q, _, rfl⟩ := List.mem_map.1 hx
  obtain ⟨e1, e2⟩ := chunk_getD _ _ _ _ hj
  rw [e2]
  unfold thCode at h
  split at h
  · split at h
    · rename_i h5
      unfold thB at h5
      rw [Bool.and_eq_true, allF_iff] at h5
      have := h5.1 _ e1 (Nat.zero_le _)
      unfold thQ at this
      have := of_decide_eq_true this
      omega
    · cases h
  · cases h
def chR (l : List S66) (t : List Int) (a m : Int) : List (List Int) × List (List Int) × List (List Int) × Int :=
  if thCode l t a = 0 then (if 0 ≤ m ∧ m ≤ 32 then (chunks a.toNat t, vO l (chunks a.toNat t), vC (chunks a.toNat t) (vO l (chunks a.toNat t)) m.toNat, 0) else ([], [], [], 2)) else ([], [], [], thCode l t a)
theorem iChoices (l : List S66) (t : List Int) (a m : Int) (hl : l.length ≤ 8796093022208) : Ev (fun k => impl_choicesOf.f k l t a m) (chR l t a m) := by
  unfold impl_choicesOf.f chR
  refine Ev.bind (iTheme l t a hl) ?_
  by_cases h : thCode l t a = 0
  · obtain ⟨h1, h2⟩ := thCode_len h
    have hc := @chunks_count a.toNat t (by omega)
    have hrow := rows_ok l t a h
    rw [if_pos h]
    refine Ev.pos h ?_
    by_cases hm : 0 ≤ m ∧ m ≤ 32
    · rw [if_pos hm, iBlocks t a h2 h1]
      refine Ev.pos hm ?_
      simp only [Option.bind_some]
      generalize chunks a.toNat t = B at hc hrow ⊢
      have hr : ∀ x ∈ B, x.length ≤ 32 := fun x hx => (hrow x hx).1
      have hok := vOk_of l B (by omega) hr
      obtain ⟨N, hN⟩ := vEqs B hr
      have hrest : Ev (fun k => (ch_units k l B).bind fun us => (ch_out k B (ch_opts B us B.length) m.toNat (B.length + 1) (List.replicate (B.length + 1) [])).bind fun C => some (B, ch_opts B us B.length, C, (0 : Int))) (B, vO l B, vC B (vO l B) m.toNat, 0) :=
        Ev.bind (vUnits l B hrow) (Ev.bind (iOut hok m.toNat (by omega) (B.length + 1) _ (Nat.le_refl _) List.length_replicate (fun j h5 h6 => by omega)) (Ev.now _))
      obtain ⟨N2, hN2⟩ := hrest
      refine ⟨max N N2, fun k hk => ?_⟩
      show (if B.length ≤ 1000 ∧ ch_eqs k B = true then _ else _) = _
      rw [if_pos ⟨by omega, hN k (by omega)⟩]
      exact hN2 k (by omega)
    · rw [if_neg hm]
      exact Ev.neg hm (Ev.now _)
  · rw [if_neg h]
    exact Ev.neg h (Ev.now _)
theorem vSame_l0 (a b : List Int) (ha : a.length ≤ 32) (hab : a.length = b.length) (d : Nat) : ∀ (i : Nat), i + d = a.length → Ev (fun k => spec_l00Same.l0 k a b i) (allF (fun j => decide (a.getD j 0 = b.getD j 0)) a.length i) := by
  induction d with
  | zero =>
    intro i h1
    refine Ev.shift ?_
    simp only [spec_l00Same.l0]
    exact Ev.neg (by omega) (Ev.some (by rw [allF_end _ (by omega)]))
  | succ d ih =>
    intro i h1
    have w1 : wrap64 ((i : Int) + 1) = ((i + 1 : Nat) : Int) := by rw [wid (by omega)]; rfl
    refine Ev.shift ?_
    simp only [spec_l00Same.l0, w1, rd_nat]
    refine Ev.pos (by omega) (Ev.pos (by omega) (Ev.pos (by omega) ?_))
    by_cases h : a.getD i 0 = b.getD i 0
    · rw [allF_yes (fun j => decide (a.getD j 0 = b.getD j 0)) (decide_eq_true h)]
      exact Ev.pos h (ih (i + 1) (by omega))
    · rw [allF_no (fun j => decide (a.getD j 0 = b.getD j 0)) (by omega) (decide_eq_false h)]
      exact Ev.neg h (Ev.now _)
theorem vSame (a b : List Int) (ha : a.length ≤ 32) : Ev (fun k => spec_l00Same.f k a b) (decide (a = b)) := by
  unfold spec_l00Same.f
  by_cases h : a.length = b.length
  · rw [← vEq_all a b h]
    exact Ev.pos (by omega) (vSame_l0 a b ha h a.length 0 (by omega))
  · rw [decide_eq_false (fun e => h (by rw [e]))]
    exact Ev.neg (by omega) (Ev.now _)
theorem sUw_l0 (l : List S66) (t : List Int) (h : rowOk l.length t) (d : Nat) : ∀ (i : Nat) (a : Int), i + d = t.length → Ev (fun k => spec_l18Units.l0 k l t a i) (uw l a (t.drop i)) := by
  have h32 := h.1
  induction d with
  | zero =>
    intro i a h1
    refine Ev.shift ?_
    simp only [spec_l18Units.l0]
    exact Ev.neg (by omega) (Ev.some (by rw [List.drop_of_length_le (by omega)]; rfl))
  | succ d ih =>
    intro i a h1
    have w1 : wrap64 ((i : Int) + 1) = ((i + 1 : Nat) : Int) := by rw [wid (by omega)]; rfl
    have h2 := h.2 i (by omega)
    rw [uw_drop l t a i (by omega)]
    refine Ev.shift ?_
    simp only [spec_l18Units.l0, w1, rd_nat]
    exact Ev.pos (by omega) (Ev.pos (by omega) (Ev.pos h2.1 (Ev.pos h2.2 (ih (i + 1) _ (by omega)))))
theorem sUw (l : List S66) (t : List Int) (h : rowOk l.length t) : Ev (fun k => spec_l18Units.f k l t) (uw l 0 t) := sUw_l0 l t h t.length 0 0 (by omega)
def firstF (B : List (List Int)) (j kk : Nat) : Bool := allF (fun q => !decide (B.getD q [] = B.getD j [])) j kk
theorem sCh_l2 (l : List S66) (B out : List (List Int)) (row : List Int) (i j : Nat) (r : List (List Int)) (hB : B.length ≤ 32) (hr : ∀ q, (B.getD q []).length ≤ 32) (hj : j < B.length) (hrow : row.length ≤ 32) (d : Nat) : ∀ (kk : Nat) (f : Bool), kk + d = j →
    Ev (fun n => spec_l20Choices.l1 n l B out i (if (f && firstF B j kk) = true then row ++ [(j : Int)] else row) ((j + 1 : Nat) : Int)) r → Ev (fun n => spec_l20Choices.l2 n l B out i row j f kk) r := by
  have w1 : wrap64 ((j : Int) + 1) = ((j + 1 : Nat) : Int) := by rw [wid (by omega)]; rfl
  induction d with
  | zero =>
    intro kk f h1 hf
    have e1 : firstF B j kk = true := allF_end _ (by omega)
    rw [e1, Bool.and_true] at hf
    refine Ev.shift ?_
    simp only [spec_l20Choices.l2, w1]
    refine Ev.neg (by omega) ?_
    cases f with
    | true =>
      rw [if_pos rfl] at hf
      exact Ev.pos rfl (Ev.pos (by omega) hf)
    | false =>
      rw [if_neg (by decide)] at hf
      exact Ev.neg (by simp) hf
  | succ d ih =>
    intro kk f h1 hf
    have w2 : wrap64 ((kk : Int) + 1) = ((kk + 1 : Nat) : Int) := by rw [wid (by omega)]; rfl
    refine Ev.shift ?_
    simp only [spec_l20Choices.l2, w2, rd_L3, Int.toNat_natCast]
    refine Ev.pos (by omega) ?_
    cases f with
    | true =>
      refine Ev.pos rfl (Ev.pos (by omega) (Ev.pos (by omega) (Ev.pos (by omega) (Ev.pos (by omega) (Ev.bind (vSame _ _ (hr kk)) ?_)))))
      refine ih (kk + 1) _ (by omega) ?_
      by_cases c : B.getD kk [] = B.getD j []
      · have e1 : firstF B j kk = false := allF_no _ (by omega) (by rw [decide_eq_true c]; rfl)
        rw [e1] at hf
        rw [decide_eq_true c]
        exact hf
      · have e1 : firstF B j kk = firstF B j (kk + 1) := allF_yes _ (by rw [decide_eq_false c]; rfl)
        rw [e1] at hf
        rw [decide_eq_false c]
        exact hf
    | false =>
      exact Ev.neg (by simp) (ih (kk + 1) false (by omega) (by simpa using hf))
theorem first_any (B : List (List Int)) (j : Nat) (hj : j < B.length) : firstF B j 0 = !((B.take j).any fun x => decide (x = B.getD j [])) := by
  rw [Bool.eq_iff_iff]
  unfold firstF
  rw [allF_iff, Bool.not_eq_true', Bool.eq_false_iff, Ne, List.any_eq_true]
  constructor
  · rintro h ⟨x, hx, hd⟩
    obtain ⟨q, hq, rfl⟩ := List.getElem_of_mem hx
    rw [List.length_take] at hq
    have := h q (by omega) (Nat.zero_le _)
    rw [List.getElem_take] at hd
    rw [getDL B q (by omega), hd] at this
    cases this
  · intro h q hq _
    rw [Bool.not_eq_true', decide_eq_false_iff_not]
    intro e
    refine h ⟨B.getD q [], ?_, decide_eq_true e⟩
    rw [getDL B q (by omega)]
    have : (B.take j)[q]'(by rw [List.length_take]; omega) = B[q] := List.getElem_take
    rw [← this]
    exact List.getElem_mem _
theorem us_get (l : List S66) (B : List (List Int)) (j : Nat) (hj : j < B.length) : (B.map (uw l 0)).getD j 0 = uw l 0 (B.getD j []) := by
  rw [List.getD_eq_getElem?_getD, List.getElem?_map, getDL B j hj, List.getElem?_eq_getElem hj]
  rfl
theorem sCh_l1 (l : List S66) (B out : List (List Int)) (i : Nat) (r : List (List Int)) (hB : B.length ≤ 32) (hok : ∀ x ∈ B, rowOk l.length x) (hi : i < B.length) (hout : out.length ≤ 32) (hf : Ev (fun n => spec_l20Choices.l0 n l B (out ++ [ch_opt B (B.map (uw l 0)) i B.length]) ((i + 1 : Nat) : Int)) r) (d : Nat) : ∀ (j : Nat), j + d = B.length →
    Ev (fun n => spec_l20Choices.l1 n l B out i (ch_opt B (B.map (uw l 0)) i j) j) r := by
  have w1 : wrap64 ((i : Int) + 1) = ((i + 1 : Nat) : Int) := by rw [wid (by omega)]; rfl
  have hg : ∀ q, q < B.length → rowOk l.length (B.getD q []) := fun q hq => by rw [getDL B q hq]; exact hok _ (List.getElem_mem hq)
  have hr : ∀ q, (B.getD q []).length ≤ 32 := fun q => by
    by_cases h : q < B.length
    · exact (hg q h).1
    · rw [List.getD_eq_getElem?_getD, List.getElem?_eq_none (by omega)]; exact Nat.zero_le _
  induction d with
  | zero =>
    intro j h1
    refine Ev.shift ?_
    simp only [spec_l20Choices.l1, w1]
    have e : j = B.length := by omega
    rw [e]
    exact Ev.neg (by omega) (Ev.pos (by omega) hf)
  | succ d ih =>
    intro j h1
    have hol := ch_opt_len B (B.map (uw l 0)) i j
    refine Ev.shift ?_
    simp only [spec_l20Choices.l1, rd_L3, Int.toNat_natCast]
    refine Ev.pos (by omega) (Ev.pos (by omega) (Ev.bind (sUw l _ (hg j (by omega))) (Ev.pos (by omega) (Ev.pos (by omega) (Ev.bind (sUw l _ (hg i hi)) ?_)))))
    refine sCh_l2 l B out _ i j r hB hr (by omega) (by omega) j 0 _ (by omega) ?_
    have hp : ((uw l 0 (B.getD j []) == uw l 0 (B.getD i [])) && firstF B j 0) = ch_pick B (B.map (uw l 0)) i j := by
      unfold ch_pick
      rw [first_any B j (by omega), us_get l B j (by omega), us_get l B i hi, Bool.and_comm]
      rfl
    rw [hp]
    cases hq : ch_pick B (B.map (uw l 0)) i j with
    | true => rw [if_pos rfl, ← ch_opt_yes hq]; exact ih (j + 1) (by omega)
    | false => rw [if_neg (by decide), ← ch_opt_no hq]; exact ih (j + 1) (by omega)
theorem sCh_l0 (l : List S66) (B : List (List Int)) (hB : B.length ≤ 32) (hok : ∀ x ∈ B, rowOk l.length x) (d : Nat) : ∀ (i : Nat), i + d = B.length → Ev (fun n => spec_l20Choices.l0 n l B (ch_opts B (B.map (uw l 0)) i) i) (vO l B) := by
  induction d with
  | zero =>
    intro i h1
    refine Ev.shift ?_
    simp only [spec_l20Choices.l0]
    have e : i = B.length := by omega
    subst e
    exact Ev.neg (by omega) (Ev.now _)
  | succ d ih =>
    intro i h1
    refine Ev.shift ?_
    simp only [spec_l20Choices.l0]
    have h2 := sCh_l1 l B (ch_opts B (B.map (uw l 0)) i) i (vO l B) hB hok (by omega) (by rw [ch_opts_len]; omega) (by rw [← ch_opts_succ]; exact ih (i + 1) (by omega)) B.length 0 (by omega)
    exact Ev.pos (by omega) h2
theorem sChoices (l : List S66) (B : List (List Int)) (hB : B.length ≤ 32) (hok : ∀ x ∈ B, rowOk l.length x) : Ev (fun n => spec_l20Choices.f n l B) (vO l B) := sCh_l0 l B hB hok B.length 0 (by omega)
def vW (B O : List (List Int)) (M d : Nat) : List (List Int) := (List.range (d + 1)).reverse.map (vAt B O M)
theorem vW_succ (B O : List (List Int)) (M d : Nat) : vW B O M (d + 1) = vAt B O M (d + 1) :: vW B O M d := by
  unfold vW
  rw [List.range_succ (n := d + 1), List.reverse_append, List.map_append]
  rfl
theorem vW_len (B O : List (List Int)) (M d : Nat) : (vW B O M d).length = d + 1 := by
  unfold vW; rw [List.length_map, List.length_reverse, List.length_range]
theorem vW_get (B O : List (List Int)) (M d j : Nat) (hj : j ≤ d) : (vW B O M d).getD j [] = vAt B O M (d - j) := by
  unfold vW
  rw [List.getD_eq_getElem?_getD, List.getElem?_map, List.getElem?_reverse (by rw [List.length_range]; omega), List.length_range, List.getElem?_range (by omega), show d + 1 - 1 - j = d - j by omega]
  rfl
theorem sMin (a : Int) : spec_l00Min.f 20001 a = some (min a 20001) := by
  unfold spec_l00Min.f
  split <;> (congr 1; omega)
theorem sW_l3 {B O out : List (List Int)} (h : vOk B O) (M kk m : Nat) (row prev : List Int) (r : List (List Int)) (hk : kk < B.length) (hM : M ≤ 32) (hm : m ≤ M) (hout : out.getD 0 [] = prev) (hol : 0 < out.length) (hpl : prev.length = M + 1) (hp : ∀ q, 0 ≤ rd prev q ∧ rd prev q ≤ 20001) (hrow : row.length ≤ 33)
    (hf : Ev (fun n => spec_l20Ways.l2 n B O M out kk (row ++ [min (vSum B prev kk m (O.getD kk []) 0) 20001]) ((m + 1 : Nat) : Int)) r) (d : Nat) : ∀ (i : Nat) (a : Int), i + d = (O.getD kk []).length → 0 ≤ a → vSum B prev kk m ((O.getD kk []).drop i) a = vSum B prev kk m (O.getD kk []) 0 →
    Ev (fun n => spec_l20Ways.l3 n B O M out kk row m (min a 20001) i) r := by
  have h32 := h.l kk
  have ho := h.o
  have w3 : wrap64 ((m : Int) + 1) = ((m + 1 : Nat) : Int) := by rw [wid (by omega)]; rfl
  induction d with
  | zero =>
    intro i a h1 h2 h3
    rw [List.drop_of_length_le (by omega)] at h3
    rw [← h3] at hf
    refine Ev.shift ?_
    simp only [spec_l20Ways.l3, w3, rd_L3, Int.toNat_natCast]
    clear w3
    exact Ev.pos (by omega) (Ev.pos (by omega) (Ev.neg (by omega) (Ev.pos (by omega) hf)))
  | succ d ih =>
    intro i a h1 h2 h3
    have w1 : wrap64 ((i : Int) + 1) = ((i + 1 : Nat) : Int) := by rw [wid (by omega)]; rfl
    have hi := h.i kk i (by omega)
    rw [vSum_drop B prev kk m (O.getD kk []) a i (by omega)] at h3
    refine Ev.shift ?_
    simp only [spec_l20Ways.l3, w1, w3, rd_nat, rd_L3, Int.toNat_natCast]
    clear w1 w3
    refine Ev.pos (by omega) (Ev.pos (by omega) (Ev.pos (by omega) (Ev.pos (by omega) (Ev.pos hi.1 (Ev.pos hi.2 (Ev.pos (by omega) (Ev.bind (vSame _ _ (h.r _)) ?_)))))))
    rw [show ((0 : Int).toNat) = 0 from rfl, hout]
    have step : ∀ v : Int, 0 ≤ v → v ≤ m → vSum B prev kk m ((O.getD kk []).drop (i + 1)) (a + rd prev v) = vSum B prev kk m (O.getD kk []) 0 → Ev (fun n => if 0 < (out.length : Int) then (if 0 ≤ v then (if v < (prev.length : Int) then ((spec_l00Min.f 20001 (wrap64 (min a 20001 + rd prev v))).bind fun t => spec_l20Ways.l3 n B O M out kk row m t ((i + 1 : Nat) : Int)) else none) else none) else none) r := by
      intro v hv0 hvm hs
      have h4 := hp v
      refine Ev.pos (by omega) (Ev.pos hv0 (Ev.pos (by omega) ?_))
      rw [sMin, wid (by omega)]
      simp only [Option.bind_some]
      have := ih (i + 1) (a + rd prev v) (by omega) (by omega) hs
      rw [show min (min a 20001 + rd prev v) 20001 = min (a + rd prev v) 20001 by omega]
      exact this
    by_cases c : B.getD ((O.getD kk []).getD i 0).toNat [] = B.getD kk []
    · have e1 : vL B kk ((O.getD kk []).getD i 0) m = m := by unfold vL; rw [if_pos c]
      rw [e1, if_pos (by omega)] at h3
      refine Ev.pos (decide_eq_true c) (Ev.pos (by omega) ?_)
      have := step (m : Int) (by omega) (by omega) h3
      simp only [rd_nat] at this
      exact this
    · have e1 : vL B kk ((O.getD kk []).getD i 0) m = (m : Int) - 1 := by unfold vL; rw [if_neg c]
      rw [e1] at h3
      rw [wid (x := (m : Int) - 1) (by omega)]
      refine Ev.neg (by rw [decide_eq_true_iff]; exact c) ?_
      by_cases c2 : 0 ≤ (m : Int) - 1
      · rw [if_pos c2] at h3
        exact Ev.pos c2 (step _ c2 (by omega) h3)
      · rw [if_neg c2] at h3
        exact Ev.neg c2 (ih (i + 1) a (by omega) h2 h3)
theorem sW_l2 {B O out : List (List Int)} (h : vOk B O) (M d : Nat) (r : List (List Int)) (hk : d < B.length) (hM : M ≤ 32) (hout : out.getD 0 [] = vAt B O M d) (hol : 0 < out.length ∧ out.length ≤ 40) (hf : Ev (fun n => spec_l20Ways.l1 n B O M (vAt B O M (d + 1) :: out) (((B.length - 1 - d : Nat) : Int) - 1)) r) (e : Nat) : ∀ (m : Nat), m + e = M + 1 →
    Ev (fun n => spec_l20Ways.l2 n B O M out ((B.length - 1 - d : Nat) : Int) ((vAt B O M (d + 1)).take m) m) r := by
  have hl := vAt_len B O M (d + 1)
  have hb := h.b
  induction e with
  | zero =>
    intro m hm
    refine Ev.shift ?_
    simp only [spec_l20Ways.l2, Option.bind_some, List.length_singleton, List.singleton_append]
    rw [List.take_of_length_le (by omega), wid (by omega)]
    exact Ev.neg (by omega) (Ev.pos (by omega) hf)
  | succ e ih =>
    intro m hm
    have := sW_l3 (out := out) h M (B.length - 1 - d) m ((vAt B O M (d + 1)).take m) (vAt B O M d) r (by omega) hM (by omega) hout hol.1 (vAt_len _ _ _ _) (vAt_bnd _ _ _ _) (by rw [List.length_take]; omega) (by
      have := ih (m + 1) (by omega)
      rw [List.take_add_one, List.getElem?_eq_getElem (by omega)] at this
      rw [← vAt_get B O M d m (by omega), rd_get _ _ (by omega)]
      exact this) _ 0 0 (Nat.zero_add _) (Int.le_refl _) (by rw [List.drop_zero])
    refine Ev.shift ?_
    simp only [spec_l20Ways.l2]
    exact Ev.pos (by omega) this
theorem sW_l1 {B O : List (List Int)} (h : vOk B O) (M : Nat) (hM : M ≤ 32) (e : Nat) : ∀ (d : Nat), d + e = B.length → Ev (fun n => spec_l20Ways.l1 n B O M (vW B O M d) ((B.length : Int) - d - 1)) (vW B O M B.length) := by
  have hb := h.b
  induction e with
  | zero =>
    intro d hd
    refine Ev.shift ?_
    simp only [spec_l20Ways.l1]
    have e : d = B.length := by omega
    subst e
    exact Ev.neg (by omega) (Ev.now _)
  | succ e ih =>
    intro d hd
    refine Ev.shift ?_
    simp only [spec_l20Ways.l1]
    have := sW_l2 (out := vW B O M d) h M d (vW B O M B.length) (by omega) hM (by rw [vW_get _ _ _ _ _ (Nat.zero_le _)]; rfl) (by rw [vW_len]; omega) (by
      have := ih (d + 1) (by omega)
      rw [vW_succ] at this
      rw [show ((B.length - 1 - d : Nat) : Int) - 1 = (B.length : Int) - ((d + 1 : Nat) : Int) - 1 by omega]
      exact this) (M + 1) 0 (by omega)
    rw [List.take_zero, show ((B.length - 1 - d : Nat) : Int) = (B.length : Int) - (d : Int) - 1 by omega] at this
    exact Ev.pos (by omega) this
theorem sW_l0 {B O : List (List Int)} (h : vOk B O) (M : Nat) (hM : M ≤ 32) (e : Nat) : ∀ (m : Nat), m + e = M + 1 → Ev (fun n => spec_l20Ways.l0 n B O M (List.replicate m 1) m) (vW B O M B.length) := by
  have hb := h.b
  induction e with
  | zero =>
    intro m hm
    have w1 : wrap64 ((B.length : Int) - 1) = (B.length : Int) - ((0 : Nat) : Int) - 1 := by rw [wid (by omega)]; omega
    refine Ev.shift ?_
    simp only [spec_l20Ways.l0, w1]
    have := sW_l1 h M hM B.length 0 (by omega)
    have e : m = M + 1 := by omega
    subst e
    exact Ev.neg (by omega) this
  | succ e ih =>
    intro m hm
    have w1 : wrap64 ((m : Int) + 1) = ((m + 1 : Nat) : Int) := by rw [wid (by omega)]; rfl
    have := ih (m + 1) (by omega)
    rw [List.replicate_succ'] at this
    refine Ev.shift ?_
    simp only [spec_l20Ways.l0, w1, List.length_replicate]
    exact Ev.pos (by omega) (Ev.pos (by omega) this)
theorem sWays {B O : List (List Int)} (h : vOk B O) (m : Int) (hm : 0 ≤ m ∧ m ≤ 32) : Ev (fun n => spec_l20Ways.f n B O m) (vW B O m.toNat B.length) := by
  have := sW_l0 h m.toNat (by omega) (m.toNat + 1) 0 (by omega)
  rw [List.replicate_zero, show ((m.toNat : Nat) : Int) = m by omega] at this
  exact this
theorem sVary (l : List S66) (t : List Int) (a m : Int) (hl : l.length ≤ 8796093022208) (ht : t.length ≤ 35184372088832) : Ev (fun k => spec_l20Vary.f k l t a m) (if thCode l t a = 0 then (if 0 ≤ m ∧ m ≤ 32 then 0 else 2) else thCode l t a) := by
  unfold spec_l20Vary.f
  refine Ev.bind (sAsk l t hl ht) ?_
  rw [thCode_two (x := a)]
  by_cases h : thCode l t 1 = 0
  · refine Ev.pos h ?_
    simp only [len_eq, Option.bind_some, in_eq]
    rw [if_pos h]
    by_cases h2 : 1 ≤ a ∧ a ≤ 32
    · refine Ev.pos (decide_eq_true h2) ?_
      rw [if_pos h2, if_pos rfl]
      by_cases h3 : 0 ≤ m ∧ m ≤ 32
      · refine Ev.pos (decide_eq_true h3) (Ev.some ?_)
        rw [if_pos h3, h]
      · refine Ev.neg (by rw [decide_eq_true_iff]; exact h3) ?_
        rw [if_neg h3]
        exact Ev.now _
    · refine Ev.neg (by rw [decide_eq_true_iff]; exact h2) ?_
      rw [if_neg h2, if_neg (by decide)]
      exact Ev.now _
  · refine Ev.neg h ?_
    rw [if_neg h, if_neg h]
    exact Ev.now _
def nI (B : List (List Int)) (prev : List Int) (kk : Nat) : List Int → List Int → Int → Int → List Int × Int × Int
  | [], o, m, n => (o, m, n)
  | i :: is, o, m, n => if vL B kk i m < 0 then nI B prev kk is o m n else if n < rd prev (vL B kk i m) then (o ++ B.getD i.toNat [], vL B kk i m, n) else nI B prev kk is o m (wrap64 (n - rd prev (vL B kk i m)))
def nO (B O : List (List Int)) (M : Nat) : Nat → List Int → Int → Int → List Int
  | 0, o, _, _ => o
  | d + 1, o, m, n => nO B O M d (nI B (vAt B O M d) (B.length - 1 - d) (O.getD (B.length - 1 - d) []) o m n).1 (nI B (vAt B O M d) (B.length - 1 - d) (O.getD (B.length - 1 - d) []) o m n).2.1 (nI B (vAt B O M d) (B.length - 1 - d) (O.getD (B.length - 1 - d) []) o m n).2.2
theorem nI_bnd (B : List (List Int)) (prev : List Int) (kk : Nat) (hr : ∀ j, (B.getD j []).length ≤ 32) : ∀ (L o : List Int) (m n : Int), 0 ≤ m → (0 ≤ (nI B prev kk L o m n).2.1 ∧ (nI B prev kk L o m n).2.1 ≤ m) ∧ (nI B prev kk L o m n).1.length ≤ o.length + 32
  | [], o, m, n, h => by simp only [nI]; omega
  | i :: is, o, m, n, h => by
    have hv : vL B kk i m ≤ m := by unfold vL; split <;> omega
    simp only [nI]
    split
    · exact nI_bnd B prev kk hr is o m n h
    · split
      · have := hr i.toNat
        simp only [List.length_append]
        omega
      · exact nI_bnd B prev kk hr is o m _ h
theorem iNvIn {B O C : List (List Int)} (h : vOk B O) (M kk : Nat) (prev : List Int) (hk : kk < B.length) (hM : M ≤ 32) (hC : kk + 1 < C.length) (hpv : C.getD (kk + 1) [] = prev) (hpl : prev.length = M + 1) : ∀ (L o : List Int) (m n : Int), (∀ x ∈ L, 0 ≤ x ∧ x < (B.length : Int)) → 0 ≤ m ∧ m ≤ (M : Int) → o.length ≤ 2000 →
    Ev (fun k => nvIn k B O C kk L o m n) (nI B prev kk L o m n)
  | [], o, m, n, _, _, _ => Ev.now _
  | i :: is, o, m, n, hL, hm, ho => by
    have hi := hL i List.mem_cons_self
    have hv : vL B kk i m ≤ m := by unfold vL; split <;> omega
    have hb := h.r i.toNat
    have ih := iNvIn (C := C) h M kk prev hk hM hC hpv hpl is
    simp only [nvIn, nI]
    refine Ev.bind (iLeft (C := C) h kk i m hk hi (by omega)) ?_
    generalize vL B kk i m = v at hv ⊢
    by_cases c : v < 0
    · refine Ev.pos c ?_
      rw [if_pos c]
      exact ih o m n (fun x hx => hL x (List.mem_cons_of_mem _ hx)) hm ho
    · refine Ev.neg c ?_
      rw [if_neg c, hpv]
      refine Ev.pos ⟨hC, by omega, hi.1, hi.2, by omega⟩ ?_
      by_cases c2 : n < rd prev v
      · refine Ev.pos c2 ?_
        rw [if_pos c2]
        exact Ev.now _
      · refine Ev.neg c2 ?_
        rw [if_neg c2]
        exact ih o m _ (fun x hx => hL x (List.mem_cons_of_mem _ hx)) hm ho
theorem row_mem {B O : List (List Int)} (h : vOk B O) (j : Nat) : ∀ x ∈ O.getD j [], 0 ≤ x ∧ x < (B.length : Int) := by
  intro x hx
  obtain ⟨q, hq, rfl⟩ := List.getElem_of_mem hx
  have := h.i j q hq
  rwa [List.getD_eq_getElem?_getD, List.getElem?_eq_getElem hq, Option.getD_some] at this
theorem iNvOut {B O C : List (List Int)} (h : vOk B O) (M : Nat) (hM : M ≤ 32) (hC : C.length = B.length + 1) (hg : ∀ j, j ≤ B.length → C.getD j [] = vAt B O M (B.length - j)) : ∀ (d : Nat) (o : List Int) (m n : Int), d ≤ B.length → 0 ≤ m ∧ m ≤ (M : Int) → o.length ≤ 32 * (B.length - d) →
    Ev (fun k => nvOut k B O C d (B.length - d) o m n) (nO B O M d o m n)
  | 0, o, m, n, _, _, _ => Ev.now _
  | d + 1, o, m, n, hd, hm, ho => by
    have hb := h.b
    have hO := h.o
    have e1 : B.length - (d + 1) = B.length - 1 - d := by omega
    have e2 : B.length - 1 - d + 1 = B.length - d := by omega
    have hin := iNvIn (C := C) h M (B.length - 1 - d) (vAt B O M d) (by omega) hM (by omega) (by rw [e2, hg _ (by omega), show B.length - (B.length - d) = d by omega]) (vAt_len _ _ _ _) (O.getD (B.length - 1 - d) []) o m n (row_mem h _) hm (by omega)
    have hn := nI_bnd B (vAt B O M d) (B.length - 1 - d) h.r (O.getD (B.length - 1 - d) []) o m n hm.1
    simp only [nvOut, nO]
    rw [e1]
    refine Ev.pos (by omega) (Ev.bind hin ?_)
    generalize nI B (vAt B O M d) (B.length - 1 - d) (O.getD (B.length - 1 - d) []) o m n = s at hn ⊢
    rw [e2]
    exact iNvOut h M hM hC hg d s.1 s.2.1 s.2.2 (by omega) (by omega) (by omega)
def nvR (l : List S66) (t : List Int) (a m n : Int) : List Int × Int :=
  if thCode l t a = 0 then (if 0 ≤ m ∧ m ≤ 32 then (if 20000 < rd (vAt (chunks a.toNat t) (vO l (chunks a.toNat t)) m.toNat (chunks a.toNat t).length) m then ([], 5) else (if 0 ≤ n ∧ n ≤ wrap64 (rd (vAt (chunks a.toNat t) (vO l (chunks a.toNat t)) m.toNat (chunks a.toNat t).length) m - 1) then (nO (chunks a.toNat t) (vO l (chunks a.toNat t)) m.toNat (chunks a.toNat t).length [] m n, 0) else ([], 3))) else ([], 2)) else ([], thCode l t a)
theorem nvI (l : List S66) (t : List Int) (a m n : Int) (hl : l.length ≤ 8796093022208) : Ev (fun k => impl_NumberedVariation.f k l t a m n) (nvR l t a m n) := by
  unfold impl_NumberedVariation.f nvR
  refine Ev.bind (iChoices l t a m hl) ?_
  unfold chR
  by_cases h : thCode l t a = 0
  · obtain ⟨h1, h2⟩ := thCode_len h
    have hrow := rows_ok l t a h
    have hc := @chunks_count a.toNat t (by omega)
    rw [if_pos h, if_pos h]
    by_cases hm : 0 ≤ m ∧ m ≤ 32
    · rw [if_pos hm, if_pos hm]
      generalize chunks a.toNat t = B at hrow hc ⊢
      have hok := vOk_of l B (by omega) (fun x hx => (hrow x hx).1)
      have hg := vC_get B (vO l B) m.toNat 0 (Nat.zero_le _)
      have hl1 := vC_len B (vO l B) m.toNat
      have hl2 := vAt_len B (vO l B) m.toNat B.length
      have hO := iNvOut (C := vC B (vO l B) m.toNat) hok m.toNat (by omega) hl1 (fun j hj => vC_get B (vO l B) m.toNat j hj) B.length [] m n (Nat.le_refl _) (by omega) (by simp)
      rw [Nat.sub_self] at hO
      rw [Nat.sub_zero] at hg
      simp only [hg]
      generalize vAt B (vO l B) m.toNat B.length = R at hl2 ⊢
      refine Ev.pos trivial (Ev.pos ⟨hm.1, by omega, by omega, by omega⟩ ?_)
      by_cases c : 20000 < rd R m
      · refine Ev.pos c ?_
        rw [if_pos c]; exact Ev.now _
      · refine Ev.neg c ?_
        rw [if_neg c]
        by_cases c2 : 0 ≤ n ∧ n ≤ wrap64 (rd R m - 1)
        · refine Ev.pos c2 (Ev.bind hO ?_)
          rw [if_pos c2]
          exact Ev.now _
        · refine Ev.neg c2 ?_
          rw [if_neg c2]
          exact Ev.now _
    · rw [if_neg hm, if_neg hm]
      exact Ev.neg (by simp) (Ev.now _)
  · rw [if_neg h]
    refine Ev.neg h ?_
    rw [if_neg h]
    exact Ev.now _
theorem nO_len {B O : List (List Int)} (h : vOk B O) (M : Nat) : ∀ (d : Nat) (o : List Int) (m n : Int), d ≤ B.length → 0 ≤ m → (nO B O M d o m n).length ≤ o.length + 32 * d
  | 0, o, m, n, _, _ => by simp [nO]
  | d + 1, o, m, n, hd, hm => by
    have hn := nI_bnd B (vAt B O M d) (B.length - 1 - d) h.r (O.getD (B.length - 1 - d) []) o m n hm
    simp only [nO]
    generalize nI B (vAt B O M d) (B.length - 1 - d) (O.getD (B.length - 1 - d) []) o m n = s at hn ⊢
    have := nO_len h M d s.1 s.2.1 s.2.2 (by omega) hn.1.1
    omega
theorem nvR_len (l : List S66) (t : List Int) (a m n : Int) : (nvR l t a m n).1.length ≤ 1024 := by
  unfold nvR
  split
  · rename_i h
    obtain ⟨h1, h2⟩ := thCode_len h
    have hrow := rows_ok l t a h
    have hc := @chunks_count a.toNat t (by omega)
    generalize chunks a.toNat t = B at hrow hc ⊢
    have hok := vOk_of l B (by omega) (fun x hx => (hrow x hx).1)
    split
    · rename_i hm
      split
      · simp
      · split
        · have := nO_len hok m.toNat B.length [] m n (Nat.le_refl _) hm.1
          simp only [List.length_nil] at this
          show (nO B (vO l B) m.toNat B.length [] m n).length ≤ 1024
          omega
        · simp
    · simp
  · simp
theorem nI_step (B : List (List Int)) (prev : List Int) (kk : Nat) (L o : List Int) (m n : Int) (ii : Nat) (h : ii < L.length) : nI B prev kk (L.drop ii) o m n = if vL B kk (L.getD ii 0) m < 0 then nI B prev kk (L.drop (ii + 1)) o m n else if n < rd prev (vL B kk (L.getD ii 0) m) then (o ++ B.getD (L.getD ii 0).toNat [], vL B kk (L.getD ii 0) m, n) else nI B prev kk (L.drop (ii + 1)) o m (wrap64 (n - rd prev (vL B kk (L.getD ii 0) m))) := by
  rw [List.drop_eq_getElem_cons h, List.getD_eq_getElem?_getD, List.getElem?_eq_getElem h, Option.getD_some]
  rfl
theorem sNv_l1 {B O W : List (List Int)} (h : vOk B O) (M kk : Nat) (prev : List Int) (hk : kk < B.length) (hM : M ≤ 32) (hW : kk + 1 < W.length) (hpv : W.getD (kk + 1) [] = prev) (hpl : prev.length = M + 1) (m : Int) (hm : 0 ≤ m ∧ m ≤ (M : Int)) (o : List Int) (ho : o.length ≤ 2000) (r : List Int × Int) (e : Nat) : ∀ (ii : Nat) (n : Int), ii + e = (O.getD kk []).length →
    Ev (fun k => spec_NumberedVariation.l0 k (nI B prev kk ((O.getD kk []).drop ii) o m n).2.1 (nI B prev kk ((O.getD kk []).drop ii) o m n).2.2 B O W (nI B prev kk ((O.getD kk []).drop ii) o m n).1 ((kk + 1 : Nat) : Int)) r →
    Ev (fun k => spec_NumberedVariation.l1 k m n B O W o kk ii) r := by
  have hb := h.b
  have hO := h.o
  have h32 := h.l kk
  have w2 : wrap64 ((kk : Int) + 1) = ((kk + 1 : Nat) : Int) := by rw [wid (by omega)]; rfl
  induction e with
  | zero =>
    intro ii n h1 hf
    rw [List.drop_of_length_le (by omega)] at hf
    refine Ev.shift ?_
    simp only [spec_NumberedVariation.l1, w2, rd_L3, Int.toNat_natCast]
    clear w2
    exact Ev.pos (by omega) (Ev.pos (by omega) (Ev.neg (by omega) hf))
  | succ e ih =>
    intro ii n h1 hf
    have w1 : wrap64 ((ii : Int) + 1) = ((ii + 1 : Nat) : Int) := by rw [wid (by omega)]; rfl
    have hi := h.i kk ii (by omega)
    have hbr := h.r ((O.getD kk []).getD ii 0).toNat
    rw [nI_step B prev kk (O.getD kk []) o m n ii (by omega)] at hf
    have hj : ∀ v : Int, v = vL B kk ((O.getD kk []).getD ii 0) m → Ev (fun k => spec_NumberedVariation.j2 k m n B O W o kk ii v) r := by
      intro v hv
      have hv1 : v ≤ m := by rw [hv]; unfold vL; split <;> omega
      rw [← hv] at hf
      refine Ev.shift ?_
      simp only [spec_NumberedVariation.j2, w1, w2, rd_nat, rd_L3, Int.toNat_natCast, hpv]
      clear w1 w2
      by_cases c : v < 0
      · rw [if_pos c] at hf
        exact Ev.pos c (ih (ii + 1) n (by omega) hf)
      · rw [if_neg c] at hf
        refine Ev.neg c (Ev.pos (by omega) (Ev.pos (by omega) (Ev.pos (by omega) (Ev.pos (by omega) ?_))))
        by_cases c2 : n < rd prev v
        · rw [if_pos c2] at hf
          exact Ev.pos c2 (Ev.pos (by omega) (Ev.pos (by omega) (Ev.pos (by omega) (Ev.pos (by omega) (Ev.pos hi.1 (Ev.pos hi.2 (Ev.pos (by omega) hf)))))))
        · rw [if_neg c2] at hf
          exact Ev.neg c2 (ih (ii + 1) _ (by omega) hf)
    refine Ev.shift ?_
    simp only [spec_NumberedVariation.l1, w2, rd_nat, rd_L3, Int.toNat_natCast]
    clear w1 w2
    refine Ev.pos (by omega) (Ev.pos (by omega) (Ev.pos (by omega) (Ev.pos (by omega) (Ev.pos hi.1 (Ev.pos hi.2 (Ev.pos (by omega) (Ev.bind (vSame _ _ (h.r _)) ?_)))))))
    by_cases c : B.getD ((O.getD kk []).getD ii 0).toNat [] = B.getD kk []
    · exact Ev.pos (decide_eq_true c) (hj m (by unfold vL; rw [if_pos c]))
    · refine Ev.neg (by rw [decide_eq_true_iff]; exact c) (hj _ ?_)
      unfold vL
      rw [if_neg c, wid (by omega)]
theorem sNv_l0 {B O : List (List Int)} (h : vOk B O) (M : Nat) (hM : M ≤ 32) (d : Nat) : ∀ (o : List Int) (m n : Int), d ≤ B.length → 0 ≤ m ∧ m ≤ (M : Int) → o.length ≤ 32 * (B.length - d) →
    Ev (fun k => spec_NumberedVariation.l0 k m n B O (vW B O M B.length) o ((B.length - d : Nat) : Int)) (nO B O M d o m n, 0) := by
  have hb := h.b
  have hO := h.o
  induction d with
  | zero =>
    intro o m n _ _ _
    refine Ev.shift ?_
    simp only [spec_NumberedVariation.l0]
    exact Ev.neg (by omega) (Ev.now _)
  | succ d ih =>
    intro o m n hd hm ho
    have e1 : B.length - (d + 1) = B.length - 1 - d := by omega
    have e2 : B.length - 1 - d + 1 = B.length - d := by omega
    have hn := nI_bnd B (vAt B O M d) (B.length - 1 - d) h.r (O.getD (B.length - 1 - d) []) o m n hm.1
    refine Ev.shift ?_
    simp only [spec_NumberedVariation.l0, nO]
    rw [e1]
    refine Ev.pos (by omega) ?_
    refine sNv_l1 (W := vW B O M B.length) h M (B.length - 1 - d) (vAt B O M d) (by omega) hM (by rw [vW_len]; omega) (by rw [e2, vW_get _ _ _ _ _ (by omega), show B.length - (B.length - d) = d by omega]) (vAt_len _ _ _ _) m hm o (by omega) _ _ 0 n (Nat.zero_add _) ?_
    rw [List.drop_zero]
    generalize nI B (vAt B O M d) (B.length - 1 - d) (O.getD (B.length - 1 - d) []) o m n = s at hn ⊢
    rw [e2]
    exact ih s.1 s.2.1 s.2.2 (by omega) (by omega) (by omega)
theorem nvS (l : List S66) (t : List Int) (a m n : Int) (hl : l.length ≤ 8796093022208) (ht : t.length ≤ 35184372088832) : Ev (fun k => spec_NumberedVariation.f k l t a m n) (nvR l t a m n) := by
  unfold spec_NumberedVariation.f nvR
  refine Ev.bind (sVary l t a m hl ht) ?_
  by_cases h : thCode l t a = 0
  · obtain ⟨h1, h2⟩ := thCode_len h
    rw [if_pos h, if_pos h]
    by_cases hm : 0 ≤ m ∧ m ≤ 32
    · rw [if_pos hm, if_pos hm]
      have hrow := rows_ok l t a h
      have hc := @chunks_count a.toNat t (by omega)
      refine Ev.pos rfl (Ev.bind (sBlocks t a h2 h1.2) ?_)
      generalize chunks a.toNat t = B at hrow hc ⊢
      refine Ev.bind (sChoices l B (by omega) hrow) ?_
      have hok := vOk_of l B (by omega) (fun x hx => (hrow x hx).1)
      refine Ev.bind (sWays hok m hm) ?_
      have hg := vW_get B (vO l B) m.toNat B.length 0 (Nat.zero_le _)
      have hl1 := vW_len B (vO l B) m.toNat B.length
      have hl2 := vAt_len B (vO l B) m.toNat B.length
      have hO := sNv_l0 hok m.toNat (by omega) B.length [] m n (Nat.le_refl _) (by omega) (by simp)
      rw [Nat.sub_self] at hO
      rw [Nat.sub_zero] at hg
      simp only [rd_L3, show (0 : Int).toNat = 0 from rfl, hg, in_eq, Option.bind_some]
      generalize vAt B (vO l B) m.toNat B.length = R at hl2 ⊢
      refine Ev.pos (by omega) (Ev.pos hm.1 (Ev.pos (by omega) ?_))
      by_cases c : 20000 < rd R m
      · refine Ev.pos c ?_
        rw [if_pos c]; exact Ev.now _
      · refine Ev.neg c ?_
        rw [if_neg c]
        by_cases c2 : 0 ≤ n ∧ n ≤ wrap64 (rd R m - 1)
        · refine Ev.pos (decide_eq_true c2) ?_
          rw [if_pos c2]
          exact hO
        · refine Ev.neg (by rw [decide_eq_true_iff]; exact c2) ?_
          rw [if_neg c2]
          exact Ev.now _
    · rw [if_neg hm, if_neg hm]
      exact Ev.neg (by simp) (Ev.now _)
  · rw [if_neg h, if_neg h]
    exact Ev.neg h (Ev.now _)
theorem FnExactNumberedVariation : laws_FnExactNumberedVariation.Pure := by
  intro l t a m n hm hm2 _ _ _
  refine Ev.rounds (g := fun k => laws_FnExactNumberedVariation.f k l t a m n) ?_
  unfold laws_FnExactNumberedVariation.f
  by_cases ht : (t.length : Int) > 1048576
  · exact Ev.pos ht (Ev.now _)
  refine Ev.neg ht ?_
  obtain ⟨s, hz, hb⟩ := szSyllable l hm.1 (fun z hz => (hm.2 z hz).1)
  refine Ev.bind hz ?_
  by_cases h0 : s < 0
  · exact Ev.pos h0 (Ev.now _)
  refine Ev.neg h0 ?_
  have hl := hb (by omega)
  have hl' : l.length ≤ 8796093022208 := by omega
  have ht' : t.length ≤ 35184372088832 := by omega
  have hc : (cpSyllable l).length ≤ 8796093022208 := by rw [cpSyllable_length]; exact hl'
  have hcl : (cpSyllable l).length = l.length := cpSyllable_length l
  have hS := nvS (cpSyllable l) t a m n hc ht'
  have hI := nvI (cpSyllable l) t a m n hc
  have hr0 := nvR_len (cpSyllable l) t a m n
  generalize nvR (cpSyllable l) t a m n = R at hS hI hr0
  obtain ⟨r, c⟩ := R
  have hr : r.length ≤ 35184372088832 := by simp only at hr0; omega
  obtain ⟨l', hms⟩ := markSyl (cpSyllable l) 1 (by omega) (by omega)
  have hmt := markI t (1 + 3 * (cpSyllable l).length) (by omega) (by omega)
  have hmk := markI r 1 (by omega) (by omega)
  have hhl := heldI r.length 1 (by omega) (by omega)
  repeat (first | exact Ev.now _ | refine Ev.bind hS ?_ | refine Ev.bind hI ?_ | refine Ev.bind (toSyllable l hl') ?_ | refine Ev.bind (eqSyllable _ hc) ?_ | refine Ev.bind (toI _ (by assumption)) ?_ | refine Ev.bind (eqI _ (by assumption)) ?_ | refine Ev.bind hms ?_ | refine Ev.bind hmt ?_ | refine Ev.bind hmk ?_ | refine Ev.bind hhl ?_ | refine Ev.pos (by with_reducible rfl) ?_ | refine Ev.neg (by omega) ?_ | refine Ev.neg (by simp; done) ?_ | refine Ev.pos (by omega) ?_ | (refine Ev.shift ?_; simp only [laws_FnExactNumberedVariation.j0, laws_FnExactNumberedVariation.j1, laws_FnExactNumberedVariation.j2]))

end Go.Proofs.Ytidbcglhpaamdaa.Pure
