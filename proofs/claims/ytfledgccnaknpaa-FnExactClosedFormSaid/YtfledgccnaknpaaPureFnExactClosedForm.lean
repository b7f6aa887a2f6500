/- The pure statement of the law FnExactClosedForm: what the Go functions compute, told by plain Lean functions, is what the law asks, for all arguments. No condition beyond the printed ones. -/
import Derived.Test.YtfledgccnaknpaaPFnExactClosedFormxo
import Derived.Test.YtfledgccnaknpaaXW
namespace Go.Proofs.Ytfledgccnaknpaa.Pure
open Go.RowKit Go.Proofs.Ytfledgccnaknpaa.PFnExactClosedForm Go.Proofs.YtfledgccnaknpaaW.PrintWords Go.Proofs.YtfledgccnaknpaaW.PrintLast Go.Proofs.YtfledgccnaknpaaW.PrintMore Go.Proofs.YtfledgccnaknpaaXW
set_option linter.unusedVariables false
set_option linter.unusedSimpArgs false
theorem toI_l0 (l : List Int) (hl : l.length ≤ 35184372088832) (d : Nat) : ∀ (i : Nat) (acc : List Int), i + d = l.length → acc.length = l.length → acc.take i = l.take i → Ev (fun k => laws_toInt64S.l0 k l acc i) l := by
  induction d with
  | zero =>
    intro i acc h1 h2 h3
    refine Ev.shift ?_
    simp only [laws_toInt64S.l0]
    refine Ev.neg (by omega) ?_
    refine Ev.some ?_
    rw [List.take_of_length_le (by omega), List.take_of_length_le (by omega)] at h3
    rw [h3]
  | succ d ih =>
    intro i acc h1 h2 h3
    refine Ev.shift ?_
    simp only [laws_toInt64S.l0]
    refine Ev.pos (by omega) (Ev.pos (by omega) (Ev.pos (by omega) ?_))
    rw [wid (by omega), rd_get l i (by omega), Int.toNat_natCast]
    refine ih (i + 1) (acc.set i l[i]) (by omega) (by rw [List.length_set, h2]) ?_
    rw [List.take_succ_eq_append_getElem (by rw [List.length_set]; omega), List.take_succ_eq_append_getElem (by omega), List.take_set_of_le (by omega), List.getElem_set_self, h3]
theorem toI (l : List Int) (hl : l.length ≤ 35184372088832) : Ev (fun k => laws_toInt64S.f k l) l := by
  unfold laws_toInt64S.f
  refine Ev.pos (by omega) (Ev.pos (by omega) ?_)
  rw [Int.toNat_natCast]
  exact toI_l0 l hl l.length 0 _ (by omega) (by simp) (by simp)
theorem eqI_l0 (l : List Int) (hl : l.length ≤ 35184372088832) (d : Nat) : ∀ (i : Nat), i + d = l.length → Ev (fun k => laws_eqInt64S.l0 k l l i) true := by
  induction d with
  | zero =>
    intro i h1
    refine Ev.shift ?_
    simp only [laws_eqInt64S.l0]
    exact Ev.neg (by omega) (Ev.now _)
  | succ d ih =>
    intro i h1
    refine Ev.shift ?_
    simp only [laws_eqInt64S.l0]
    refine Ev.pos (by omega) (Ev.pos (by omega) (Ev.pos (by omega) (Ev.pos (by trivial) ?_)))
    rw [wid (by omega)]
    exact ih (i + 1) (by omega)
theorem eqI (l : List Int) (hl : l.length ≤ 35184372088832) : Ev (fun k => laws_eqInt64S.f k l l) true := by
  unfold laws_eqInt64S.f
  exact Ev.pos rfl (eqI_l0 l hl l.length 0 (by omega))
/-- what marks leave: from m on, one by one -/
def marks (m : Int) : Nat → List Int
  | 0 => []
  | n + 1 => m :: marks (m + 1) n
theorem marks_length (n : Nat) : ∀ m, (marks m n).length = n := by
  induction n with
  | zero => intro m; rfl
  | succ n ih => intro m; simp [marks, ih]
theorem marks_get (n : Nat) : ∀ (m : Int) (i : Nat) (h : i < (marks m n).length), (marks m n)[i] = m + i := by
  induction n with
  | zero => intro m i h; simp [marks] at h
  | succ n ih =>
    intro m i h
    cases i with
    | zero => simp [marks]
    | succ i => simp only [marks, List.getElem_cons_succ]; rw [ih]; omega
theorem marks_snoc (n : Nat) : ∀ m, marks m (n + 1) = marks m n ++ [m + n] := by
  induction n with
  | zero => intro m; simp [marks]
  | succ n ih =>
    intro m
    rw [marks, ih, marks, List.cons_append]
    congr 3
    simp; omega
theorem markI_l0 (m0 : Int) (n : Nat) (h0 : 0 ≤ m0) (h1 : m0 + n ≤ 9000000000000000000) (d : Nat) : ∀ (i : Nat) (acc : List Int), i + d = n → acc.length = n → acc.take i = marks m0 i → Ev (fun k => laws_markInt64S.l0 k acc (m0 + i) i) (m0 + n, marks m0 n) := by
  induction d with
  | zero =>
    intro i acc h2 h3 h4
    refine Ev.shift ?_
    simp only [laws_markInt64S.l0]
    refine Ev.neg (by omega) (Ev.some ?_)
    rw [List.take_of_length_le (by omega)] at h4
    rw [h4, show i = n by omega]
  | succ d ih =>
    intro i acc h2 h3 h4
    refine Ev.shift ?_
    simp only [laws_markInt64S.l0]
    refine Ev.pos (by omega) (Ev.pos (by omega) ?_)
    rw [wid (x := m0 + i + 1) (by omega), wid (x := (i : Int) + 1) (by omega), Int.toNat_natCast, show m0 + (i : Int) + 1 = m0 + ((i + 1 : Nat) : Int) by omega]
    refine ih (i + 1) _ (by omega) (by rw [List.length_set, h3]) ?_
    rw [List.take_succ_eq_append_getElem (by rw [List.length_set]; omega), List.take_set_of_le (by omega), List.getElem_set_self, h4, marks_snoc]
theorem markI (l : List Int) (m : Int) (h0 : 0 ≤ m) (h1 : m + l.length ≤ 9000000000000000000) : Ev (fun k => laws_markInt64S.f k l m) (m + l.length, marks m l.length) := by
  unfold laws_markInt64S.f
  have := markI_l0 m l.length h0 h1 l.length 0 l (by omega) rfl (by simp [marks])
  simpa using this
theorem heldI_l0 (m0 : Int) (n : Nat) (h0 : 0 ≤ m0) (h1 : m0 + n ≤ 9000000000000000000) (d : Nat) : ∀ (i : Nat), i + d = n → Ev (fun k => laws_heldInt64S.l0 k (marks m0 n) (m0 + i) i) (m0 + n) := by
  induction d with
  | zero =>
    intro i h2
    refine Ev.shift ?_
    simp only [laws_heldInt64S.l0, marks_length]
    exact Ev.neg (by omega) (Ev.some (by rw [show i = n by omega]))
  | succ d ih =>
    intro i h2
    refine Ev.shift ?_
    simp only [laws_heldInt64S.l0, marks_length]
    refine Ev.pos (by omega) (Ev.pos (by omega) (Ev.pos (by rw [rd_get _ _ (by rw [marks_length]; omega), marks_get]) ?_))
    rw [wid (x := m0 + i + 1) (by omega), wid (x := (i : Int) + 1) (by omega), show m0 + (i : Int) + 1 = m0 + ((i + 1 : Nat) : Int) by omega]
    exact ih (i + 1) (by omega)
theorem heldI (n : Nat) (m : Int) (h0 : 0 ≤ m) (h1 : m + n ≤ 9000000000000000000) : Ev (fun k => laws_heldInt64S.f k (marks m n) m) (m + n) := by
  unfold laws_heldInt64S.f
  have := heldI_l0 m n h0 h1 n 0 (by omega)
  simpa using this
def risQ (l : List Int) (lo hi : Int) (j : Nat) : Bool := decide (lo ≤ l.getD j 0 ∧ l.getD j 0 ≤ hi) && (decide (j = 0) || decide (l.getD (j - 1) 0 < l.getD j 0))
theorem in_eq (a b c : Int) : spec_l00In.f a b c = some (decide (b ≤ a ∧ a ≤ c)) := by
  unfold spec_l00In.f; split <;> simp_all; omega
theorem within_eq (a b c : Int) : impl_within.f a b c = some (decide (b ≤ a ∧ a ≤ c)) := by
  unfold impl_within.f; split <;> simp_all; omega
theorem allIn_eq (l : List Int) (a b : Int) : impl_allWithin.f l a b = some (l.all fun x => decide (a ≤ x ∧ x ≤ b)) := by
  unfold impl_allWithin.f
  rw [List.not_any_eq_all_not]
  congr 2
  funext x
  simp [allP]
def cpSyllable (l : List S101) : List S103 := l.map fun x => ⟨x.f0, x.f1, x.f2⟩
theorem cpSyllable_length (l : List S101) : (cpSyllable l).length = l.length := List.length_map _
theorem toSyllable_l0 (l : List S101) (hl : l.length ≤ 8796093022208) (d : Nat) : ∀ (i : Nat) (acc : List S103), i + d = l.length → acc.length = l.length → acc.take i = (cpSyllable l).take i → Ev (fun k => laws_toSyllableS.l0 k l acc i) (cpSyllable l) := by
  have hc : (cpSyllable l).length = l.length := List.length_map _
  induction d with
  | zero =>
    intro i acc h1 h2 h3
    refine Ev.shift ?_
    simp only [laws_toSyllableS.l0]
    refine Ev.neg (by omega) (Ev.some ?_)
    rw [List.take_of_length_le (by omega), List.take_of_length_le (by omega)] at h3
    rw [h3]
  | succ d ih =>
    intro i acc h1 h2 h3
    refine Ev.shift ?_
    simp only [laws_toSyllableS.l0, laws_toSyllable.f, Option.bind_some]
    refine Ev.pos (by omega) (Ev.pos (by omega) (Ev.pos (by omega) ?_))
    rw [wid (by omega), Int.toNat_natCast]
    refine ih (i + 1) _ (by omega) (by rw [List.length_set, h2]) ?_
    rw [List.take_succ_eq_append_getElem (by rw [List.length_set]; omega), List.take_succ_eq_append_getElem (by omega), List.take_set_of_le (by omega), List.getElem_set_self, h3]
    have e : rd_T101 l (i : Int) = l[i] := by
      unfold rd_T101
      rw [Int.toNat_natCast, List.getD_eq_getElem?_getD, List.getElem?_eq_getElem (by omega), Option.getD_some]
    simp only [cpSyllable, List.getElem_map, e]
theorem toSyllable (l : List S101) (hl : l.length ≤ 8796093022208) : Ev (fun k => laws_toSyllableS.f k l) (cpSyllable l) := by
  unfold laws_toSyllableS.f
  refine Ev.pos (by omega) (Ev.pos (by omega) ?_)
  rw [Int.toNat_natCast]
  exact toSyllable_l0 l hl l.length 0 _ (by omega) (by simp) (by simp)
theorem eqSyllable_l0 (l : List S103) (hl : l.length ≤ 8796093022208) (d : Nat) : ∀ (i : Nat), i + d = l.length → Ev (fun k => laws_eqSyllableS.l0 k l l i) true := by
  induction d with
  | zero =>
    intro i h1
    refine Ev.shift ?_
    simp only [laws_eqSyllableS.l0]
    exact Ev.neg (by omega) (Ev.now _)
  | succ d ih =>
    intro i h1
    refine Ev.shift ?_
    simp only [laws_eqSyllableS.l0, laws_eqSyllable.f, Option.bind_some, if_true]
    refine Ev.pos (by omega) (Ev.pos (by omega) (Ev.pos (by omega) ?_))
    rw [wid (by omega)]
    exact ih (i + 1) (by omega)
theorem eqSyllable (l : List S103) (hl : l.length ≤ 8796093022208) : Ev (fun k => laws_eqSyllableS.f k l l) true := by
  unfold laws_eqSyllableS.f
  exact Ev.pos rfl (eqSyllable_l0 l hl l.length 0 (by omega))
theorem szSyllable_l0 (l : List S101) (hl : l.length ≤ 1048576) (hm : ∀ z ∈ l, z.f0.size ≤ maxLen) (d : Nat) : ∀ (i : Nat) (t : Int), i + d = l.length → 0 ≤ t ∧ t ≤ 1048576 → ∃ r, r ≤ 1048576 ∧ Ev (fun k => laws_szSyllableS.l0 k l t i) r := by
  induction d with
  | zero =>
    intro i t h1 ht
    refine ⟨t, by omega, Ev.shift ?_⟩
    simp only [laws_szSyllableS.l0]
    exact Ev.neg (by omega) (Ev.now _)
  | succ d ih =>
    intro i t h1 ht
    have e : rd_T101 l (i : Int) ∈ l := by
      unfold rd_T101
      rw [Int.toNat_natCast, List.getD_eq_getElem?_getD, List.getElem?_eq_getElem (by omega), Option.getD_some]
      exact List.getElem_mem _
    have hz := hm _ e
    unfold maxLen at hz
    have w1 : wrap64 ((i : Int) + 1) = ((i + 1 : Nat) : Int) := by rw [wid (by omega)]; rfl
    by_cases c : t - ((rd_T101 l (i : Int)).f0.size : Int) < 0
    · refine ⟨-1, by omega, Ev.shift ?_⟩
      simp only [laws_szSyllableS.l0, laws_szSyllable.f]
      rw [wid (x := t - _) (by omega), if_pos c]
      simp only [Option.bind_some]
      exact Ev.pos (by omega) (Ev.pos (by omega) (Ev.pos (by omega) (Ev.now _)))
    · obtain ⟨r, hb, hr⟩ := ih (i + 1) (t - ((rd_T101 l (i : Int)).f0.size : Int)) (by omega) (by omega)
      refine ⟨r, hb, Ev.shift ?_⟩
      simp only [laws_szSyllableS.l0, laws_szSyllable.f, w1]
      rw [wid (x := t - _) (by omega), if_neg c]
      simp only [Option.bind_some]
      exact Ev.pos (by omega) (Ev.pos (by omega) (Ev.neg c hr))
theorem szSyllable2 (l : List S101) (hl : l.length ≤ maxLen) (hm : ∀ z ∈ l, z.f0.size ≤ maxLen) : ∃ r, Ev (fun k => laws_szSyllableS.f k l 1048576) r ∧ r ≤ 1048576 ∧ (0 ≤ r → l.length ≤ 1048576) := by
  unfold laws_szSyllableS.f
  unfold maxLen at hl
  rw [wid (by omega)]
  by_cases h : l.length ≤ 1048576
  · obtain ⟨r, hb, hr⟩ := szSyllable_l0 l h hm l.length 0 (1048576 - (l.length : Int)) (by omega) (by omega)
    exact ⟨r, Ev.neg (by omega) hr, hb, fun _ => h⟩
  · exact ⟨-1, Ev.pos (by omega) (Ev.now _), by omega, fun h => by omega⟩
theorem szSyllable (l : List S101) (hl : l.length ≤ maxLen) (hm : ∀ z ∈ l, z.f0.size ≤ maxLen) : ∃ r, Ev (fun k => laws_szSyllableS.f k l 1048576) r ∧ (0 ≤ r → l.length ≤ 1048576) := by
  obtain ⟨r, h1, _, h2⟩ := szSyllable2 l hl hm
  exact ⟨r, h1, h2⟩
def chQ (s : ByteArray) (j : Nat) : Bool := decide (97 ≤ bt s j ∧ bt s j ≤ 122) || decide (48 ≤ bt s j ∧ bt s j ≤ 57)
def nameB (s : ByteArray) : Bool := decide (1 ≤ s.size ∧ s.size ≤ 10) && (decide (97 ≤ bt s 0 ∧ bt s 0 ≤ 122) && allF (chQ s) s.size 0)
theorem small_eq (a : Int) : spec_l01Small.f a = some (decide (97 ≤ a ∧ a ≤ 122)) := by
  unfold spec_l01Small.f; split <;> simp_all; omega
theorem digit_eq (a : Int) : spec_l01Digit.f a = some (decide (48 ≤ a ∧ a ≤ 57)) := by
  unfold spec_l01Digit.f; split <;> simp_all; omega
theorem sName_l0 (s : ByteArray) (hs : s.size ≤ 10) (d : Nat) : ∀ (i : Nat), i + d = s.size → Ev (fun k => spec_l01Name.l0 k s i) (allF (chQ s) s.size i) := by
  induction d with
  | zero =>
    intro i h1
    refine Ev.shift ?_
    simp only [spec_l01Name.l0]
    exact Ev.neg (by omega) (Ev.some (by rw [allF_end _ (by omega)]))
  | succ d ih =>
    intro i h1
    have w1 : wrap64 ((i : Int) + 1) = ((i + 1 : Nat) : Int) := by rw [wid (by omega)]; rfl
    refine Ev.shift ?_
    simp only [spec_l01Name.l0, small_eq, digit_eq, Option.bind_some, w1]
    refine Ev.pos (by omega) (Ev.pos (by omega) ?_)
    by_cases a : 97 ≤ bt s i ∧ bt s i ≤ 122
    · rw [allF_yes _ (show chQ s i = true by unfold chQ; rw [decide_eq_true a]; rfl)]
      exact Ev.pos (decide_eq_true a) (ih (i + 1) (by omega))
    · refine Ev.neg (by rw [decide_eq_true_iff]; exact a) ?_
      by_cases b : 48 ≤ bt s i ∧ bt s i ≤ 57
      · rw [allF_yes _ (show chQ s i = true by unfold chQ; rw [decide_eq_true b, Bool.or_true])]
        exact Ev.pos (decide_eq_true b) (ih (i + 1) (by omega))
      · rw [allF_no _ (by omega) (show chQ s i = false by unfold chQ; rw [decide_eq_false a, decide_eq_false b]; rfl)]
        exact Ev.neg (by rw [decide_eq_true_iff]; exact b) (Ev.now _)
theorem sName (s : ByteArray) : Ev (fun k => spec_l01Name.f k s) (nameB s) := by
  unfold spec_l01Name.f nameB
  simp only [small_eq, Option.bind_some]
  have e : s.toList.length = s.size := by rw [ByteArray.toList_eq]; simp
  have f : Ev (fun k => spec_l01Name.j0 k s true) false := by
    refine Ev.shift ?_
    simp only [spec_l01Name.j0]
    exact Ev.pos trivial (Ev.now _)
  by_cases h0 : s.toList = []
  · refine Ev.pos h0 ?_
    rw [h0] at e
    rw [decide_eq_false (by simp at e; omega)]
    exact f
  · refine Ev.neg h0 ?_
    have hp : 0 < s.toList.length := List.length_pos_iff.2 h0
    by_cases h1 : (s.size : Int) > 10
    · refine Ev.pos h1 ?_
      rw [decide_eq_false (show ¬ (1 ≤ s.size ∧ s.size ≤ 10) by omega)]
      exact f
    · refine Ev.neg h1 (Ev.pos (by omega) ?_)
      rw [decide_eq_true (show 1 ≤ s.size ∧ s.size ≤ 10 by omega), Bool.true_and]
      cases hb : decide (97 ≤ bt s 0 ∧ bt s 0 ≤ 122) with
      | false => exact f
      | true =>
        refine Ev.shift ?_
        simp only [spec_l01Name.j0]
        exact Ev.neg (by decide) (sName_l0 s (by omega) s.size 0 (by omega))
theorem iName_l0 (s : ByteArray) (hs : s.size ≤ 10) (d : Nat) : ∀ (i : Nat), i + d = s.size → Ev (fun k => impl_onlyNameBytes.l0 k s (s.size : Int) i) (allF (chQ s) s.size i) := by
  induction d with
  | zero =>
    intro i h1
    refine Ev.shift ?_
    simp only [impl_onlyNameBytes.l0]
    exact Ev.neg (by omega) (Ev.some (by rw [allF_end _ (by omega)]))
  | succ d ih =>
    intro i h1
    have w1 : wrap64 ((i : Int) + 1) = ((i + 1 : Nat) : Int) := by rw [wid (by omega)]; rfl
    refine Ev.shift ?_
    simp only [impl_onlyNameBytes.l0, w1]
    refine Ev.pos (by omega) (Ev.pos (by omega) (Ev.pos (by omega) ?_))
    by_cases a : 97 ≤ bt s i ∧ bt s i ≤ 122
    · rw [allF_yes _ (show chQ s i = true by unfold chQ; rw [decide_eq_true a]; rfl)]
      exact Ev.neg (by omega) (Ev.neg (by omega) (ih (i + 1) (by omega)))
    · by_cases b : 48 ≤ bt s i ∧ bt s i ≤ 57
      · rw [allF_yes _ (show chQ s i = true by unfold chQ; rw [decide_eq_true b, Bool.or_true])]
        exact Ev.pos (by omega) (Ev.neg (by omega) (Ev.neg (by omega) (ih (i + 1) (by omega))))
      · rw [allF_no _ (by omega) (show chQ s i = false by unfold chQ; rw [decide_eq_false a, decide_eq_false b]; rfl)]
        by_cases c : bt s i < 97
        · refine Ev.pos c ?_
          by_cases c2 : bt s i < 48
          · exact Ev.pos c2 (Ev.now _)
          · exact Ev.neg c2 (Ev.pos (by omega) (Ev.now _))
        · exact Ev.neg c (Ev.pos (by omega) (Ev.neg (by omega) (Ev.pos (by omega) (Ev.now _))))
theorem iName (s : ByteArray) : Ev (fun k => impl_IsName.f k s) (nameB s) := by
  unfold impl_IsName.f nameB impl_onlyNameBytes.f
  by_cases h0 : (s.size : Int) < 1
  · rw [decide_eq_false (show ¬ (1 ≤ s.size ∧ s.size ≤ 10) by omega)]
    exact Ev.pos h0 (Ev.now _)
  · refine Ev.neg h0 ?_
    by_cases h1 : (s.size : Int) > 10
    · rw [decide_eq_false (show ¬ (1 ≤ s.size ∧ s.size ≤ 10) by omega)]
      exact Ev.pos h1 (Ev.now _)
    · rw [decide_eq_true (show 1 ≤ s.size ∧ s.size ≤ 10 by omega), Bool.true_and]
      refine Ev.neg h1 (Ev.pos (by omega) ?_)
      by_cases a : bt s 0 < 97
      · rw [decide_eq_false (show ¬ (97 ≤ bt s 0 ∧ bt s 0 ≤ 122) by omega)]
        exact Ev.pos a (Ev.now _)
      · refine Ev.neg a ?_
        by_cases b : bt s 0 > 122
        · rw [decide_eq_false (show ¬ (97 ≤ bt s 0 ∧ bt s 0 ≤ 122) by omega)]
          exact Ev.pos b (Ev.now _)
        · rw [decide_eq_true (show 97 ≤ bt s 0 ∧ bt s 0 ≤ 122 by omega), Bool.true_and]
          exact Ev.neg b (Ev.bind (iName_l0 s (by omega) s.size 0 (by omega)) (Ev.now _))
def sylB (x : S103) : Bool := nameB x.f0 && (decide ((x.f0.size : Int) ≤ 6) && (decide (1 ≤ x.f1 ∧ x.f1 ≤ 3) && decide (1 ≤ x.f2 ∧ x.f2 ≤ 8)))
theorem dec_and (p q : Prop) [Decidable p] [Decidable q] : (decide p && decide q) = decide (p ∧ q) := by
  by_cases p <;> by_cases q <;> simp [*]
theorem sSyl (x : S103) : Ev (fun k => spec_l18One_at.f k x.f0 x.f1 x.f2) (sylB x) := by
  unfold spec_l18One_at.f
  refine Ev.bind (sName x.f0) (Ev.same (Ev.now _) ?_)
  unfold sylB
  rw [dec_and, dec_and]
theorem rdSy (l : List S103) (i : Nat) : rd_T103 l (i : Int) = l.getD i z103 := by
  unfold rd_T103
  rw [Int.toNat_natCast]
def syQ (l : List S103) (j : Nat) : Bool := sylB (l.getD j z103) && (decide (j = 0) || Op.bytesLess (l.getD (j - 1) z103).f0.toList (l.getD j z103).f0.toList)
def sylsB (l : List S103) : Bool := allF (syQ l) l.length 0 && decide ((l.length : Int) ≤ 16)
theorem sSyls_l0 (l : List S103) (hl : l.length ≤ 8796093022208) (d : Nat) : ∀ (i : Nat), i + d = l.length → Ev (fun k => spec_l18Ok.l0 k l i) (allF (syQ l) l.length i && decide ((l.length : Int) ≤ 16)) := by
  induction d with
  | zero =>
    intro i h1
    refine Ev.shift ?_
    simp only [spec_l18Ok.l0]
    exact Ev.neg (by omega) (Ev.some (by rw [allF_end _ (by omega), Bool.true_and]))
  | succ d ih =>
    intro i h1
    have w1 : wrap64 ((i : Int) + 1) = ((i + 1 : Nat) : Int) := by rw [wid (by omega)]; rfl
    refine Ev.shift ?_
    simp only [spec_l18Ok.l0, rdSy, w1]
    refine Ev.pos (by omega) (Ev.pos (by omega) (Ev.bind (sSyl _) ?_))
    cases hb : sylB (l.getD i z103) with
    | false =>
      rw [allF_no _ (by omega) (show syQ l i = false by unfold syQ; rw [hb]; rfl)]
      exact Ev.neg (by decide) (Ev.now _)
    | true =>
      refine Ev.pos rfl ?_
      cases i with
      | zero =>
        rw [allF_yes _ (show syQ l 0 = true by unfold syQ; rw [hb]; rfl)]
        exact Ev.neg (by omega) (ih 1 (by omega))
      | succ i =>
        refine Ev.pos (by omega) ?_
        have e1 : wrap64 (((i + 1 : Nat) : Int) - 1) = (i : Int) := by rw [wid (by omega)]; omega
        rw [e1, rdSy]
        refine Ev.pos (by omega) (Ev.pos (by omega) ?_)
        have e2 : syQ l (i + 1) = Op.bytesLess (l.getD i z103).f0.toList (l.getD (i + 1) z103).f0.toList := by
          unfold syQ
          rw [hb, decide_eq_false (by omega), Bool.true_and, Bool.false_or]
          rfl
        cases hc : Op.bytesLess (l.getD i z103).f0.toList (l.getD (i + 1) z103).f0.toList with
        | true =>
          rw [allF_yes _ (e2.trans hc)]
          exact Ev.pos rfl (ih (i + 2) (by omega))
        | false =>
          rw [allF_no _ (by omega) (e2.trans hc)]
          exact Ev.neg (by decide) (Ev.now _)
theorem sSyls (l : List S103) (hl : l.length ≤ 8796093022208) : Ev (fun k => spec_l18Ok.f k l) (sylsB l) :=
  sSyls_l0 l hl l.length 0 (by omega)
theorem iSyl (x : S103) : Ev (fun k => impl_ValidSyllable.f k x.f0 x.f1 x.f2) (sylB x) := by
  unfold impl_ValidSyllable.f sylB
  simp only [within_eq, Option.bind_some]
  refine Ev.bind (iName x.f0) ?_
  cases nameB x.f0 with
  | false => exact Ev.neg (by decide) (Ev.now _)
  | true =>
    refine Ev.pos rfl ?_
    rw [Bool.true_and]
    by_cases h : (x.f0.size : Int) ≤ 6
    · rw [decide_eq_true h, Bool.true_and]
      refine Ev.pos h ?_
      cases decide (1 ≤ x.f1 ∧ x.f1 ≤ 3) with
      | false => exact Ev.neg (by decide) (Ev.now _)
      | true => exact Ev.pos rfl (Ev.now _)
    · rw [decide_eq_false h, Bool.false_and]
      exact Ev.neg h (Ev.now _)
theorem iSyls_l0 (l : List S103) (hl : l.length ≤ 16) (d : Nat) : ∀ (i : Nat), i + d = l.length → Ev (fun k => impl_ValidSyllables.l0 k l l (l.length : Int) i) (allF (syQ l) l.length i) := by
  induction d with
  | zero =>
    intro i h1
    refine Ev.shift ?_
    simp only [impl_ValidSyllables.l0]
    exact Ev.neg (by omega) (Ev.some (by rw [allF_end _ (by omega)]))
  | succ d ih =>
    intro i h1
    have w1 : wrap64 ((i : Int) + 1) = ((i + 1 : Nat) : Int) := by rw [wid (by omega)]; rfl
    refine Ev.shift ?_
    simp only [impl_ValidSyllables.l0, rdSy, w1]
    refine Ev.pos (by omega) (Ev.pos (by omega) (Ev.pos (by omega) (Ev.bind (iSyl _) ?_)))
    cases hb : sylB (l.getD i z103) with
    | false =>
      rw [allF_no _ (by omega) (show syQ l i = false by unfold syQ; rw [hb]; rfl)]
      exact Ev.neg (by decide) (Ev.now _)
    | true =>
      refine Ev.pos rfl ?_
      cases i with
      | zero =>
        rw [allF_yes _ (show syQ l 0 = true by unfold syQ; rw [hb]; rfl)]
        exact Ev.neg (by omega) (ih 1 (by omega))
      | succ i =>
        refine Ev.pos (by omega) ?_
        have e1 : wrap64 (((i + 1 : Nat) : Int) - 1) = (i : Int) := by rw [wid (by omega)]; omega
        rw [e1, rdSy]
        refine Ev.pos (by omega) (Ev.pos (by omega) ?_)
        have e2 : syQ l (i + 1) = Op.bytesLess (l.getD i z103).f0.toList (l.getD (i + 1) z103).f0.toList := by
          unfold syQ
          rw [hb, decide_eq_false (by omega), Bool.true_and, Bool.false_or]
          rfl
        cases hc : Op.bytesLess (l.getD i z103).f0.toList (l.getD (i + 1) z103).f0.toList with
        | true =>
          rw [allF_yes _ (e2.trans hc)]
          exact Ev.pos rfl (ih (i + 2) (by omega))
        | false =>
          rw [allF_no _ (by omega) (e2.trans hc)]
          exact Ev.neg (by decide) (Ev.now _)
theorem iSyls (l : List S103) : Ev (fun k => impl_ValidSyllables.f k l) (sylsB l) := by
  unfold impl_ValidSyllables.f sylsB
  by_cases h : (l.length : Int) > 16
  · rw [decide_eq_false (show ¬ (l.length : Int) ≤ 16 by omega), Bool.and_false]
    exact Ev.pos h (Ev.now _)
  · rw [decide_eq_true (show (l.length : Int) ≤ 16 by omega), Bool.and_true]
    exact Ev.neg h (iSyls_l0 l (by omega) l.length 0 (by omega))
def thQ (n : Nat) (t : List Int) (j : Nat) : Bool := decide (0 ≤ t.getD j 0 ∧ t.getD j 0 ≤ (n : Int) - 1)
def thB (n : Nat) (t : List Int) : Bool := allF (thQ n t) t.length 0 && decide (1 ≤ t.length ∧ t.length ≤ 32)
theorem sComposed_l0 (l : List S103) (t : List Int) (hl : l.length ≤ 8796093022208) (ht : t.length ≤ 35184372088832) (d : Nat) : ∀ (i : Nat), i + d = t.length → Ev (fun k => spec_l18Composed.l0 k l t i) (allF (thQ l.length t) t.length i && decide ((t.length : Int) ≤ 64)) := by
  induction d with
  | zero =>
    intro i h1
    refine Ev.shift ?_
    simp only [spec_l18Composed.l0]
    exact Ev.neg (by omega) (Ev.some (by rw [allF_end _ (by omega), Bool.true_and]))
  | succ d ih =>
    intro i h1
    have w1 : wrap64 ((i : Int) + 1) = ((i + 1 : Nat) : Int) := by rw [wid (by omega)]; rfl
    have w2 : wrap64 ((l.length : Int) - 1) = (l.length : Int) - 1 := wid (by omega)
    refine Ev.shift ?_
    simp only [spec_l18Composed.l0, rd_nat, w1, w2, in_eq, Option.bind_some]
    refine Ev.pos (by omega) (Ev.pos (by omega) ?_)
    cases hb : thQ l.length t i with
    | true =>
      rw [allF_yes _ hb]
      exact Ev.pos hb (ih (i + 1) (by omega))
    | false =>
      rw [allF_no _ (by omega) hb]
      refine Ev.neg ?_ (Ev.now _)
      rw [show decide (0 ≤ t.getD i 0 ∧ t.getD i 0 ≤ (l.length : Int) - 1) = false from hb]
      decide
theorem sTheme (l : List S103) (t : List Int) (hl : l.length ≤ 8796093022208) (ht : t.length ≤ 35184372088832) : Ev (fun k => spec_l20Theme.f k l t) (thB l.length t) := by
  unfold spec_l20Theme.f thB
  have h := sComposed_l0 l t hl ht t.length 0 (by omega)
  cases ha : allF (thQ l.length t) t.length 0 with
  | false =>
    rw [ha] at h
    exact Ev.bind h (Ev.neg (by simp) (Ev.now _))
  | true =>
    rw [ha, Bool.true_and] at h
    refine Ev.bind h ?_
    rw [Bool.true_and]
    by_cases h1 : (t.length : Int) ≤ 64
    · refine Ev.pos (decide_eq_true h1) ?_
      by_cases h2 : (t.length : Int) ≥ 1
      · exact Ev.pos h2 (Ev.some (by rw [Option.some_inj, decide_eq_decide]; omega))
      · exact Ev.neg h2 (Ev.some (by rw [decide_eq_false (show ¬ (1 ≤ t.length ∧ t.length ≤ 32) by omega)]))
    · refine Ev.neg (by rw [decide_eq_true_iff]; exact h1) (Ev.some ?_)
      rw [decide_eq_false (show ¬ (1 ≤ t.length ∧ t.length ≤ 32) by omega)]
def thCode (l : List S103) (t : List Int) (x : Int) : Int := if sylsB l = true then (if thB l.length t = true then (if 1 ≤ x ∧ x ≤ 32 then 0 else 2) else 7) else 1
theorem thCode_len {l : List S103} {t : List Int} {x : Int} (h : thCode l t x = 0) : (1 ≤ t.length ∧ t.length ≤ 32) ∧ 1 ≤ x ∧ x ≤ 32 := by
  unfold thCode at h
  split at h
  · split at h
    · rename_i h2
      unfold thB at h2
      rw [Bool.and_eq_true, decide_eq_true_iff] at h2
      split at h
      · exact ⟨h2.2, by assumption⟩
      · cases h
    · cases h
  · cases h
theorem thCode_two {l : List S103} {t : List Int} {x : Int} : thCode l t x = if thCode l t 1 = 0 then (if 1 ≤ x ∧ x ≤ 32 then 0 else 2) else thCode l t 1 := by
  unfold thCode
  by_cases h1 : sylsB l = true
  · by_cases h2 : thB l.length t = true
    · simp [h1, h2]
    · simp [h1, h2]
  · simp [h1]
theorem iTheme (l : List S103) (t : List Int) (x : Int) (hl : l.length ≤ 8796093022208) : Ev (fun k => impl_themeCode.f k l t x) (thCode l t x) := by
  unfold impl_themeCode.f thCode
  have hs := iSyls l
  cases v : sylsB l with
  | false =>
    rw [v] at hs
    rw [if_neg (show ¬ (false = true) by decide)]
    exact Ev.bind hs (Ev.neg (by decide) (Ev.now _))
  | true =>
    rw [v] at hs
    rw [if_pos (show true = true from rfl)]
    refine Ev.bind hs (Ev.pos rfl ?_)
    have f : Ev (fun k => impl_themeCode.j0 k x true) 7 := by
      refine Ev.shift ?_
      simp only [impl_themeCode.j0]
      exact Ev.pos trivial (Ev.now _)
    by_cases h1 : (t.length : Int) < 1
    · rw [show thB l.length t = false by unfold thB; rw [decide_eq_false (by omega), Bool.and_false], if_neg (show ¬ (false = true) by decide)]
      exact Ev.pos h1 f
    · refine Ev.neg h1 ?_
      by_cases h2 : (t.length : Int) > 32
      · rw [show thB l.length t = false by unfold thB; rw [decide_eq_false (by omega), Bool.and_false], if_neg (show ¬ (false = true) by decide)]
        exact Ev.pos h2 f
      · refine Ev.neg h2 ?_
        have w2 : wrap64 ((l.length : Int) - 1) = (l.length : Int) - 1 := wid (by omega)
        have e : (t.all fun x => decide (0 ≤ x ∧ x ≤ (l.length : Int) - 1)) = thB l.length t := by
          unfold thB
          rw [decide_eq_true (show 1 ≤ t.length ∧ t.length ≤ 32 by omega), Bool.and_true, Bool.eq_iff_iff, all_iff_get, allF_iff]
          exact ⟨fun h j hj _ => h j hj, fun h j hj => h j hj (Nat.zero_le _)⟩
        unfold impl_composedOk.f
        rw [if_pos (show (t.length : Int) ≤ 64 by omega), w2, allIn_eq, e]
        simp only [Option.bind_some]
        cases thB l.length t with
        | false =>
          rw [if_neg (show ¬ (false = true) by decide)]
          exact f
        | true =>
          rw [if_pos (show true = true from rfl)]
          refine Ev.shift ?_
          simp only [impl_themeCode.j0, within_eq, Option.bind_some]
          refine Ev.neg (by decide) ?_
          by_cases h3 : 1 ≤ x ∧ x ≤ 32
          · rw [if_pos h3]
            exact Ev.pos (decide_eq_true h3) (Ev.now _)
          · rw [if_neg h3]
            exact Ev.neg (by rw [decide_eq_true_iff]; exact h3) (Ev.now _)
theorem sAsk (l : List S103) (t : List Int) (hl : l.length ≤ 8796093022208) (ht : t.length ≤ 35184372088832) : Ev (fun k => spec_l20Ask.f k l t) (thCode l t 1) := by
  unfold spec_l20Ask.f thCode
  have hs := sSyls l hl
  cases v : sylsB l with
  | false =>
    rw [v] at hs
    rw [if_neg (show ¬ (false = true) by decide)]
    exact Ev.bind hs (Ev.neg (by decide) (Ev.now _))
  | true =>
    rw [v] at hs
    rw [if_pos (show true = true from rfl), if_pos (show (1 : Int) ≤ 1 ∧ (1 : Int) ≤ 32 by omega)]
    refine Ev.bind hs (Ev.pos rfl ?_)
    have hst := sTheme l t hl ht
    cases h : thB l.length t with
    | false =>
      rw [h] at hst
      rw [if_neg (show ¬ (false = true) by decide)]
      exact Ev.bind hst (Ev.neg (by decide) (Ev.now _))
    | true =>
      rw [h] at hst
      rw [if_pos (show true = true from rfl)]
      exact Ev.bind hst (Ev.pos rfl (Ev.now _))
theorem thCode_zero {l : List S103} {t : List Int} (h : thCode l t 1 = 0) : 1 ≤ t.length ∧ t.length ≤ 32 := by
  unfold thCode at h
  split at h
  · split at h
    · rename_i h2
      unfold thB at h2
      rw [Bool.and_eq_true, decide_eq_true_iff] at h2
      exact h2.2
    · cases h
  · cases h
theorem strN1 (x : Int) : (strOfNums [x]).size = 1 := rfl
theorem markText_l0 (N : Nat) : ∀ (n : Nat) (acc : ByteArray), n ≤ N → acc.size + n ≤ 9000000000000000000 → ∃ s, Ev (fun k => laws_markText.l0 k (n : Int) acc) s := by
  induction N with
  | zero =>
    intro n acc hn h
    obtain rfl : n = 0 := by omega
    refine ⟨(⟨#[109]⟩ : ByteArray) ++ acc, Ev.shift ?_⟩
    simp only [laws_markText.l0]
    exact Ev.neg (by omega) (Ev.pos (by omega) (Ev.now _))
  | succ N ih =>
    intro n acc hn h
    by_cases h0 : n = 0
    · subst h0
      refine ⟨(⟨#[109]⟩ : ByteArray) ++ acc, Ev.shift ?_⟩
      simp only [laws_markText.l0]
      exact Ev.neg (by omega) (Ev.pos (by omega) (Ev.now _))
    · have e : wrap64 (Int.tdiv (n : Int) 10) = ((n / 10 : Nat) : Int) := by
        rw [Int.tdiv_eq_ediv_of_nonneg (by omega), wid (by omega)]; omega
      obtain ⟨s, hs⟩ := ih (n / 10) (strOfNums [(wrap64 (48 + (Int.tmod (n : Int) 10))) % 256] ++ acc) (by omega) (by rw [ByteArray.size_append, strN1]; omega)
      refine ⟨s, Ev.shift ?_⟩
      simp only [laws_markText.l0, e, Option.bind_some]
      exact Ev.pos (by omega) (Ev.pos (by rw [strN1]; omega) hs)
theorem markText (n : Int) (h : 0 ≤ n ∧ n ≤ 9000000000000000000) : ∃ s, Ev (fun k => laws_markText.f k n) s := by
  unfold laws_markText.f
  obtain ⟨m, rfl⟩ := Int.eq_ofNat_of_zero_le h.1
  by_cases h0 : (m : Int) ≤ 0
  · exact ⟨_, Ev.pos h0 (Ev.now _)⟩
  · obtain ⟨s, hs⟩ := markText_l0 m m ⟨#[]⟩ (Nat.le_refl _) (by have : (⟨#[]⟩ : ByteArray).size = 0 := rfl; omega)
    exact ⟨s, Ev.neg h0 hs⟩
theorem markSyl_l0 (n : Nat) (d : Nat) : ∀ (i : Nat) (acc : List S103) (m : Int), i + d = n → acc.length = n → 0 ≤ m → m + 3 * d + n ≤ 8000000000000000000 → ∃ l', Ev (fun k => laws_markSyllableS.l0 k acc m i) (m + 3 * d, l') := by
  induction d with
  | zero =>
    intro i acc m h1 h2 h3 h4
    refine ⟨acc, Ev.shift ?_⟩
    simp only [laws_markSyllableS.l0]
    have e : m + 3 * ((0 : Nat) : Int) = m := by omega
    rw [e]
    exact Ev.neg (by omega) (Ev.now _)
  | succ d ih =>
    intro i acc m h1 h2 h3 h4
    obtain ⟨s, hs⟩ := markText m (by omega)
    have w0 : wrap64 (m + 1) = m + 1 := wid (by omega)
    have w1 : wrap64 (m + 1 + 1) = m + 1 + 1 := wid (by omega)
    have w2 : wrap64 (m + 1 + 1 + 1) = m + 3 := by rw [wid (by omega)]; omega
    have w3 : wrap64 ((i : Int) + 1) = ((i + 1 : Nat) : Int) := by rw [wid (by omega)]; rfl
    have e : m + 3 * ((d + 1 : Nat) : Int) = m + 3 + 3 * (d : Int) := by omega
    have key : ∀ acc' : List S103, acc'.length = n → ∃ l', Ev (fun k => laws_markSyllableS.l0 k acc' (m + 3) ((i + 1 : Nat) : Int)) (m + 3 + 3 * (d : Int), l') := fun acc' h => ih (i + 1) acc' (m + 3) (by omega) h (by omega) (by omega)
    have p1 : (i : Int) < (acc.length : Int) := by omega
    rw [e]
    let a1 : List S103 := acc.set i ⟨s, (rd_T103 acc (i : Int)).f1, (rd_T103 acc (i : Int)).f2⟩
    let a2 : List S103 := a1.set i ⟨(rd_T103 a1 (i : Int)).f0, m + 1, (rd_T103 a1 (i : Int)).f2⟩
    let a3 : List S103 := a2.set i ⟨(rd_T103 a2 (i : Int)).f0, (rd_T103 a2 (i : Int)).f1, m + 1 + 1⟩
    obtain ⟨l', hl'⟩ := key a3 (by
      show List.length (List.set (List.set (List.set acc i _) i _) i _) = n
      rw [List.length_set, List.length_set, List.length_set]; exact h2)
    refine ⟨l', Ev.shift ?_⟩
    simp only [laws_markSyllableS.l0]
    refine Ev.pos p1 (Ev.bind hs (Ev.pos (Int.natCast_nonneg _) ?_))
    simp only [Option.bind_some, Int.toNat_natCast, w0, w1, w2, w3]
    exact hl'
theorem markSyl (l : List S103) (m : Int) (h0 : 0 ≤ m) (h1 : m + 4 * l.length ≤ 8000000000000000000) : ∃ l', Ev (fun k => laws_markSyllableS.f k l m) (m + 3 * l.length, l') :=
  markSyl_l0 l.length l.length 0 l m (by omega) rfl h0 (by omega)
def totL : List (List Int) → Nat
  | [] => 0
  | r :: rs => r.length + totL rs
def mksL (m : Int) : List (List Int) → List (List Int)
  | [] => []
  | r :: rs => marks m r.length :: mksL (m + r.length) rs
theorem getD_mid (p : List (List Int)) (r : List Int) (rs : List (List Int)) : (p ++ r :: rs).getD p.length [] = r := by
  rw [List.getD_eq_getElem?_getD, List.getElem?_append_right (Nat.le_refl _), Nat.sub_self]; rfl
theorem set_mid (p : List (List Int)) (r r' : List Int) (rs : List (List Int)) : (p ++ r :: rs).set p.length r' = p ++ r' :: rs := by
  rw [List.set_append_right _ _ (Nat.le_refl _), Nat.sub_self]; rfl
theorem snoc_mid (p : List (List Int)) (r : List Int) (rs : List (List Int)) : p ++ r :: rs = (p ++ [r]) ++ rs := by simp
theorem mksL_length (rs : List (List Int)) : ∀ m, (mksL m rs).length = rs.length := by
  induction rs with
  | nil => intro m; rfl
  | cons r rs ih => intro m; simp [mksL, ih]
theorem markSS_l0 (rs : List (List Int)) : ∀ (p : List (List Int)) (m : Int), 0 ≤ m → m + totL rs ≤ 9000000000000000000 → p.length + rs.length ≤ 9000000000000000000 → Ev (fun k => laws_markInt64SS.l0 k (p ++ rs) m p.length) (m + totL rs, p ++ mksL m rs) := by
  induction rs with
  | nil =>
    intro p m h0 h1 h2
    refine Ev.shift ?_
    simp only [laws_markInt64SS.l0, List.append_nil, totL, mksL]
    exact Ev.neg (by omega) (Ev.some (by simp))
  | cons r rs ih =>
    intro p m h0 h1 h2
    simp only [totL, List.length_cons] at h1 h2
    have w1 : wrap64 ((p.length : Int) + 1) = ((p.length + 1 : Nat) : Int) := by rw [wid (by omega)]; rfl
    have ih' := ih (p ++ [marks m r.length]) (m + r.length) (by omega) (by omega) (by rw [List.length_append]; simp only [List.length_cons, List.length_nil]; omega)
    rw [show (p ++ [marks m r.length]).length = p.length + 1 by simp, ← snoc_mid, ← snoc_mid, show m + (r.length : Int) + (totL rs : Int) = m + (totL (r :: rs) : Nat) by simp only [totL]; omega] at ih'
    refine Ev.shift ?_
    simp only [laws_markInt64SS.l0, Int.toNat_natCast, getD_mid, set_mid, w1, List.length_append, List.length_cons]
    exact Ev.pos (by omega) (Ev.pos (by omega) (Ev.bind (markI r m h0 (by omega)) (by simp only [set_mid]; exact ih')))
theorem markSS (rs : List (List Int)) (m : Int) (h0 : 0 ≤ m) (h1 : m + totL rs ≤ 9000000000000000000) (h2 : rs.length ≤ 9000000000000000000) : Ev (fun k => laws_markInt64SS.f k rs m) (m + totL rs, mksL m rs) := by
  unfold laws_markInt64SS.f
  exact markSS_l0 rs [] m h0 h1 (by simpa using h2)
theorem eqSS_l0 (rs : List (List Int)) : ∀ (p : List (List Int)), (∀ r ∈ rs, r.length ≤ 35184372088832) → p.length + rs.length ≤ 9000000000000000000 → Ev (fun k => laws_eqInt64SS.l0 k (p ++ rs) (p ++ rs) p.length) true := by
  induction rs with
  | nil =>
    intro p hr h2
    refine Ev.shift ?_
    simp only [laws_eqInt64SS.l0, List.append_nil]
    exact Ev.neg (by omega) (Ev.now _)
  | cons r rs ih =>
    intro p hr h2
    simp only [List.length_cons] at h2
    have w1 : wrap64 ((p.length : Int) + 1) = ((p.length + 1 : Nat) : Int) := by rw [wid (by omega)]; rfl
    have g : (p ++ r :: rs).getD p.length [] = r := by rw [List.getD_eq_getElem?_getD, List.getElem?_append_right (Nat.le_refl _), Nat.sub_self]; rfl
    have ih' := ih (p ++ [r]) (fun x hx => hr x (List.mem_cons_of_mem _ hx)) (by rw [List.length_append]; simp only [List.length_cons, List.length_nil]; omega)
    rw [show (p ++ [r]).length = p.length + 1 by simp, show (p ++ [r]) ++ rs = p ++ r :: rs by simp] at ih'
    refine Ev.shift ?_
    simp only [laws_eqInt64SS.l0, rd_L5, Int.toNat_natCast, g, w1, List.length_append, List.length_cons]
    exact Ev.pos (by omega) (Ev.pos (by omega) (Ev.pos (by omega) (Ev.bind (eqI r (hr r List.mem_cons_self)) (Ev.pos rfl ih'))))
theorem eqSS (rs : List (List Int)) (hr : ∀ r ∈ rs, r.length ≤ 35184372088832) (h2 : rs.length ≤ 9000000000000000000) : Ev (fun k => laws_eqInt64SS.f k rs rs) true := by
  unfold laws_eqInt64SS.f
  exact Ev.pos rfl (eqSS_l0 rs [] hr (by simpa using h2))
theorem szLi (l : List Int) (t : Int) (hl : l.length ≤ maxLen) (ht : 0 ≤ t ∧ t ≤ 1048576) : ∃ r, laws_szInt64S.f l t = some r ∧ r ≤ 1048576 ∧ (r < 0 ∨ r = t - l.length) := by
  unfold laws_szInt64S.f
  unfold maxLen at hl
  rw [wid (by omega)]
  by_cases h : t - (l.length : Int) < 0
  · exact ⟨-1, by rw [if_pos h], by omega, .inl (by omega)⟩
  · exact ⟨t - l.length, by rw [if_neg h], by omega, .inr rfl⟩
theorem szSS_l0 (rs : List (List Int)) : ∀ (p : List (List Int)) (t : Int), (∀ r ∈ rs, r.length ≤ maxLen) → 0 ≤ t ∧ t ≤ 1048576 → p.length + rs.length ≤ 9000000000000000000 → ∃ r, Ev (fun k => laws_szInt64SS.l0 k (p ++ rs) t p.length) r ∧ r ≤ 1048576 ∧ (0 ≤ r → totL rs ≤ t - r) := by
  induction rs with
  | nil =>
    intro p t hr ht h2
    refine ⟨t, Ev.shift ?_, by omega, fun _ => by simp [totL]⟩
    simp only [laws_szInt64SS.l0, List.append_nil]
    exact Ev.neg (by omega) (Ev.now _)
  | cons r rs ih =>
    intro p t hr ht h2
    simp only [List.length_cons] at h2
    have w1 : wrap64 ((p.length : Int) + 1) = ((p.length + 1 : Nat) : Int) := by rw [wid (by omega)]; rfl
    obtain ⟨z, e, g1, g2⟩ := szLi r t (hr r List.mem_cons_self) ht
    rcases g2 with g2 | g2
    · refine ⟨-1, Ev.shift ?_, by omega, fun h => by omega⟩
      simp only [laws_szInt64SS.l0, rd_L5, Int.toNat_natCast, getD_mid, List.length_append, List.length_cons, e, Option.bind_some]
      exact Ev.pos (by omega) (Ev.pos (by omega) (Ev.pos g2 (Ev.now _)))
    · by_cases hz : z < 0
      · refine ⟨-1, Ev.shift ?_, by omega, fun h => by omega⟩
        simp only [laws_szInt64SS.l0, rd_L5, Int.toNat_natCast, getD_mid, List.length_append, List.length_cons, e, Option.bind_some]
        exact Ev.pos (by omega) (Ev.pos (by omega) (Ev.pos hz (Ev.now _)))
      · obtain ⟨q, X, g3, g4⟩ := ih (p ++ [r]) z (fun x hx => hr x (List.mem_cons_of_mem _ hx)) (by omega) (by rw [List.length_append]; simp only [List.length_cons, List.length_nil]; omega)
        rw [show (p ++ [r]).length = p.length + 1 by simp, ← snoc_mid] at X
        refine ⟨q, Ev.shift ?_, g3, fun h => by have := g4 h; simp only [totL]; omega⟩
        simp only [laws_szInt64SS.l0, rd_L5, Int.toNat_natCast, getD_mid, List.length_append, List.length_cons, e, Option.bind_some, w1]
        exact Ev.pos (by omega) (Ev.pos (by omega) (Ev.neg hz X))
theorem szSS (ls : List (List Int)) (t : Int) (hl : ls.length ≤ maxLen) (hr : ∀ r ∈ ls, r.length ≤ maxLen) (ht : 0 ≤ t ∧ t ≤ 1048576) : ∃ r, Ev (fun k => laws_szInt64SS.f k ls t) r ∧ (0 ≤ r → ls.length ≤ 1048576 ∧ totL ls ≤ 1048576) := by
  unfold laws_szInt64SS.f
  have hl' := hl
  unfold maxLen at hl'
  rw [wid (by omega)]
  by_cases h : t - (ls.length : Int) < 0
  · exact ⟨-1, Ev.pos h (Ev.now _), fun h => by omega⟩
  · obtain ⟨r, X, g1, g2⟩ := szSS_l0 ls [] (t - ls.length) hr (by omega) (by simp; omega)
    exact ⟨r, Ev.neg h X, fun h => by have := g2 h; omega⟩
theorem totL_mem (rs : List (List Int)) : ∀ r ∈ rs, r.length ≤ totL rs := by
  induction rs with
  | nil => intro r hr; cases hr
  | cons x rs ih =>
    intro r hr
    simp only [totL]
    rcases List.mem_cons.1 hr with rfl | hr
    · omega
    · have := ih r hr; omega
theorem toSS_l0 (rs : List (List Int)) : ∀ (p : List (List Int)), (∀ r ∈ rs, r.length ≤ 35184372088832) → p.length + rs.length ≤ 9000000000000000000 → Ev (fun k => laws_toInt64SS.l0 k (p ++ rs) (p ++ List.replicate rs.length []) p.length) (p ++ rs) := by
  induction rs with
  | nil =>
    intro p hr h2
    refine Ev.shift ?_
    simp only [laws_toInt64SS.l0, List.append_nil, List.length_nil, List.replicate_zero]
    exact Ev.neg (by omega) (Ev.now _)
  | cons r rs ih =>
    intro p hr h2
    simp only [List.length_cons] at h2
    have w1 : wrap64 ((p.length : Int) + 1) = ((p.length + 1 : Nat) : Int) := by rw [wid (by omega)]; rfl
    have ih' := ih (p ++ [r]) (fun x hx => hr x (List.mem_cons_of_mem _ hx)) (by rw [List.length_append]; simp only [List.length_cons, List.length_nil]; omega)
    rw [show (p ++ [r]).length = p.length + 1 by simp, ← snoc_mid, ← snoc_mid] at ih'
    refine Ev.shift ?_
    simp only [laws_toInt64SS.l0, rd_L5, Int.toNat_natCast, List.length_cons, List.replicate_succ, getD_mid, set_mid, w1, List.length_append]
    exact Ev.pos (by omega) (Ev.pos (by omega) (Ev.bind (toI r (hr r List.mem_cons_self)) (Ev.pos (by rw [List.length_replicate]; omega) ih')))
theorem toSS (ls : List (List Int)) (hr : ∀ r ∈ ls, r.length ≤ 35184372088832) (hl : ls.length ≤ 1048576) : Ev (fun k => laws_toInt64SS.f k ls) ls := by
  unfold laws_toInt64SS.f
  refine Ev.pos (by omega) (Ev.pos (by omega) ?_)
  rw [Int.toNat_natCast]
  exact toSS_l0 ls [] hr (by simp; omega)
def pairQ (l : List S103) (P : List (List Int)) (j : Nat) : Bool := decide ((P.getD j []).length = 2 ∧ (0 ≤ rd (P.getD j []) 0 ∧ rd (P.getD j []) 0 ≤ (l.length : Int) - 1) ∧ (0 ≤ rd (P.getD j []) 1 ∧ rd (P.getD j []) 1 ≤ (l.length : Int) - 1) ∧ rd (P.getD j []) 0 ≠ rd (P.getD j []) 1 ∧ (rd_T103 l (rd (P.getD j []) 0)).f2 = (rd_T103 l (rd (P.getD j []) 1)).f2 ∧ (0 < j → rd (P.getD (j - 1) []) 0 < rd (P.getD j []) 0))
theorem sPairs_l0 (l : List S103) (P : List (List Int)) (hP : P.length ≤ 9000000000000000000) (d : Nat) : ∀ i : Nat, i + d = P.length → (0 < i → (P.getD (i - 1) []).length = 2) → Ev (fun k => spec_l20Pairs.l0 k l P ((l.length : Int) - 1) i) (allF (pairQ l P) P.length i && decide (P.length ≤ 8)) := by
  induction d with
  | zero =>
    intro i h hp
    refine Ev.shift ?_
    simp only [spec_l20Pairs.l0]
    rw [allF_end _ (by omega), Bool.true_and]
    exact Ev.neg (by omega) (Ev.some (by congr 1; rw [decide_eq_decide]; omega))
  | succ d ih =>
    intro i h hp
    have w1 : wrap64 ((i : Int) + 1) = ((i + 1 : Nat) : Int) := by rw [wid (by omega)]; rfl
    have hpr : 0 < i → wrap64 ((i : Int) - 1) = ((i - 1 : Nat) : Int) := fun h0 => by rw [wid (by omega)]; omega
    have no : pairQ l P i = false → allF (pairQ l P) P.length i = false := fun h => allF_no _ (by omega) h
    refine Ev.shift ?_
    simp only [spec_l20Pairs.l0, rd_L5, Int.toNat_natCast, in_eq, Option.bind_some, w1]
    clear w1
    refine Ev.pos (by omega) (Ev.pos (by omega) ?_)
    have ih' := ih (i + 1) (by omega)
    generalize hx : P.getD i [] = x
    by_cases c1 : x.length = 2
    · refine Ev.pos (by omega) (Ev.pos (by omega) ?_)
      by_cases c2 : 0 ≤ rd x 0 ∧ rd x 0 ≤ (l.length : Int) - 1
      · refine Ev.pos (decide_eq_true c2) (Ev.pos (by omega) ?_)
        by_cases c3 : 0 ≤ rd x 1 ∧ rd x 1 ≤ (l.length : Int) - 1
        · refine Ev.pos (decide_eq_true c3) ?_
          by_cases c4 : rd x 0 = rd x 1
          · rw [no (by unfold pairQ; rw [hx]; exact decide_eq_false (fun h => h.2.2.2.1 c4))]
            exact Ev.pos c4 (Ev.now _)
          · refine Ev.neg c4 (Ev.pos (by omega) (Ev.pos (by omega) (Ev.pos (by omega) (Ev.pos (by omega) ?_))))
            by_cases c5 : (rd_T103 l (rd x 0)).f2 = (rd_T103 l (rd x 1)).f2
            · refine Ev.pos c5 ?_
              have ih2 := ih' (fun _ => by rw [Nat.add_sub_cancel, hx]; exact c1)
              by_cases c6 : 0 < i
              · rw [hpr c6]
                have hpl := hp c6
                refine Ev.pos (by omega) (Ev.pos (by omega) (Ev.pos (by omega) ?_))
                rw [Int.toNat_natCast]
                refine Ev.pos (by omega) ?_
                by_cases c7 : rd (P.getD (i - 1) []) 0 ≥ rd x 0
                · rw [no (by unfold pairQ; rw [hx]; exact decide_eq_false (fun h => by have := h.2.2.2.2.2 c6; omega))]
                  exact Ev.pos c7 (Ev.now _)
                · rw [allF_yes _ (show pairQ l P i = true by unfold pairQ; rw [hx]; exact decide_eq_true ⟨c1, c2, c3, c4, c5, fun _ => by omega⟩)]
                  exact Ev.neg c7 ih2
              · rw [allF_yes _ (show pairQ l P i = true by unfold pairQ; rw [hx]; exact decide_eq_true ⟨c1, c2, c3, c4, c5, fun h => absurd h c6⟩)]
                exact Ev.neg (by omega) ih2
            · rw [no (by unfold pairQ; rw [hx]; exact decide_eq_false (fun h => c5 h.2.2.2.2.1))]
              exact Ev.neg c5 (Ev.now _)
        · rw [no (by unfold pairQ; rw [hx]; exact decide_eq_false (fun h => c3 h.2.2.1))]
          exact Ev.neg (by rw [decide_eq_true_iff]; exact c3) (Ev.now _)
      · rw [no (by unfold pairQ; rw [hx]; exact decide_eq_false (fun h => c2 h.2.1))]
        exact Ev.neg (by rw [decide_eq_true_iff]; exact c2) (Ev.now _)
    · rw [no (by unfold pairQ; rw [hx]; exact decide_eq_false (fun h => c1 h.1))]
      exact Ev.neg (by omega) (Ev.now _)
def pairsB (l : List S103) (P : List (List Int)) : Bool := allF (pairQ l P) P.length 0 && decide (P.length ≤ 8)
theorem sPairs (l : List S103) (P : List (List Int)) (hl : l.length ≤ 8796093022208) (hP : P.length ≤ 9000000000000000000) : Ev (fun k => spec_l20Pairs.f k l P) (pairsB l P) := by
  unfold spec_l20Pairs.f
  rw [wid (by omega)]
  exact sPairs_l0 l P hP P.length 0 (by omega) (fun h => by omega)
theorem two_form {x : List Int} (h : x.length = 2) : x = [rd x 0, rd x 1] := by
  match x, h with
  | [a, b], _ => rfl
theorem comp_two (l : List S103) (x : List Int) (h : x.length = 2) (hl : l.length ≤ 8796093022208) : impl_composedOk.f l x = some (decide (0 ≤ rd x 0 ∧ rd x 0 ≤ (l.length : Int) - 1) && decide (0 ≤ rd x 1 ∧ rd x 1 ≤ (l.length : Int) - 1)) := by
  unfold impl_composedOk.f
  rw [if_pos (by omega), wid (by omega), allIn_eq]
  conv => lhs; rw [two_form h]
  simp
theorem iPairs_l0 (l : List S103) (hl : l.length ≤ 8796093022208) (P : List (List Int)) (hP : P.length ≤ 9000000000000000000) (d : Nat) : ∀ i : Nat, i + d = P.length → (0 < i → (P.getD (i - 1) []).length = 2) → Ev (fun k => impl_pairsOk.l0 k l P P (P.length : Int) i) (allF (pairQ l P) P.length i) := by
  induction d with
  | zero =>
    intro i h hp
    refine Ev.shift ?_
    simp only [impl_pairsOk.l0]
    rw [allF_end _ (by omega)]
    exact Ev.neg (by omega) (Ev.now _)
  | succ d ih =>
    intro i h hp
    have w1 : wrap64 ((i : Int) + 1) = ((i + 1 : Nat) : Int) := by rw [wid (by omega)]; rfl
    have hpr : 0 < i → wrap64 ((i : Int) - 1) = ((i - 1 : Nat) : Int) := fun h0 => by rw [wid (by omega)]; omega
    have no : pairQ l P i = false → allF (pairQ l P) P.length i = false := fun h => allF_no _ (by omega) h
    refine Ev.shift ?_
    simp only [impl_pairsOk.l0, rd_L5, Int.toNat_natCast, w1]
    clear w1
    refine Ev.pos (by omega) (Ev.pos (by omega) (Ev.pos (by omega) ?_))
    have ih' := ih (i + 1) (by omega)
    generalize hx : P.getD i [] = x
    by_cases c1 : x.length = 2
    · refine Ev.pos (by omega) ?_
      rw [comp_two l x c1 hl]
      simp only [Option.bind_some]
      by_cases c2 : 0 ≤ rd x 0 ∧ rd x 0 ≤ (l.length : Int) - 1
      · by_cases c3 : 0 ≤ rd x 1 ∧ rd x 1 ≤ (l.length : Int) - 1
        · refine Ev.pos (by rw [decide_eq_true c2, decide_eq_true c3]; rfl) (Ev.pos (by omega) (Ev.pos (by omega) ?_))
          by_cases c4 : rd x 0 = rd x 1
          · rw [no (by unfold pairQ; rw [hx]; exact decide_eq_false (fun h => h.2.2.2.1 c4))]
            exact Ev.pos c4 (Ev.now _)
          · refine Ev.neg c4 (Ev.pos (by omega) (Ev.pos (by omega) (Ev.pos (by omega) (Ev.pos (by omega) ?_))))
            by_cases c5 : (rd_T103 l (rd x 0)).f2 = (rd_T103 l (rd x 1)).f2
            · refine Ev.pos c5 ?_
              have ih2 := ih' (fun _ => by rw [Nat.add_sub_cancel, hx]; exact c1)
              by_cases c6 : 0 < i
              · rw [hpr c6]
                have hpl := hp c6
                refine Ev.pos (by omega) (Ev.pos (by omega) (Ev.pos (by omega) ?_))
                rw [Int.toNat_natCast]
                refine Ev.pos (by omega) ?_
                by_cases c7 : rd x 0 ≤ rd (P.getD (i - 1) []) 0
                · rw [no (by unfold pairQ; rw [hx]; exact decide_eq_false (fun h => by have := h.2.2.2.2.2 c6; omega))]
                  exact Ev.pos c7 (Ev.now _)
                · rw [allF_yes _ (show pairQ l P i = true by unfold pairQ; rw [hx]; exact decide_eq_true ⟨c1, c2, c3, c4, c5, fun _ => by omega⟩)]
                  exact Ev.neg c7 ih2
              · rw [allF_yes _ (show pairQ l P i = true by unfold pairQ; rw [hx]; exact decide_eq_true ⟨c1, c2, c3, c4, c5, fun h => absurd h c6⟩)]
                exact Ev.neg (by omega) ih2
            · rw [no (by unfold pairQ; rw [hx]; exact decide_eq_false (fun h => c5 h.2.2.2.2.1))]
              exact Ev.neg c5 (Ev.now _)
        · rw [no (by unfold pairQ; rw [hx]; exact decide_eq_false (fun h => c3 h.2.2.1))]
          exact Ev.neg (by rw [decide_eq_false c3, Bool.and_false]; decide) (Ev.now _)
      · rw [no (by unfold pairQ; rw [hx]; exact decide_eq_false (fun h => c2 h.2.1))]
        exact Ev.neg (by rw [decide_eq_false c2, Bool.false_and]; decide) (Ev.now _)
    · rw [no (by unfold pairQ; rw [hx]; exact decide_eq_false (fun h => c1 h.1))]
      exact Ev.neg (by omega) (Ev.now _)
theorem iPairs (l : List S103) (P : List (List Int)) (hl : l.length ≤ 8796093022208) (hP : P.length ≤ 9000000000000000000) : Ev (fun k => impl_pairsOk.f k l P) (pairsB l P) := by
  unfold impl_pairsOk.f pairsB
  by_cases c : P.length ≤ 8
  · rw [decide_eq_true c, Bool.and_true]
    exact Ev.neg (by omega) (iPairs_l0 l hl P hP P.length 0 (by omega) (fun h => by omega))
  · rw [decide_eq_false c, Bool.and_false]
    exact Ev.pos (by omega) (Ev.now _)
theorem pairsB_two {l : List S103} {P : List (List Int)} (h : pairsB l P = true) : P.length ≤ 8 ∧ ∀ r ∈ P, r.length = 2 := by
  unfold pairsB at h
  rw [Bool.and_eq_true, decide_eq_true_iff, allF_iff] at h
  refine ⟨h.2, fun r hr => ?_⟩
  obtain ⟨j, hj, rfl⟩ := List.getElem_of_mem hr
  have := h.1 j hj (Nat.zero_le _)
  unfold pairQ at this
  rw [decide_eq_true_iff, List.getD_eq_getElem?_getD, List.getElem?_eq_getElem hj] at this
  exact this.1
def clo : List (List Int) → Int → Int → Int
  | [], _, acc => acc
  | p :: ps, v, acc => clo ps v (if v = rd p 0 then rd p 1 else acc)
theorem mid_get (q ts : List Int) (v : Int) : (q ++ v :: ts).getD q.length 0 = v := by
  rw [List.getD_eq_getElem?_getD, List.getElem?_append_right (Nat.le_refl _), Nat.sub_self]; rfl
theorem mid_set (q ts : List Int) (v z : Int) : (q ++ v :: ts).set q.length z = q ++ z :: ts := by
  rw [List.set_append_right _ _ (Nat.le_refl _), Nat.sub_self]; rfl
theorem row_mid (p : List (List Int)) (r : List Int) (rs : List (List Int)) : (p ++ r :: rs).getD p.length [] = r := by
  rw [List.getD_eq_getElem?_getD, List.getElem?_append_right (Nat.le_refl _), Nat.sub_self]; rfl
theorem clo_in (t : List Int) (i : Nat) (v : Int) (hi : i < t.length) (hv : t.getD i 0 = v) (ht : t.length ≤ 9000000000000000000) (q ts : List Int) (hq : q.length = i) (hP : List (List Int)) (hP8 : hP.length ≤ 9000000000000000000) (rs : List (List Int)) : ∀ (p : List (List Int)) (acc : Int), p ++ rs = hP → (∀ r ∈ rs, r.length = 2) →
    (∀ R, Ev (fun k => spec_l20Closed.l0 k t hP (q ++ clo rs v acc :: ts) ((i + 1 : Nat) : Int)) R → Ev (fun k => spec_l20Closed.l1 k t hP (q ++ acc :: ts) (i : Int) p.length) R) ∧
    (∀ R, Ev (fun k => impl_closed.l0 k hP (q ++ clo rs v acc :: ts) t (t.length : Int) ((i + 1 : Nat) : Int)) R → Ev (fun k => impl_closed.l1 k hP (q ++ acc :: ts) (i : Int) v t (t.length : Int) (i : Int) hP (hP.length : Int) p.length) R) := by
  have w0 : wrap64 ((i : Int) + 1) = ((i + 1 : Nat) : Int) := by rw [wid (by omega)]; rfl
  induction rs with
  | nil =>
    intro p acc hp hr
    rw [List.append_nil] at hp
    subst hp
    refine ⟨fun R hR => Ev.shift ?_, fun R hR => Ev.shift ?_⟩
    · simp only [spec_l20Closed.l1, w0]
      exact Ev.neg (by omega) hR
    · simp only [impl_closed.l1, w0]
      exact Ev.neg (by omega) hR
  | cons r rs ih =>
    intro p acc hp hr
    have hl : p.length < hP.length := by rw [← hp, List.length_append, List.length_cons]; omega
    have hg : hP.getD p.length [] = r := by rw [← hp]; exact row_mid p r rs
    have h2 : r.length = 2 := hr r List.mem_cons_self
    have w1 : wrap64 ((p.length : Int) + 1) = ((p.length + 1 : Nat) : Int) := by rw [wid (by omega)]; rfl
    have lq : (q ++ acc :: ts).length = i + 1 + ts.length := by rw [List.length_append, List.length_cons]; omega
    obtain ⟨g1, g2⟩ := ih (p ++ [r]) (if v = rd r 0 then rd r 1 else acc) (by rw [← hp]; simp) (fun x hx => hr x (List.mem_cons_of_mem _ hx))
    rw [show (p ++ [r]).length = p.length + 1 by simp] at g1 g2
    have hset : (q ++ acc :: ts).set i (rd r 1) = q ++ rd r 1 :: ts := by rw [← hq]; exact mid_set q ts acc _
    refine ⟨fun R hR => Ev.shift ?_, fun R hR => Ev.shift ?_⟩
    · have k1 := g1 R hR
      simp only [spec_l20Closed.l1, rd_L5, rd_nat, Int.toNat_natCast, hg, hv, w1]
      clear w0 w1 g1 g2 ih
      refine Ev.pos (by omega) (Ev.pos (by omega) (Ev.pos (by omega) (Ev.pos (by omega) (Ev.pos (by omega) ?_))))
      by_cases c : v = rd r 0
      · rw [if_pos c] at k1
        rw [hset]
        exact Ev.pos c (Ev.pos (by omega) (Ev.pos (by omega) k1))
      · rw [if_neg c] at k1
        exact Ev.neg c k1
    · have k2 := g2 R hR
      simp only [impl_closed.l1, rd_L5, rd_nat, Int.toNat_natCast, hg, w1]
      clear w0 w1 g1 g2 ih
      refine Ev.pos (by omega) (Ev.pos (by omega) (Ev.pos (by omega) (Ev.pos (by omega) ?_)))
      by_cases c : v = rd r 0
      · rw [if_pos c] at k2
        rw [hset]
        exact Ev.pos c.symm (Ev.pos (by omega) (Ev.pos (by omega) (Ev.pos (by omega) k2)))
      · rw [if_neg c] at k2
        exact Ev.neg (fun e => c e.symm) k2
theorem clo_out (P : List (List Int)) (hP8 : P.length ≤ 9000000000000000000) (hr : ∀ r ∈ P, r.length = 2) (t : List Int) (ht : t.length ≤ 9000000000000000000) (ts : List Int) : ∀ (q : List Int), q ++ ts = t →
    Ev (fun k => spec_l20Closed.l0 k t P (q.map (fun v => clo P v v) ++ ts) q.length) (t.map fun v => clo P v v) ∧ Ev (fun k => impl_closed.l0 k P (q.map (fun v => clo P v v) ++ ts) t (t.length : Int) q.length) (t.map fun v => clo P v v) := by
  induction ts with
  | nil =>
    intro q hq
    rw [List.append_nil] at hq
    subst hq
    refine ⟨Ev.shift ?_, Ev.shift ?_⟩
    · simp only [spec_l20Closed.l0, List.append_nil, List.length_map]
      exact Ev.neg (by omega) (Ev.now _)
    · simp only [impl_closed.l0, List.append_nil]
      exact Ev.neg (by omega) (Ev.now _)
  | cons v ts ih =>
    intro q hq
    have hl : q.length < t.length := by rw [← hq, List.length_append, List.length_cons]; omega
    have hv : t.getD q.length 0 = v := by rw [← hq]; exact mid_get q ts v
    obtain ⟨g1, g2⟩ := ih (q ++ [v]) (by rw [← hq]; simp)
    rw [show (q ++ [v]).length = q.length + 1 by simp, show (q ++ [v]).map (fun v => clo P v v) ++ ts = q.map (fun v => clo P v v) ++ clo P v v :: ts by simp] at g1 g2
    obtain ⟨k1, k2⟩ := clo_in t q.length v hl hv ht (q.map fun v => clo P v v) ts (List.length_map ..) P hP8 P [] v rfl hr
    refine ⟨Ev.shift ?_, Ev.shift ?_⟩
    · simp only [spec_l20Closed.l0, List.length_append, List.length_map, List.length_cons]
      exact Ev.pos (by omega) (k1 _ g1)
    · simp only [impl_closed.l0, rd_nat, hv]
      exact Ev.pos (by omega) (Ev.pos (by omega) (Ev.pos (by omega) (k2 _ g2)))
def cloR (t : List Int) (P : List (List Int)) : List Int := t.map fun v => clo P v v
theorem sClosed (t : List Int) (P : List (List Int)) (ht : t.length ≤ 1000) (hP8 : P.length ≤ 9000000000000000000) (hr : ∀ r ∈ P, r.length = 2) : Ev (fun k => spec_l20Closed.f k t P) (cloR t P) := by
  have hown : spec_l00Own.f t = some t := by
    unfold spec_l00Own.f
    simp only [Option.bind_some, List.nil_append, List.length_nil, Nat.zero_add]
    rw [if_pos (by omega)]
  unfold spec_l20Closed.f
  rw [hown]
  exact (clo_out P hP8 hr t (by omega) t [] rfl).1
theorem iClosed (t : List Int) (P : List (List Int)) (ht : t.length ≤ 1000) (hP8 : P.length ≤ 9000000000000000000) (hr : ∀ r ∈ P, r.length = 2) : Ev (fun k => impl_closed.f k t P) (cloR t P) := by
  unfold impl_closed.f slices_Clone_int64_int64.f
  rw [if_pos (by omega)]
  exact (clo_out P hP8 hr t (by omega) t [] rfl).2
def cfR (l : List S103) (t : List Int) (P : List (List Int)) : List Int × Int := if thCode l t 1 = 0 then (if pairsB l P = true then (cloR t P, 0) else ([], 7)) else ([], thCode l t 1)
theorem cfI (l : List S103) (t : List Int) (P : List (List Int)) (hl : l.length ≤ 8796093022208) (hP : P.length ≤ 9000000000000000000) : Ev (fun k => impl_ClosedForm.f k l t P) (cfR l t P) := by
  unfold impl_ClosedForm.f cfR
  refine Ev.bind (iTheme l t 1 hl) ?_
  by_cases h : thCode l t 1 = 0
  · have h1 := (thCode_len h).1
    refine Ev.pos h (Ev.bind (iPairs l P hl hP) ?_)
    rw [if_pos h]
    by_cases h2 : pairsB l P = true
    · obtain ⟨h3, h4⟩ := pairsB_two h2
      refine Ev.pos h2 ?_
      rw [if_pos h2]
      exact Ev.bind (iClosed t P (by omega) hP h4) (Ev.now _)
    · refine Ev.neg h2 ?_
      rw [if_neg h2]
      exact Ev.now _
  · refine Ev.neg h ?_
    rw [if_neg h]
    exact Ev.now _
theorem cfR_len (l : List S103) (t : List Int) (P : List (List Int)) : (cfR l t P).1.length ≤ 32 := by
  unfold cfR
  split
  · rename_i h
    obtain ⟨h1, _⟩ := thCode_len h
    split
    · show (cloR t P).length ≤ 32
      unfold cloR
      rw [List.length_map]; omega
    · simp
  · simp
theorem cfS (l : List S103) (t : List Int) (P : List (List Int)) (hl : l.length ≤ 8796093022208) (ht : t.length ≤ 35184372088832) (hP : P.length ≤ 9000000000000000000) : Ev (fun k => spec_ClosedForm.f k l t P) (cfR l t P) := by
  unfold spec_ClosedForm.f cfR
  refine Ev.bind (sAsk l t hl ht) ?_
  by_cases h : thCode l t 1 = 0
  · have h1 := (thCode_len h).1
    rw [if_pos h]
    refine Ev.pos h (Ev.bind (sPairs l P hl hP) ?_)
    by_cases h2 : pairsB l P = true
    · obtain ⟨h3, h4⟩ := pairsB_two h2
      rw [if_pos h2, h2]
      refine Ev.shift ?_
      simp only [spec_ClosedForm.j0]
      exact Ev.neg (by decide) (Ev.pos h (Ev.bind (sClosed t P (by omega) hP h4) (Ev.now _)))
    · rw [if_neg h2, Bool.eq_false_iff.2 h2]
      refine Ev.shift ?_
      simp only [spec_ClosedForm.j0]
      exact Ev.pos (by decide) (Ev.neg (by decide) (Ev.now _))
  · rw [if_neg h]
    refine Ev.neg h (Ev.shift ?_)
    simp only [spec_ClosedForm.j0]
    exact Ev.neg (by decide) (Ev.neg h (Ev.now _))
theorem FnExactClosedForm : laws_FnExactClosedForm.Pure := by
  intro l t P hm hm2 hm3
  refine Ev.rounds (g := fun k => laws_FnExactClosedForm.f k l t P) ?_
  unfold laws_FnExactClosedForm.f
  by_cases ht : (t.length : Int) > 1048576
  · exact Ev.pos ht (Ev.now _)
  refine Ev.neg ht ?_
  obtain ⟨s, hz, hs9, hb⟩ := szSyllable2 l hm.1 (fun z hz => (hm.2 z hz).1)
  refine Ev.bind hz ?_
  by_cases h0 : s < 0
  · exact Ev.pos h0 (Ev.now _)
  refine Ev.neg h0 ?_
  have hl := hb (by omega)
  obtain ⟨s2, hz2, hb2⟩ := szSS P s hm3.1 (fun z hz => (hm3.2 z hz).1) (by omega)
  refine Ev.bind hz2 ?_
  by_cases h02 : s2 < 0
  · exact Ev.pos h02 (Ev.now _)
  refine Ev.neg h02 ?_
  have hP := hb2 (by omega)
  have hPm := totL_mem P
  have hl' : l.length ≤ 8796093022208 := by omega
  have ht' : t.length ≤ 35184372088832 := by omega
  have hc : (cpSyllable l).length ≤ 8796093022208 := by rw [cpSyllable_length]; exact hl'
  have hcl : (cpSyllable l).length = l.length := cpSyllable_length l
  have hS := cfS (cpSyllable l) t P hc ht' (by omega)
  have hI := cfI (cpSyllable l) t P hc (by omega)
  have hr0 := cfR_len (cpSyllable l) t P
  generalize cfR (cpSyllable l) t P = R at hS hI hr0
  obtain ⟨r, c⟩ := R
  have hr : r.length ≤ 35184372088832 := by simp only at hr0; omega
  obtain ⟨l', hms⟩ := markSyl (cpSyllable l) 1 (by omega) (by omega)
  have hmt := markI t (1 + 3 * (cpSyllable l).length) (by omega) (by omega)
  have hmP := markSS P (1 + 3 * (cpSyllable l).length + t.length) (by omega) (by omega) (by omega)
  have hmk := markI r 1 (by omega) (by omega)
  have hhl := heldI r.length 1 (by omega) (by omega)
  have hto := toSS P (fun x hx => by have := hPm x hx; omega) (by omega)
  have heq := eqSS P (fun x hx => by have := hPm x hx; omega) (by omega)
  repeat (first | exact Ev.now _ | refine Ev.bind hS ?_ | refine Ev.bind hI ?_ | refine Ev.bind (toSyllable l hl') ?_ | refine Ev.bind (eqSyllable _ hc) ?_ | refine Ev.bind (toI _ (by assumption)) ?_ | refine Ev.bind (eqI _ (by assumption)) ?_ | refine Ev.bind hto ?_ | refine Ev.bind heq ?_ | refine Ev.bind hms ?_ | refine Ev.bind hmt ?_ | refine Ev.bind hmP ?_ | refine Ev.bind hmk ?_ | refine Ev.bind hhl ?_ | refine Ev.pos (by with_reducible rfl) ?_ | refine Ev.neg (by omega) ?_ | refine Ev.neg (by simp; done) ?_ | refine Ev.pos (by omega) ?_ | (refine Ev.shift ?_; simp only [laws_FnExactClosedForm.j0, laws_FnExactClosedForm.j1, laws_FnExactClosedForm.j2]))

end Go.Proofs.Ytfledgccnaknpaa.Pure
