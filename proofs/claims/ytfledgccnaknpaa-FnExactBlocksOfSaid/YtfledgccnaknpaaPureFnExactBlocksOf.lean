/- The pure statement of the law FnExactBlocksOf: what the Go functions compute, told by plain Lean functions, is what the law asks, for all arguments. No condition beyond the printed ones. -/
import Derived.Test.YtfledgccnaknpaaPFnExactBlocksOfxo
import Derived.Test.YtfledgccnaknpaaXW
namespace Go.Proofs.Ytfledgccnaknpaa.Pure
open Go.RowKit Go.Proofs.Ytfledgccnaknpaa.PFnExactBlocksOf Go.Proofs.YtfledgccnaknpaaW.PrintWords Go.Proofs.YtfledgccnaknpaaW.PrintLast Go.Proofs.YtfledgccnaknpaaW.PrintMore Go.Proofs.YtfledgccnaknpaaXW
set_option linter.unusedVariables false
set_option linter.unusedSimpArgs false
theorem toI_l0 (l : List Int) (hl : l.length ≤ 35184372088832) (d : Nat) : ∀ (i : Nat) (acc : List Int), i + d = l.length → acc.length = l.length → acc.take i = l.take i → Ev (fun k => laws_toInt64S.l0 k l acc i) l := by
  induction d with
  | zero =>
    intro i acc h1 h2 h3
    refine Ev.shift ?_
    simp only [laws_toInt64S.l0]
    refine Ev.neg (by omega) ?_
    refine Ev.some ?_
    rw [List.take_of_length_le (by omega), List.take_of_length_le (by omega)] at h3
    rw [h3]
  | succ d ih =>
    intro i acc h1 h2 h3
    refine Ev.shift ?_
    simp only [laws_toInt64S.l0]
    refine Ev.pos (by omega) (Ev.pos (by omega) (Ev.pos (by omega) ?_))
    rw [wid (by omega), rd_get l i (by omega), Int.toNat_natCast]
    refine ih (i + 1) (acc.set i l[i]) (by omega) (by rw [List.length_set, h2]) ?_
    rw [List.take_succ_eq_append_getElem (by rw [List.length_set]; omega), List.take_succ_eq_append_getElem (by omega), List.take_set_of_le (by omega), List.getElem_set_self, h3]
theorem toI (l : List Int) (hl : l.length ≤ 35184372088832) : Ev (fun k => laws_toInt64S.f k l) l := by
  unfold laws_toInt64S.f
  refine Ev.pos (by omega) (Ev.pos (by omega) ?_)
  rw [Int.toNat_natCast]
  exact toI_l0 l hl l.length 0 _ (by omega) (by simp) (by simp)
theorem eqI_l0 (l : List Int) (hl : l.length ≤ 35184372088832) (d : Nat) : ∀ (i : Nat), i + d = l.length → Ev (fun k => laws_eqInt64S.l0 k l l i) true := by
  induction d with
  | zero =>
    intro i h1
    refine Ev.shift ?_
    simp only [laws_eqInt64S.l0]
    exact Ev.neg (by omega) (Ev.now _)
  | succ d ih =>
    intro i h1
    refine Ev.shift ?_
    simp only [laws_eqInt64S.l0]
    refine Ev.pos (by omega) (Ev.pos (by omega) (Ev.pos (by omega) (Ev.pos (by trivial) ?_)))
    rw [wid (by omega)]
    exact ih (i + 1) (by omega)
theorem eqI (l : List Int) (hl : l.length ≤ 35184372088832) : Ev (fun k => laws_eqInt64S.f k l l) true := by
  unfold laws_eqInt64S.f
  exact Ev.pos rfl (eqI_l0 l hl l.length 0 (by omega))
/-- what marks leave: from m on, one by one -/
def marks (m : Int) : Nat → List Int
  | 0 => []
  | n + 1 => m :: marks (m + 1) n
theorem marks_length (n : Nat) : ∀ m, (marks m n).length = n := by
  induction n with
  | zero => intro m; rfl
  | succ n ih => intro m; simp [marks, ih]
theorem marks_get (n : Nat) : ∀ (m : Int) (i : Nat) (h : i < (marks m n).length), (marks m n)[i] = m + i := by
  induction n with
  | zero => intro m i h; simp [marks] at h
  | succ n ih =>
    intro m i h
    cases i with
    | zero => simp [marks]
    | succ i => simp only [marks, List.getElem_cons_succ]; rw [ih]; omega
theorem marks_snoc (n : Nat) : ∀ m, marks m (n + 1) = marks m n ++ [m + n] := by
  induction n with
  | zero => intro m; simp [marks]
  | succ n ih =>
    intro m
    rw [marks, ih, marks, List.cons_append]
    congr 3
    simp; omega
theorem markI_l0 (m0 : Int) (n : Nat) (h0 : 0 ≤ m0) (h1 : m0 + n ≤ 9000000000000000000) (d : Nat) : ∀ (i : Nat) (acc : List Int), i + d = n → acc.length = n → acc.take i = marks m0 i → Ev (fun k => laws_markInt64S.l0 k acc (m0 + i) i) (m0 + n, marks m0 n) := by
  induction d with
  | zero =>
    intro i acc h2 h3 h4
    refine Ev.shift ?_
    simp only [laws_markInt64S.l0]
    refine Ev.neg (by omega) (Ev.some ?_)
    rw [List.take_of_length_le (by omega)] at h4
    rw [h4, show i = n by omega]
  | succ d ih =>
    intro i acc h2 h3 h4
    refine Ev.shift ?_
    simp only [laws_markInt64S.l0]
    refine Ev.pos (by omega) (Ev.pos (by omega) ?_)
    rw [wid (x := m0 + i + 1) (by omega), wid (x := (i : Int) + 1) (by omega), Int.toNat_natCast, show m0 + (i : Int) + 1 = m0 + ((i + 1 : Nat) : Int) by omega]
    refine ih (i + 1) _ (by omega) (by rw [List.length_set, h3]) ?_
    rw [List.take_succ_eq_append_getElem (by rw [List.length_set]; omega), List.take_set_of_le (by omega), List.getElem_set_self, h4, marks_snoc]
theorem markI (l : List Int) (m : Int) (h0 : 0 ≤ m) (h1 : m + l.length ≤ 9000000000000000000) : Ev (fun k => laws_markInt64S.f k l m) (m + l.length, marks m l.length) := by
  unfold laws_markInt64S.f
  have := markI_l0 m l.length h0 h1 l.length 0 l (by omega) rfl (by simp [marks])
  simpa using this
theorem heldI_l0 (m0 : Int) (n : Nat) (h0 : 0 ≤ m0) (h1 : m0 + n ≤ 9000000000000000000) (d : Nat) : ∀ (i : Nat), i + d = n → Ev (fun k => laws_heldInt64S.l0 k (marks m0 n) (m0 + i) i) (m0 + n) := by
  induction d with
  | zero =>
    intro i h2
    refine Ev.shift ?_
    simp only [laws_heldInt64S.l0, marks_length]
    exact Ev.neg (by omega) (Ev.some (by rw [show i = n by omega]))
  | succ d ih =>
    intro i h2
    refine Ev.shift ?_
    simp only [laws_heldInt64S.l0, marks_length]
    refine Ev.pos (by omega) (Ev.pos (by omega) (Ev.pos (by rw [rd_get _ _ (by rw [marks_length]; omega), marks_get]) ?_))
    rw [wid (x := m0 + i + 1) (by omega), wid (x := (i : Int) + 1) (by omega), show m0 + (i : Int) + 1 = m0 + ((i + 1 : Nat) : Int) by omega]
    exact ih (i + 1) (by omega)
theorem heldI (n : Nat) (m : Int) (h0 : 0 ≤ m) (h1 : m + n ≤ 9000000000000000000) : Ev (fun k => laws_heldInt64S.f k (marks m n) m) (m + n) := by
  unfold laws_heldInt64S.f
  have := heldI_l0 m n h0 h1 n 0 (by omega)
  simpa using this
def risQ (l : List Int) (lo hi : Int) (j : Nat) : Bool := decide (lo ≤ l.getD j 0 ∧ l.getD j 0 ≤ hi) && (decide (j = 0) || decide (l.getD (j - 1) 0 < l.getD j 0))
theorem in_eq (a b c : Int) : spec_l00In.f a b c = some (decide (b ≤ a ∧ a ≤ c)) := by
  unfold spec_l00In.f; split <;> simp_all; omega
theorem within_eq (a b c : Int) : impl_within.f a b c = some (decide (b ≤ a ∧ a ≤ c)) := by
  unfold impl_within.f; split <;> simp_all; omega
theorem allIn_eq (l : List Int) (a b : Int) : impl_allWithin.f l a b = some (l.all fun x => decide (a ≤ x ∧ x ≤ b)) := by
  unfold impl_allWithin.f
  rw [List.not_any_eq_all_not]
  congr 2
  funext x
  simp [allP]
def cpSyllable (l : List S101) : List S103 := l.map fun x => ⟨x.f0, x.f1, x.f2⟩
theorem cpSyllable_length (l : List S101) : (cpSyllable l).length = l.length := List.length_map _
theorem toSyllable_l0 (l : List S101) (hl : l.length ≤ 8796093022208) (d : Nat) : ∀ (i : Nat) (acc : List S103), i + d = l.length → acc.length = l.length → acc.take i = (cpSyllable l).take i → Ev (fun k => laws_toSyllableS.l0 k l acc i) (cpSyllable l) := by
  have hc : (cpSyllable l).length = l.length := List.length_map _
  induction d with
  | zero =>
    intro i acc h1 h2 h3
    refine Ev.shift ?_
    simp only [laws_toSyllableS.l0]
    refine Ev.neg (by omega) (Ev.some ?_)
    rw [List.take_of_length_le (by omega), List.take_of_length_le (by omega)] at h3
    rw [h3]
  | succ d ih =>
    intro i acc h1 h2 h3
    refine Ev.shift ?_
    simp only [laws_toSyllableS.l0, laws_toSyllable.f, Option.bind_some]
    refine Ev.pos (by omega) (Ev.pos (by omega) (Ev.pos (by omega) ?_))
    rw [wid (by omega), Int.toNat_natCast]
    refine ih (i + 1) _ (by omega) (by rw [List.length_set, h2]) ?_
    rw [List.take_succ_eq_append_getElem (by rw [List.length_set]; omega), List.take_succ_eq_append_getElem (by omega), List.take_set_of_le (by omega), List.getElem_set_self, h3]
    have e : rd_T101 l (i : Int) = l[i] := by
      unfold rd_T101
      rw [Int.toNat_natCast, List.getD_eq_getElem?_getD, List.getElem?_eq_getElem (by omega), Option.getD_some]
    simp only [cpSyllable, List.getElem_map, e]
theorem toSyllable (l : List S101) (hl : l.length ≤ 8796093022208) : Ev (fun k => laws_toSyllableS.f k l) (cpSyllable l) := by
  unfold laws_toSyllableS.f
  refine Ev.pos (by omega) (Ev.pos (by omega) ?_)
  rw [Int.toNat_natCast]
  exact toSyllable_l0 l hl l.length 0 _ (by omega) (by simp) (by simp)
theorem eqSyllable_l0 (l : List S103) (hl : l.length ≤ 8796093022208) (d : Nat) : ∀ (i : Nat), i + d = l.length → Ev (fun k => laws_eqSyllableS.l0 k l l i) true := by
  induction d with
  | zero =>
    intro i h1
    refine Ev.shift ?_
    simp only [laws_eqSyllableS.l0]
    exact Ev.neg (by omega) (Ev.now _)
  | succ d ih =>
    intro i h1
    refine Ev.shift ?_
    simp only [laws_eqSyllableS.l0, laws_eqSyllable.f, Option.bind_some, if_true]
    refine Ev.pos (by omega) (Ev.pos (by omega) (Ev.pos (by omega) ?_))
    rw [wid (by omega)]
    exact ih (i + 1) (by omega)
theorem eqSyllable (l : List S103) (hl : l.length ≤ 8796093022208) : Ev (fun k => laws_eqSyllableS.f k l l) true := by
  unfold laws_eqSyllableS.f
  exact Ev.pos rfl (eqSyllable_l0 l hl l.length 0 (by omega))
theorem szSyllable_l0 (l : List S101) (hl : l.length ≤ 1048576) (hm : ∀ z ∈ l, z.f0.size ≤ maxLen) (d : Nat) : ∀ (i : Nat) (t : Int), i + d = l.length → 0 ≤ t ∧ t ≤ 1048576 → ∃ r, Ev (fun k => laws_szSyllableS.l0 k l t i) r := by
  induction d with
  | zero =>
    intro i t h1 ht
    refine ⟨t, Ev.shift ?_⟩
    simp only [laws_szSyllableS.l0]
    exact Ev.neg (by omega) (Ev.now _)
  | succ d ih =>
    intro i t h1 ht
    have e : rd_T101 l (i : Int) ∈ l := by
      unfold rd_T101
      rw [Int.toNat_natCast, List.getD_eq_getElem?_getD, List.getElem?_eq_getElem (by omega), Option.getD_some]
      exact List.getElem_mem _
    have hz := hm _ e
    unfold maxLen at hz
    have w1 : wrap64 ((i : Int) + 1) = ((i + 1 : Nat) : Int) := by rw [wid (by omega)]; rfl
    by_cases c : t - ((rd_T101 l (i : Int)).f0.size : Int) < 0
    · refine ⟨-1, Ev.shift ?_⟩
      simp only [laws_szSyllableS.l0, laws_szSyllable.f]
      rw [wid (x := t - _) (by omega), if_pos c]
      simp only [Option.bind_some]
      exact Ev.pos (by omega) (Ev.pos (by omega) (Ev.pos (by omega) (Ev.now _)))
    · obtain ⟨r, hr⟩ := ih (i + 1) (t - ((rd_T101 l (i : Int)).f0.size : Int)) (by omega) (by omega)
      refine ⟨r, Ev.shift ?_⟩
      simp only [laws_szSyllableS.l0, laws_szSyllable.f, w1]
      rw [wid (x := t - _) (by omega), if_neg c]
      simp only [Option.bind_some]
      exact Ev.pos (by omega) (Ev.pos (by omega) (Ev.neg c hr))
theorem szSyllable (l : List S101) (hl : l.length ≤ maxLen) (hm : ∀ z ∈ l, z.f0.size ≤ maxLen) : ∃ r, Ev (fun k => laws_szSyllableS.f k l 1048576) r ∧ (0 ≤ r → l.length ≤ 1048576) := by
  unfold laws_szSyllableS.f
  unfold maxLen at hl
  rw [wid (by omega)]
  by_cases h : l.length ≤ 1048576
  · obtain ⟨r, hr⟩ := szSyllable_l0 l h hm l.length 0 (1048576 - (l.length : Int)) (by omega) (by omega)
    exact ⟨r, Ev.neg (by omega) hr, fun _ => h⟩
  · exact ⟨-1, Ev.pos (by omega) (Ev.now _), fun h => by omega⟩
def chQ (s : ByteArray) (j : Nat) : Bool := decide (97 ≤ bt s j ∧ bt s j ≤ 122) || decide (48 ≤ bt s j ∧ bt s j ≤ 57)
def nameB (s : ByteArray) : Bool := decide (1 ≤ s.size ∧ s.size ≤ 10) && (decide (97 ≤ bt s 0 ∧ bt s 0 ≤ 122) && allF (chQ s) s.size 0)
theorem small_eq (a : Int) : spec_l01Small.f a = some (decide (97 ≤ a ∧ a ≤ 122)) := by
  unfold spec_l01Small.f; split <;> simp_all; omega
theorem digit_eq (a : Int) : spec_l01Digit.f a = some (decide (48 ≤ a ∧ a ≤ 57)) := by
  unfold spec_l01Digit.f; split <;> simp_all; omega
theorem sName_l0 (s : ByteArray) (hs : s.size ≤ 10) (d : Nat) : ∀ (i : Nat), i + d = s.size → Ev (fun k => spec_l01Name.l0 k s i) (allF (chQ s) s.size i) := by
  induction d with
  | zero =>
    intro i h1
    refine Ev.shift ?_
    simp only [spec_l01Name.l0]
    exact Ev.neg (by omega) (Ev.some (by rw [allF_end _ (by omega)]))
  | succ d ih =>
    intro i h1
    have w1 : wrap64 ((i : Int) + 1) = ((i + 1 : Nat) : Int) := by rw [wid (by omega)]; rfl
    refine Ev.shift ?_
    simp only [spec_l01Name.l0, small_eq, digit_eq, Option.bind_some, w1]
    refine Ev.pos (by omega) (Ev.pos (by omega) ?_)
    by_cases a : 97 ≤ bt s i ∧ bt s i ≤ 122
    · rw [allF_yes _ (show chQ s i = true by unfold chQ; rw [decide_eq_true a]; rfl)]
      exact Ev.pos (decide_eq_true a) (ih (i + 1) (by omega))
    · refine Ev.neg (by rw [decide_eq_true_iff]; exact a) ?_
      by_cases b : 48 ≤ bt s i ∧ bt s i ≤ 57
      · rw [allF_yes _ (show chQ s i = true by unfold chQ; rw [decide_eq_true b, Bool.or_true])]
        exact Ev.pos (decide_eq_true b) (ih (i + 1) (by omega))
      · rw [allF_no _ (by omega) (show chQ s i = false by unfold chQ; rw [decide_eq_false a, decide_eq_false b]; rfl)]
        exact Ev.neg (by rw [decide_eq_true_iff]; exact b) (Ev.now _)
theorem sName (s : ByteArray) : Ev (fun k => spec_l01Name.f k s) (nameB s) := by
  unfold spec_l01Name.f nameB
  simp only [small_eq, Option.bind_some]
  have e : s.toList.length = s.size := by rw [ByteArray.toList_eq]; simp
  have f : Ev (fun k => spec_l01Name.j0 k s true) false := by
    refine Ev.shift ?_
    simp only [spec_l01Name.j0]
    exact Ev.pos trivial (Ev.now _)
  by_cases h0 : s.toList = []
  · refine Ev.pos h0 ?_
    rw [h0] at e
    rw [decide_eq_false (by simp at e; omega)]
    exact f
  · refine Ev.neg h0 ?_
    have hp : 0 < s.toList.length := List.length_pos_iff.2 h0
    by_cases h1 : (s.size : Int) > 10
    · refine Ev.pos h1 ?_
      rw [decide_eq_false (show ¬ (1 ≤ s.size ∧ s.size ≤ 10) by omega)]
      exact f
    · refine Ev.neg h1 (Ev.pos (by omega) ?_)
      rw [decide_eq_true (show 1 ≤ s.size ∧ s.size ≤ 10 by omega), Bool.true_and]
      cases hb : decide (97 ≤ bt s 0 ∧ bt s 0 ≤ 122) with
      | false => exact f
      | true =>
        refine Ev.shift ?_
        simp only [spec_l01Name.j0]
        exact Ev.neg (by decide) (sName_l0 s (by omega) s.size 0 (by omega))
theorem iName_l0 (s : ByteArray) (hs : s.size ≤ 10) (d : Nat) : ∀ (i : Nat), i + d = s.size → Ev (fun k => impl_onlyNameBytes.l0 k s (s.size : Int) i) (allF (chQ s) s.size i) := by
  induction d with
  | zero =>
    intro i h1
    refine Ev.shift ?_
    simp only [impl_onlyNameBytes.l0]
    exact Ev.neg (by omega) (Ev.some (by rw [allF_end _ (by omega)]))
  | succ d ih =>
    intro i h1
    have w1 : wrap64 ((i : Int) + 1) = ((i + 1 : Nat) : Int) := by rw [wid (by omega)]; rfl
    refine Ev.shift ?_
    simp only [impl_onlyNameBytes.l0, w1]
    refine Ev.pos (by omega) (Ev.pos (by omega) (Ev.pos (by omega) ?_))
    by_cases a : 97 ≤ bt s i ∧ bt s i ≤ 122
    · rw [allF_yes _ (show chQ s i = true by unfold chQ; rw [decide_eq_true a]; rfl)]
      exact Ev.neg (by omega) (Ev.neg (by omega) (ih (i + 1) (by omega)))
    · by_cases b : 48 ≤ bt s i ∧ bt s i ≤ 57
      · rw [allF_yes _ (show chQ s i = true by unfold chQ; rw [decide_eq_true b, Bool.or_true])]
        exact Ev.pos (by omega) (Ev.neg (by omega) (Ev.neg (by omega) (ih (i + 1) (by omega))))
      · rw [allF_no _ (by omega) (show chQ s i = false by unfold chQ; rw [decide_eq_false a, decide_eq_false b]; rfl)]
        by_cases c : bt s i < 97
        · refine Ev.pos c ?_
          by_cases c2 : bt s i < 48
          · exact Ev.pos c2 (Ev.now _)
          · exact Ev.neg c2 (Ev.pos (by omega) (Ev.now _))
        · exact Ev.neg c (Ev.pos (by omega) (Ev.neg (by omega) (Ev.pos (by omega) (Ev.now _))))
theorem iName (s : ByteArray) : Ev (fun k => impl_IsName.f k s) (nameB s) := by
  unfold impl_IsName.f nameB impl_onlyNameBytes.f
  by_cases h0 : (s.size : Int) < 1
  · rw [decide_eq_false (show ¬ (1 ≤ s.size ∧ s.size ≤ 10) by omega)]
    exact Ev.pos h0 (Ev.now _)
  · refine Ev.neg h0 ?_
    by_cases h1 : (s.size : Int) > 10
    · rw [decide_eq_false (show ¬ (1 ≤ s.size ∧ s.size ≤ 10) by omega)]
      exact Ev.pos h1 (Ev.now _)
    · rw [decide_eq_true (show 1 ≤ s.size ∧ s.size ≤ 10 by omega), Bool.true_and]
      refine Ev.neg h1 (Ev.pos (by omega) ?_)
      by_cases a : bt s 0 < 97
      · rw [decide_eq_false (show ¬ (97 ≤ bt s 0 ∧ bt s 0 ≤ 122) by omega)]
        exact Ev.pos a (Ev.now _)
      · refine Ev.neg a ?_
        by_cases b : bt s 0 > 122
        · rw [decide_eq_false (show ¬ (97 ≤ bt s 0 ∧ bt s 0 ≤ 122) by omega)]
          exact Ev.pos b (Ev.now _)
        · rw [decide_eq_true (show 97 ≤ bt s 0 ∧ bt s 0 ≤ 122 by omega), Bool.true_and]
          exact Ev.neg b (Ev.bind (iName_l0 s (by omega) s.size 0 (by omega)) (Ev.now _))
def sylB (x : S103) : Bool := nameB x.f0 && (decide ((x.f0.size : Int) ≤ 6) && (decide (1 ≤ x.f1 ∧ x.f1 ≤ 3) && decide (1 ≤ x.f2 ∧ x.f2 ≤ 8)))
theorem dec_and (p q : Prop) [Decidable p] [Decidable q] : (decide p && decide q) = decide (p ∧ q) := by
  by_cases p <;> by_cases q <;> simp [*]
theorem sSyl (x : S103) : Ev (fun k => spec_l18One_at.f k x.f0 x.f1 x.f2) (sylB x) := by
  unfold spec_l18One_at.f
  refine Ev.bind (sName x.f0) (Ev.same (Ev.now _) ?_)
  unfold sylB
  rw [dec_and, dec_and]
theorem rdSy (l : List S103) (i : Nat) : rd_T103 l (i : Int) = l.getD i z103 := by
  unfold rd_T103
  rw [Int.toNat_natCast]
def syQ (l : List S103) (j : Nat) : Bool := sylB (l.getD j z103) && (decide (j = 0) || Op.bytesLess (l.getD (j - 1) z103).f0.toList (l.getD j z103).f0.toList)
def sylsB (l : List S103) : Bool := allF (syQ l) l.length 0 && decide ((l.length : Int) ≤ 16)
theorem sSyls_l0 (l : List S103) (hl : l.length ≤ 8796093022208) (d : Nat) : ∀ (i : Nat), i + d = l.length → Ev (fun k => spec_l18Ok.l0 k l i) (allF (syQ l) l.length i && decide ((l.length : Int) ≤ 16)) := by
  induction d with
  | zero =>
    intro i h1
    refine Ev.shift ?_
    simp only [spec_l18Ok.l0]
    exact Ev.neg (by omega) (Ev.some (by rw [allF_end _ (by omega), Bool.true_and]))
  | succ d ih =>
    intro i h1
    have w1 : wrap64 ((i : Int) + 1) = ((i + 1 : Nat) : Int) := by rw [wid (by omega)]; rfl
    refine Ev.shift ?_
    simp only [spec_l18Ok.l0, rdSy, w1]
    refine Ev.pos (by omega) (Ev.pos (by omega) (Ev.bind (sSyl _) ?_))
    cases hb : sylB (l.getD i z103) with
    | false =>
      rw [allF_no _ (by omega) (show syQ l i = false by unfold syQ; rw [hb]; rfl)]
      exact Ev.neg (by decide) (Ev.now _)
    | true =>
      refine Ev.pos rfl ?_
      cases i with
      | zero =>
        rw [allF_yes _ (show syQ l 0 = true by unfold syQ; rw [hb]; rfl)]
        exact Ev.neg (by omega) (ih 1 (by omega))
      | succ i =>
        refine Ev.pos (by omega) ?_
        have e1 : wrap64 (((i + 1 : Nat) : Int) - 1) = (i : Int) := by rw [wid (by omega)]; omega
        rw [e1, rdSy]
        refine Ev.pos (by omega) (Ev.pos (by omega) ?_)
        have e2 : syQ l (i + 1) = Op.bytesLess (l.getD i z103).f0.toList (l.getD (i + 1) z103).f0.toList := by
          unfold syQ
          rw [hb, decide_eq_false (by omega), Bool.true_and, Bool.false_or]
          rfl
        cases hc : Op.bytesLess (l.getD i z103).f0.toList (l.getD (i + 1) z103).f0.toList with
        | true =>
          rw [allF_yes _ (e2.trans hc)]
          exact Ev.pos rfl (ih (i + 2) (by omega))
        | false =>
          rw [allF_no _ (by omega) (e2.trans hc)]
          exact Ev.neg (by decide) (Ev.now _)
theorem sSyls (l : List S103) (hl : l.length ≤ 8796093022208) : Ev (fun k => spec_l18Ok.f k l) (sylsB l) :=
  sSyls_l0 l hl l.length 0 (by omega)
theorem iSyl (x : S103) : Ev (fun k => impl_ValidSyllable.f k x.f0 x.f1 x.f2) (sylB x) := by
  unfold impl_ValidSyllable.f sylB
  simp only [within_eq, Option.bind_some]
  refine Ev.bind (iName x.f0) ?_
  cases nameB x.f0 with
  | false => exact Ev.neg (by decide) (Ev.now _)
  | true =>
    refine Ev.pos rfl ?_
    rw [Bool.true_and]
    by_cases h : (x.f0.size : Int) ≤ 6
    · rw [decide_eq_true h, Bool.true_and]
      refine Ev.pos h ?_
      cases decide (1 ≤ x.f1 ∧ x.f1 ≤ 3) with
      | false => exact Ev.neg (by decide) (Ev.now _)
      | true => exact Ev.pos rfl (Ev.now _)
    · rw [decide_eq_false h, Bool.false_and]
      exact Ev.neg h (Ev.now _)
theorem iSyls_l0 (l : List S103) (hl : l.length ≤ 16) (d : Nat) : ∀ (i : Nat), i + d = l.length → Ev (fun k => impl_ValidSyllables.l0 k l l (l.length : Int) i) (allF (syQ l) l.length i) := by
  induction d with
  | zero =>
    intro i h1
    refine Ev.shift ?_
    simp only [impl_ValidSyllables.l0]
    exact Ev.neg (by omega) (Ev.some (by rw [allF_end _ (by omega)]))
  | succ d ih =>
    intro i h1
    have w1 : wrap64 ((i : Int) + 1) = ((i + 1 : Nat) : Int) := by rw [wid (by omega)]; rfl
    refine Ev.shift ?_
    simp only [impl_ValidSyllables.l0, rdSy, w1]
    refine Ev.pos (by omega) (Ev.pos (by omega) (Ev.pos (by omega) (Ev.bind (iSyl _) ?_)))
    cases hb : sylB (l.getD i z103) with
    | false =>
      rw [allF_no _ (by omega) (show syQ l i = false by unfold syQ; rw [hb]; rfl)]
      exact Ev.neg (by decide) (Ev.now _)
    | true =>
      refine Ev.pos rfl ?_
      cases i with
      | zero =>
        rw [allF_yes _ (show syQ l 0 = true by unfold syQ; rw [hb]; rfl)]
        exact Ev.neg (by omega) (ih 1 (by omega))
      | succ i =>
        refine Ev.pos (by omega) ?_
        have e1 : wrap64 (((i + 1 : Nat) : Int) - 1) = (i : Int) := by rw [wid (by omega)]; omega
        rw [e1, rdSy]
        refine Ev.pos (by omega) (Ev.pos (by omega) ?_)
        have e2 : syQ l (i + 1) = Op.bytesLess (l.getD i z103).f0.toList (l.getD (i + 1) z103).f0.toList := by
          unfold syQ
          rw [hb, decide_eq_false (by omega), Bool.true_and, Bool.false_or]
          rfl
        cases hc : Op.bytesLess (l.getD i z103).f0.toList (l.getD (i + 1) z103).f0.toList with
        | true =>
          rw [allF_yes _ (e2.trans hc)]
          exact Ev.pos rfl (ih (i + 2) (by omega))
        | false =>
          rw [allF_no _ (by omega) (e2.trans hc)]
          exact Ev.neg (by decide) (Ev.now _)
theorem iSyls (l : List S103) : Ev (fun k => impl_ValidSyllables.f k l) (sylsB l) := by
  unfold impl_ValidSyllables.f sylsB
  by_cases h : (l.length : Int) > 16
  · rw [decide_eq_false (show ¬ (l.length : Int) ≤ 16 by omega), Bool.and_false]
    exact Ev.pos h (Ev.now _)
  · rw [decide_eq_true (show (l.length : Int) ≤ 16 by omega), Bool.and_true]
    exact Ev.neg h (iSyls_l0 l (by omega) l.length 0 (by omega))
def thQ (n : Nat) (t : List Int) (j : Nat) : Bool := decide (0 ≤ t.getD j 0 ∧ t.getD j 0 ≤ (n : Int) - 1)
def thB (n : Nat) (t : List Int) : Bool := allF (thQ n t) t.length 0 && decide (1 ≤ t.length ∧ t.length ≤ 32)
theorem sComposed_l0 (l : List S103) (t : List Int) (hl : l.length ≤ 8796093022208) (ht : t.length ≤ 35184372088832) (d : Nat) : ∀ (i : Nat), i + d = t.length → Ev (fun k => spec_l18Composed.l0 k l t i) (allF (thQ l.length t) t.length i && decide ((t.length : Int) ≤ 64)) := by
  induction d with
  | zero =>
    intro i h1
    refine Ev.shift ?_
    simp only [spec_l18Composed.l0]
    exact Ev.neg (by omega) (Ev.some (by rw [allF_end _ (by omega), Bool.true_and]))
  | succ d ih =>
    intro i h1
    have w1 : wrap64 ((i : Int) + 1) = ((i + 1 : Nat) : Int) := by rw [wid (by omega)]; rfl
    have w2 : wrap64 ((l.length : Int) - 1) = (l.length : Int) - 1 := wid (by omega)
    refine Ev.shift ?_
    simp only [spec_l18Composed.l0, rd_nat, w1, w2, in_eq, Option.bind_some]
    refine Ev.pos (by omega) (Ev.pos (by omega) ?_)
    cases hb : thQ l.length t i with
    | true =>
      rw [allF_yes _ hb]
      exact Ev.pos hb (ih (i + 1) (by omega))
    | false =>
      rw [allF_no _ (by omega) hb]
      refine Ev.neg ?_ (Ev.now _)
      rw [show decide (0 ≤ t.getD i 0 ∧ t.getD i 0 ≤ (l.length : Int) - 1) = false from hb]
      decide
theorem sTheme (l : List S103) (t : List Int) (hl : l.length ≤ 8796093022208) (ht : t.length ≤ 35184372088832) : Ev (fun k => spec_l20Theme.f k l t) (thB l.length t) := by
  unfold spec_l20Theme.f thB
  have h := sComposed_l0 l t hl ht t.length 0 (by omega)
  cases ha : allF (thQ l.length t) t.length 0 with
  | false =>
    rw [ha] at h
    exact Ev.bind h (Ev.neg (by simp) (Ev.now _))
  | true =>
    rw [ha, Bool.true_and] at h
    refine Ev.bind h ?_
    rw [Bool.true_and]
    by_cases h1 : (t.length : Int) ≤ 64
    · refine Ev.pos (decide_eq_true h1) ?_
      by_cases h2 : (t.length : Int) ≥ 1
      · exact Ev.pos h2 (Ev.some (by rw [Option.some_inj, decide_eq_decide]; omega))
      · exact Ev.neg h2 (Ev.some (by rw [decide_eq_false (show ¬ (1 ≤ t.length ∧ t.length ≤ 32) by omega)]))
    · refine Ev.neg (by rw [decide_eq_true_iff]; exact h1) (Ev.some ?_)
      rw [decide_eq_false (show ¬ (1 ≤ t.length ∧ t.length ≤ 32) by omega)]
def thCode (l : List S103) (t : List Int) (x : Int) : Int := if sylsB l = true then (if thB l.length t = true then (if 1 ≤ x ∧ x ≤ 32 then 0 else 2) else 7) else 1
theorem iTheme (l : List S103) (t : List Int) (x : Int) (hl : l.length ≤ 8796093022208) : Ev (fun k => impl_themeCode.f k l t x) (thCode l t x) := by
  unfold impl_themeCode.f thCode
  have hs := iSyls l
  cases v : sylsB l with
  | false =>
    rw [v] at hs
    rw [if_neg (show ¬ (false = true) by decide)]
    exact Ev.bind hs (Ev.neg (by decide) (Ev.now _))
  | true =>
    rw [v] at hs
    rw [if_pos (show true = true from rfl)]
    refine Ev.bind hs (Ev.pos rfl ?_)
    have f : Ev (fun k => impl_themeCode.j0 k x true) 7 := by
      refine Ev.shift ?_
      simp only [impl_themeCode.j0]
      exact Ev.pos trivial (Ev.now _)
    by_cases h1 : (t.length : Int) < 1
    · rw [show thB l.length t = false by unfold thB; rw [decide_eq_false (by omega), Bool.and_false], if_neg (show ¬ (false = true) by decide)]
      exact Ev.pos h1 f
    · refine Ev.neg h1 ?_
      by_cases h2 : (t.length : Int) > 32
      · rw [show thB l.length t = false by unfold thB; rw [decide_eq_false (by omega), Bool.and_false], if_neg (show ¬ (false = true) by decide)]
        exact Ev.pos h2 f
      · refine Ev.neg h2 ?_
        have w2 : wrap64 ((l.length : Int) - 1) = (l.length : Int) - 1 := wid (by omega)
        have e : (t.all fun x => decide (0 ≤ x ∧ x ≤ (l.length : Int) - 1)) = thB l.length t := by
          unfold thB
          rw [decide_eq_true (show 1 ≤ t.length ∧ t.length ≤ 32 by omega), Bool.and_true, Bool.eq_iff_iff, all_iff_get, allF_iff]
          exact ⟨fun h j hj _ => h j hj, fun h j hj => h j hj (Nat.zero_le _)⟩
        unfold impl_composedOk.f
        rw [if_pos (show (t.length : Int) ≤ 64 by omega), w2, allIn_eq, e]
        simp only [Option.bind_some]
        cases thB l.length t with
        | false =>
          rw [if_neg (show ¬ (false = true) by decide)]
          exact f
        | true =>
          rw [if_pos (show true = true from rfl)]
          refine Ev.shift ?_
          simp only [impl_themeCode.j0, within_eq, Option.bind_some]
          refine Ev.neg (by decide) ?_
          by_cases h3 : 1 ≤ x ∧ x ≤ 32
          · rw [if_pos h3]
            exact Ev.pos (decide_eq_true h3) (Ev.now _)
          · rw [if_neg h3]
            exact Ev.neg (by rw [decide_eq_true_iff]; exact h3) (Ev.now _)
theorem sAsk (l : List S103) (t : List Int) (hl : l.length ≤ 8796093022208) (ht : t.length ≤ 35184372088832) : Ev (fun k => spec_l20Ask.f k l t) (thCode l t 1) := by
  unfold spec_l20Ask.f thCode
  have hs := sSyls l hl
  cases v : sylsB l with
  | false =>
    rw [v] at hs
    rw [if_neg (show ¬ (false = true) by decide)]
    exact Ev.bind hs (Ev.neg (by decide) (Ev.now _))
  | true =>
    rw [v] at hs
    rw [if_pos (show true = true from rfl), if_pos (show (1 : Int) ≤ 1 ∧ (1 : Int) ≤ 32 by omega)]
    refine Ev.bind hs (Ev.pos rfl ?_)
    have hst := sTheme l t hl ht
    cases h : thB l.length t with
    | false =>
      rw [h] at hst
      rw [if_neg (show ¬ (false = true) by decide)]
      exact Ev.bind hst (Ev.neg (by decide) (Ev.now _))
    | true =>
      rw [h] at hst
      rw [if_pos (show true = true from rfl)]
      exact Ev.bind hst (Ev.pos rfl (Ev.now _))
theorem thCode_zero {l : List S103} {t : List Int} (h : thCode l t 1 = 0) : 1 ≤ t.length ∧ t.length ≤ 32 := by
  unfold thCode at h
  split at h
  · split at h
    · rename_i h2
      unfold thB at h2
      rw [Bool.and_eq_true, decide_eq_true_iff] at h2
      exact h2.2
    · cases h
  · cases h
theorem strN1 (x : Int) : (strOfNums [x]).size = 1 := rfl
theorem markText_l0 (N : Nat) : ∀ (n : Nat) (acc : ByteArray), n ≤ N → acc.size + n ≤ 9000000000000000000 → ∃ s, Ev (fun k => laws_markText.l0 k (n : Int) acc) s := by
  induction N with
  | zero =>
    intro n acc hn h
    obtain rfl : n = 0 := by omega
    refine ⟨(⟨#[109]⟩ : ByteArray) ++ acc, Ev.shift ?_⟩
    simp only [laws_markText.l0]
    exact Ev.neg (by omega) (Ev.pos (by omega) (Ev.now _))
  | succ N ih =>
    intro n acc hn h
    by_cases h0 : n = 0
    · subst h0
      refine ⟨(⟨#[109]⟩ : ByteArray) ++ acc, Ev.shift ?_⟩
      simp only [laws_markText.l0]
      exact Ev.neg (by omega) (Ev.pos (by omega) (Ev.now _))
    · have e : wrap64 (Int.tdiv (n : Int) 10) = ((n / 10 : Nat) : Int) := by
        rw [Int.tdiv_eq_ediv_of_nonneg (by omega), wid (by omega)]; omega
      obtain ⟨s, hs⟩ := ih (n / 10) (strOfNums [(wrap64 (48 + (Int.tmod (n : Int) 10))) % 256] ++ acc) (by omega) (by rw [ByteArray.size_append, strN1]; omega)
      refine ⟨s, Ev.shift ?_⟩
      simp only [laws_markText.l0, e, Option.bind_some]
      exact Ev.pos (by omega) (Ev.pos (by rw [strN1]; omega) hs)
theorem markText (n : Int) (h : 0 ≤ n ∧ n ≤ 9000000000000000000) : ∃ s, Ev (fun k => laws_markText.f k n) s := by
  unfold laws_markText.f
  obtain ⟨m, rfl⟩ := Int.eq_ofNat_of_zero_le h.1
  by_cases h0 : (m : Int) ≤ 0
  · exact ⟨_, Ev.pos h0 (Ev.now _)⟩
  · obtain ⟨s, hs⟩ := markText_l0 m m ⟨#[]⟩ (Nat.le_refl _) (by have : (⟨#[]⟩ : ByteArray).size = 0 := rfl; omega)
    exact ⟨s, Ev.neg h0 hs⟩
theorem markSyl_l0 (n : Nat) (d : Nat) : ∀ (i : Nat) (acc : List S103) (m : Int), i + d = n → acc.length = n → 0 ≤ m → m + 3 * d + n ≤ 8000000000000000000 → ∃ l', Ev (fun k => laws_markSyllableS.l0 k acc m i) (m + 3 * d, l') := by
  induction d with
  | zero =>
    intro i acc m h1 h2 h3 h4
    refine ⟨acc, Ev.shift ?_⟩
    simp only [laws_markSyllableS.l0]
    have e : m + 3 * ((0 : Nat) : Int) = m := by omega
    rw [e]
    exact Ev.neg (by omega) (Ev.now _)
  | succ d ih =>
    intro i acc m h1 h2 h3 h4
    obtain ⟨s, hs⟩ := markText m (by omega)
    have w0 : wrap64 (m + 1) = m + 1 := wid (by omega)
    have w1 : wrap64 (m + 1 + 1) = m + 1 + 1 := wid (by omega)
    have w2 : wrap64 (m + 1 + 1 + 1) = m + 3 := by rw [wid (by omega)]; omega
    have w3 : wrap64 ((i : Int) + 1) = ((i + 1 : Nat) : Int) := by rw [wid (by omega)]; rfl
    have e : m + 3 * ((d + 1 : Nat) : Int) = m + 3 + 3 * (d : Int) := by omega
    have key : ∀ acc' : List S103, acc'.length = n → ∃ l', Ev (fun k => laws_markSyllableS.l0 k acc' (m + 3) ((i + 1 : Nat) : Int)) (m + 3 + 3 * (d : Int), l') := fun acc' h => ih (i + 1) acc' (m + 3) (by omega) h (by omega) (by omega)
    have p1 : (i : Int) < (acc.length : Int) := by omega
    rw [e]
    let a1 : List S103 := acc.set i ⟨s, (rd_T103 acc (i : Int)).f1, (rd_T103 acc (i : Int)).f2⟩
    let a2 : List S103 := a1.set i ⟨(rd_T103 a1 (i : Int)).f0, m + 1, (rd_T103 a1 (i : Int)).f2⟩
    let a3 : List S103 := a2.set i ⟨(rd_T103 a2 (i : Int)).f0, (rd_T103 a2 (i : Int)).f1, m + 1 + 1⟩
    obtain ⟨l', hl'⟩ := key a3 (by
      show List.length (List.set (List.set (List.set acc i _) i _) i _) = n
      rw [List.length_set, List.length_set, List.length_set]; exact h2)
    refine ⟨l', Ev.shift ?_⟩
    simp only [laws_markSyllableS.l0]
    refine Ev.pos p1 (Ev.bind hs (Ev.pos (Int.natCast_nonneg _) ?_))
    simp only [Option.bind_some, Int.toNat_natCast, w0, w1, w2, w3]
    exact hl'
theorem markSyl (l : List S103) (m : Int) (h0 : 0 ≤ m) (h1 : m + 4 * l.length ≤ 8000000000000000000) : ∃ l', Ev (fun k => laws_markSyllableS.f k l m) (m + 3 * l.length, l') :=
  markSyl_l0 l.length l.length 0 l m (by omega) rfl h0 (by omega)
theorem len_eq (a : Int) : spec_l20Length.f a = some (decide (1 ≤ a ∧ a ≤ 32)) := by
  unfold spec_l20Length.f; rw [in_eq]; rfl
theorem chunks_count {n : Nat} {l : List Int} (hn : 1 ≤ n) : (chunks n l).length ≤ l.length := by
  unfold chunks
  rw [List.length_map, List.length_range, Nat.div_le_iff_le_mul_add_pred (by omega)]
  have : l.length ≤ n * l.length := Nat.le_mul_of_pos_left _ hn
  omega
theorem chunks_pos {n : Nat} {l : List Int} (hn : 1 ≤ n) (hl : 1 ≤ l.length) : 1 ≤ (chunks n l).length := by
  unfold chunks
  rw [List.length_map, List.length_range, Nat.le_div_iff_mul_le (by omega)]
  omega
theorem chunks_row {n : Nat} {l : List Int} {x : List Int} (hx : x ∈ chunks n l) : x.length ≤ l.length := by
  unfold chunks at hx
  obtain ⟨k, _, rfl⟩ := List.mem_map.1 hx
  unfold chunk
  rw [List.length_take, List.length_drop]; omega
theorem chunks_get {n : Nat} {l : List Int} (j : Nat) : ((chunks n l).getD j []).length ≤ l.length := by
  rw [List.getD_eq_getElem?_getD]
  by_cases h : j < (chunks n l).length
  · rw [List.getElem?_eq_getElem h]; exact chunks_row (List.getElem_mem h)
  · rw [List.getElem?_eq_none (by omega)]; exact Nat.zero_le _
theorem iBlocks (t : List Int) (a : Int) (ha : 1 ≤ a ∧ a ≤ 32) (ht : 1 ≤ t.length ∧ t.length ≤ 32) : impl_blocksOf.f t a = some (chunks a.toNat t) := by
  unfold impl_blocksOf.f
  rw [if_pos (by omega)]
theorem sBlocks_l0 (t : List Int) (n : Nat) (hn : 1 ≤ n ∧ n ≤ 32) (ht : t.length ≤ 32) (d : Nat) : ∀ i, i + d = (t.length + n - 1) / n → Ev (fun k => spec_l20Blocks.l0 k t (n : Int) ((List.range i).map fun k => chunk n t (k * n)) ((i * n : Nat) : Int)) (chunks n t) := by
  have hC : (t.length + n - 1) / n ≤ t.length := by have := @chunks_count n t hn.1; unfold chunks at this; rwa [List.length_map, List.length_range] at this
  induction d with
  | zero =>
    intro i h
    have h1 : t.length ≤ i * n := by
      have := (Nat.div_lt_iff_lt_mul (x := t.length + n - 1) (y := i + 1) (by omega : 0 < n)).1 (by omega)
      rw [Nat.add_mul] at this; omega
    refine Ev.shift ?_
    simp only [spec_l20Blocks.l0]
    refine Ev.neg (by omega) (Ev.some ?_)
    unfold chunks
    rw [show (t.length + n - 1) / n = i by omega]
  | succ d ih =>
    intro i h
    have h1 : i * n < t.length := by
      have := (Nat.le_div_iff_mul_le (x := i + 1) (y := t.length + n - 1) (by omega : 0 < n)).1 (by omega)
      rw [Nat.add_mul] at this; omega
    have w : wrap64 (((i * n : Nat) : Int) + (n : Int)) = (((i + 1) * n : Nat) : Int) := by rw [wid (by omega), Nat.add_mul]; omega
    have hmin : spec_l00Min.f ((((i + 1) * n : Nat) : Int)) (t.length : Int) = some ((min ((i + 1) * n) t.length : Nat) : Int) := by
      unfold spec_l00Min.f; split <;> (congr 1; omega)
    have hx : (i + 1) * n = i * n + n := by rw [Nat.add_mul, Nat.one_mul]
    have hch : (t.take (min ((i + 1) * n) t.length)).drop (i * n) = chunk n t (i * n) := by
      unfold chunk
      rw [List.drop_take]
      by_cases c : (i + 1) * n ≤ t.length
      · rw [Nat.min_eq_left c]; congr 1; omega
      · rw [Nat.min_eq_right (by omega), List.take_of_length_le (by rw [List.length_drop]; omega), List.take_of_length_le (by rw [List.length_drop]; omega)]
    have hown : spec_l00Own.f (chunk n t (i * n)) = some (chunk n t (i * n)) := by
      unfold spec_l00Own.f
      have : (chunk n t (i * n)).length ≤ t.length := by unfold chunk; rw [List.length_take, List.length_drop]; omega
      simp only [Option.bind_some, List.nil_append, List.length_nil, Nat.zero_add]
      rw [if_pos (by omega)]
    have hs : ((List.range i).map fun k => chunk n t (k * n)) ++ [chunk n t (i * n)] = (List.range (i + 1)).map fun k => chunk n t (k * n) := by
      rw [List.range_succ, List.map_append]; rfl
    have ih' := ih (i + 1) (by omega)
    refine Ev.shift ?_
    simp only [spec_l20Blocks.l0, w, hmin, Option.bind_some, Int.toNat_natCast, hch, hown, hs]
    exact Ev.pos (by omega) (Ev.pos (by omega) (Ev.pos (by omega) (Ev.pos (by omega) (Ev.pos (by rw [List.length_map, List.length_range]; omega) ih'))))
theorem sBlocks (t : List Int) (a : Int) (ha : 1 ≤ a ∧ a ≤ 32) (ht : t.length ≤ 32) : Ev (fun k => spec_l20Blocks.f k t a) (chunks a.toNat t) := by
  unfold spec_l20Blocks.f
  have h := sBlocks_l0 t a.toNat (by omega) ht ((t.length + a.toNat - 1) / a.toNat) 0 (by omega)
  rw [Nat.zero_mul, show ((a.toNat : Nat) : Int) = a by omega] at h
  exact h
def totL : List (List Int) → Nat
  | [] => 0
  | r :: rs => r.length + totL rs
def mksL (m : Int) : List (List Int) → List (List Int)
  | [] => []
  | r :: rs => marks m r.length :: mksL (m + r.length) rs
theorem getD_mid (p : List (List Int)) (r : List Int) (rs : List (List Int)) : (p ++ r :: rs).getD p.length [] = r := by
  rw [List.getD_eq_getElem?_getD, List.getElem?_append_right (Nat.le_refl _), Nat.sub_self]; rfl
theorem set_mid (p : List (List Int)) (r r' : List Int) (rs : List (List Int)) : (p ++ r :: rs).set p.length r' = p ++ r' :: rs := by
  rw [List.set_append_right _ _ (Nat.le_refl _), Nat.sub_self]; rfl
theorem snoc_mid (p : List (List Int)) (r : List Int) (rs : List (List Int)) : p ++ r :: rs = (p ++ [r]) ++ rs := by simp
theorem mksL_length (rs : List (List Int)) : ∀ m, (mksL m rs).length = rs.length := by
  induction rs with
  | nil => intro m; rfl
  | cons r rs ih => intro m; simp [mksL, ih]
theorem markSS_l0 (rs : List (List Int)) : ∀ (p : List (List Int)) (m : Int), 0 ≤ m → m + totL rs ≤ 9000000000000000000 → p.length + rs.length ≤ 9000000000000000000 → Ev (fun k => laws_markInt64SS.l0 k (p ++ rs) m p.length) (m + totL rs, p ++ mksL m rs) := by
  induction rs with
  | nil =>
    intro p m h0 h1 h2
    refine Ev.shift ?_
    simp only [laws_markInt64SS.l0, List.append_nil, totL, mksL]
    exact Ev.neg (by omega) (Ev.some (by simp))
  | cons r rs ih =>
    intro p m h0 h1 h2
    simp only [totL, List.length_cons] at h1 h2
    have w1 : wrap64 ((p.length : Int) + 1) = ((p.length + 1 : Nat) : Int) := by rw [wid (by omega)]; rfl
    have ih' := ih (p ++ [marks m r.length]) (m + r.length) (by omega) (by omega) (by rw [List.length_append]; simp only [List.length_cons, List.length_nil]; omega)
    rw [show (p ++ [marks m r.length]).length = p.length + 1 by simp, ← snoc_mid, ← snoc_mid, show m + (r.length : Int) + (totL rs : Int) = m + (totL (r :: rs) : Nat) by simp only [totL]; omega] at ih'
    refine Ev.shift ?_
    simp only [laws_markInt64SS.l0, Int.toNat_natCast, getD_mid, set_mid, w1, List.length_append, List.length_cons]
    exact Ev.pos (by omega) (Ev.pos (by omega) (Ev.bind (markI r m h0 (by omega)) (by simp only [set_mid]; exact ih')))
theorem markSS (rs : List (List Int)) (m : Int) (h0 : 0 ≤ m) (h1 : m + totL rs ≤ 9000000000000000000) (h2 : rs.length ≤ 9000000000000000000) : Ev (fun k => laws_markInt64SS.f k rs m) (m + totL rs, mksL m rs) := by
  unfold laws_markInt64SS.f
  exact markSS_l0 rs [] m h0 h1 (by simpa using h2)
theorem heldSS_l0 (rs : List (List Int)) : ∀ (p : List (List Int)) (m : Int), 0 ≤ m → m + totL rs ≤ 9000000000000000000 → p.length + rs.length ≤ 9000000000000000000 → Ev (fun k => laws_heldInt64SS.l0 k (p ++ mksL m rs) m p.length) (m + totL rs) := by
  induction rs with
  | nil =>
    intro p m h0 h1 h2
    refine Ev.shift ?_
    simp only [laws_heldInt64SS.l0, List.append_nil, totL, mksL]
    exact Ev.neg (by omega) (Ev.some (by simp))
  | cons r rs ih =>
    intro p m h0 h1 h2
    simp only [totL, List.length_cons] at h1 h2
    have w1 : wrap64 ((p.length : Int) + 1) = ((p.length + 1 : Nat) : Int) := by rw [wid (by omega)]; rfl
    have ih' := ih (p ++ [marks m r.length]) (m + r.length) (by omega) (by omega) (by rw [List.length_append]; simp only [List.length_cons, List.length_nil]; omega)
    rw [show (p ++ [marks m r.length]).length = p.length + 1 by simp, ← snoc_mid, show m + (r.length : Int) + (totL rs : Int) = m + (totL (r :: rs) : Nat) by simp only [totL]; omega] at ih'
    refine Ev.shift ?_
    simp only [laws_heldInt64SS.l0, rd_L5, Int.toNat_natCast, mksL, getD_mid, w1, List.length_append, List.length_cons]
    exact Ev.pos (by omega) (Ev.pos (by omega) (Ev.bind (heldI r.length m h0 (by omega)) (Ev.neg (by omega) ih')))
theorem heldSS (rs : List (List Int)) (m : Int) (h0 : 0 ≤ m) (h1 : m + totL rs ≤ 9000000000000000000) (h2 : rs.length ≤ 9000000000000000000) : Ev (fun k => laws_heldInt64SS.f k (mksL m rs) m) (m + totL rs) := by
  unfold laws_heldInt64SS.f
  exact heldSS_l0 rs [] m h0 h1 (by simpa using h2)
theorem eqSS_l0 (rs : List (List Int)) : ∀ (p : List (List Int)), (∀ r ∈ rs, r.length ≤ 35184372088832) → p.length + rs.length ≤ 9000000000000000000 → Ev (fun k => laws_eqInt64SS.l0 k (p ++ rs) (p ++ rs) p.length) true := by
  induction rs with
  | nil =>
    intro p hr h2
    refine Ev.shift ?_
    simp only [laws_eqInt64SS.l0, List.append_nil]
    exact Ev.neg (by omega) (Ev.now _)
  | cons r rs ih =>
    intro p hr h2
    simp only [List.length_cons] at h2
    have w1 : wrap64 ((p.length : Int) + 1) = ((p.length + 1 : Nat) : Int) := by rw [wid (by omega)]; rfl
    have g : (p ++ r :: rs).getD p.length [] = r := by rw [List.getD_eq_getElem?_getD, List.getElem?_append_right (Nat.le_refl _), Nat.sub_self]; rfl
    have ih' := ih (p ++ [r]) (fun x hx => hr x (List.mem_cons_of_mem _ hx)) (by rw [List.length_append]; simp only [List.length_cons, List.length_nil]; omega)
    rw [show (p ++ [r]).length = p.length + 1 by simp, show (p ++ [r]) ++ rs = p ++ r :: rs by simp] at ih'
    refine Ev.shift ?_
    simp only [laws_eqInt64SS.l0, rd_L5, Int.toNat_natCast, g, w1, List.length_append, List.length_cons]
    exact Ev.pos (by omega) (Ev.pos (by omega) (Ev.pos (by omega) (Ev.bind (eqI r (hr r List.mem_cons_self)) (Ev.pos rfl ih'))))
theorem eqSS (rs : List (List Int)) (hr : ∀ r ∈ rs, r.length ≤ 35184372088832) (h2 : rs.length ≤ 9000000000000000000) : Ev (fun k => laws_eqInt64SS.f k rs rs) true := by
  unfold laws_eqInt64SS.f
  exact Ev.pos rfl (eqSS_l0 rs [] hr (by simpa using h2))
theorem thCode_len {l : List S103} {t : List Int} {x : Int} (h : thCode l t x = 0) : (1 ≤ t.length ∧ t.length ≤ 32) ∧ 1 ≤ x ∧ x ≤ 32 := by
  unfold thCode at h
  split at h
  · split at h
    · rename_i h2
      unfold thB at h2
      rw [Bool.and_eq_true, decide_eq_true_iff] at h2
      split at h
      · exact ⟨h2.2, by assumption⟩
      · cases h
    · cases h
  · cases h
theorem thCode_two {l : List S103} {t : List Int} {x : Int} : thCode l t x = if thCode l t 1 = 0 then (if 1 ≤ x ∧ x ≤ 32 then 0 else 2) else thCode l t 1 := by
  unfold thCode
  by_cases h1 : sylsB l = true
  · by_cases h2 : thB l.length t = true
    · simp [h1, h2]
    · simp [h1, h2]
  · simp [h1]
def blkR (l : List S103) (t : List Int) (a : Int) : List (List Int) × Int := if thCode l t a = 0 then (chunks a.toNat t, 0) else ([], thCode l t a)
theorem blkS (l : List S103) (t : List Int) (a : Int) (hl : l.length ≤ 8796093022208) (ht : t.length ≤ 35184372088832) : Ev (fun k => spec_BlocksOf.f k l t a) (blkR l t a) := by
  unfold spec_BlocksOf.f blkR
  refine Ev.bind (sAsk l t hl ht) ?_
  rw [thCode_two (x := a)]
  by_cases h : thCode l t 1 = 0
  · have h1 := (thCode_len h).1
    rw [if_pos h, len_eq]
    refine Ev.pos h ?_
    simp only [Option.bind_some]
    by_cases h2 : 1 ≤ a ∧ a ≤ 32
    · rw [if_pos h2, if_pos rfl, decide_eq_true h2]
      refine Ev.shift ?_
      simp only [spec_BlocksOf.j0]
      exact Ev.neg (by decide) (Ev.pos h (Ev.bind (sBlocks t a h2 h1.2) (Ev.now _)))
    · rw [if_neg h2, if_neg (by decide), decide_eq_false h2]
      refine Ev.shift ?_
      simp only [spec_BlocksOf.j0]
      exact Ev.pos (by decide) (Ev.neg (by decide) (Ev.now _))
  · rw [if_neg h, if_neg h]
    refine Ev.neg h (Ev.shift ?_)
    simp only [spec_BlocksOf.j0]
    exact Ev.neg (by decide) (Ev.neg h (Ev.now _))
theorem blkI (l : List S103) (t : List Int) (a : Int) (hl : l.length ≤ 8796093022208) : Ev (fun k => impl_BlocksOf.f k l t a) (blkR l t a) := by
  unfold impl_BlocksOf.f blkR
  refine Ev.bind (iTheme l t a hl) ?_
  by_cases h : thCode l t a = 0
  · obtain ⟨h1, h2⟩ := thCode_len h
    refine Ev.pos h ?_
    rw [if_pos h, iBlocks t a h2 h1]
    exact Ev.now _
  · refine Ev.neg h ?_
    rw [if_neg h]
    exact Ev.now _
theorem totL_le (rs : List (List Int)) (b : Nat) (h : ∀ r ∈ rs, r.length ≤ b) : totL rs ≤ b * rs.length := by
  induction rs with
  | nil => simp [totL]
  | cons r rs ih =>
    have h1 := h r List.mem_cons_self
    have h2 := ih (fun x hx => h x (List.mem_cons_of_mem _ hx))
    simp only [totL, List.length_cons, Nat.mul_add, Nat.mul_one]; omega
theorem blkR_len (l : List S103) (t : List Int) (a : Int) : (blkR l t a).1.length ≤ 32 ∧ ∀ r ∈ (blkR l t a).1, r.length ≤ 32 := by
  unfold blkR
  split
  · rename_i h
    obtain ⟨h1, h2⟩ := thCode_len h
    have hc := @chunks_count a.toNat t (by omega)
    exact ⟨by show (chunks a.toNat t).length ≤ 32; omega, fun r hr => by have := @chunks_row a.toNat t r hr; omega⟩
  · exact ⟨by simp, fun r hr => by simp at hr⟩
theorem FnExactBlocksOf : laws_FnExactBlocksOf.Pure := by
  intro l t a hm hm2 _
  refine Ev.rounds (g := fun k => laws_FnExactBlocksOf.f k l t a) ?_
  unfold laws_FnExactBlocksOf.f
  by_cases ht : (t.length : Int) > 1048576
  · exact Ev.pos ht (Ev.now _)
  refine Ev.neg ht ?_
  obtain ⟨s, hz, hb⟩ := szSyllable l hm.1 (fun z hz => (hm.2 z hz).1)
  refine Ev.bind hz ?_
  by_cases h0 : s < 0
  · exact Ev.pos h0 (Ev.now _)
  refine Ev.neg h0 ?_
  have hl := hb (by omega)
  have hl' : l.length ≤ 8796093022208 := by omega
  have ht' : t.length ≤ 35184372088832 := by omega
  have hc : (cpSyllable l).length ≤ 8796093022208 := by rw [cpSyllable_length]; exact hl'
  have hcl : (cpSyllable l).length = l.length := cpSyllable_length l
  have hS := blkS (cpSyllable l) t a hc ht'
  have hI := blkI (cpSyllable l) t a hc
  have hr0 := blkR_len (cpSyllable l) t a
  generalize blkR (cpSyllable l) t a = R at hS hI hr0
  obtain ⟨r, c⟩ := R
  have hr1 : r.length ≤ 32 := hr0.1
  have hr2 : ∀ x ∈ r, x.length ≤ 32 := hr0.2
  have hr3 := totL_le r 32 hr2
  obtain ⟨l', hms⟩ := markSyl (cpSyllable l) 1 (by omega) (by omega)
  have hmt := markI t (1 + 3 * (cpSyllable l).length) (by omega) (by omega)
  have hmk := markSS r 1 (by omega) (by omega) (by omega)
  have hhl := heldSS r 1 (by omega) (by omega) (by omega)
  have heq := eqSS r (fun x hx => by have := hr2 x hx; omega) (by omega)
  repeat (first | exact Ev.now _ | refine Ev.bind hS ?_ | refine Ev.bind hI ?_ | refine Ev.bind (toSyllable l hl') ?_ | refine Ev.bind (eqSyllable _ hc) ?_ | refine Ev.bind (toI _ (by assumption)) ?_ | refine Ev.bind heq ?_ | refine Ev.bind (eqI _ (by assumption)) ?_ | refine Ev.bind hms ?_ | refine Ev.bind hmt ?_ | refine Ev.bind hmk ?_ | refine Ev.bind hhl ?_ | refine Ev.pos (by with_reducible rfl) ?_ | refine Ev.neg (by omega) ?_ | refine Ev.neg (by simp; done) ?_ | refine Ev.pos (by omega) ?_ | (refine Ev.shift ?_; simp only [laws_FnExactBlocksOf.j0, laws_FnExactBlocksOf.j1, laws_FnExactBlocksOf.j2]))

end Go.Proofs.Ytfledgccnaknpaa.Pure
