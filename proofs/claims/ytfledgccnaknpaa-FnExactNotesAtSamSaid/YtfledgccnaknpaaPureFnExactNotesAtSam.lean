/- The pure statement of the law FnExactNotesAtSam: what the Go functions compute, told by plain Lean functions, is what the law asks, for all arguments. No condition beyond the printed ones. -/
import Derived.Test.YtfledgccnaknpaaPFnExactNotesAtSamxo
import Derived.Test.YtfledgccnaknpaaXW
namespace Go.Proofs.Ytfledgccnaknpaa.Pure
open Go.RowKit Go.Proofs.Ytfledgccnaknpaa.PFnExactNotesAtSam Go.Proofs.YtfledgccnaknpaaW.PrintWords Go.Proofs.YtfledgccnaknpaaW.PrintLast Go.Proofs.YtfledgccnaknpaaW.PrintMore Go.Proofs.YtfledgccnaknpaaXW
set_option linter.unusedVariables false
set_option linter.unusedSimpArgs false
theorem toI_l0 (l : List Int) (hl : l.length ≤ 35184372088832) (d : Nat) : ∀ (i : Nat) (acc : List Int), i + d = l.length → acc.length = l.length → acc.take i = l.take i → Ev (fun k => laws_toInt64S.l0 k l acc i) l := by
  induction d with
  | zero =>
    intro i acc h1 h2 h3
    refine Ev.shift ?_
    simp only [laws_toInt64S.l0]
    refine Ev.neg (by omega) ?_
    refine Ev.some ?_
    rw [List.take_of_length_le (by omega), List.take_of_length_le (by omega)] at h3
    rw [h3]
  | succ d ih =>
    intro i acc h1 h2 h3
    refine Ev.shift ?_
    simp only [laws_toInt64S.l0]
    refine Ev.pos (by omega) (Ev.pos (by omega) (Ev.pos (by omega) ?_))
    rw [wid (by omega), rd_get l i (by omega), Int.toNat_natCast]
    refine ih (i + 1) (acc.set i l[i]) (by omega) (by rw [List.length_set, h2]) ?_
    rw [List.take_succ_eq_append_getElem (by rw [List.length_set]; omega), List.take_succ_eq_append_getElem (by omega), List.take_set_of_le (by omega), List.getElem_set_self, h3]
theorem toI (l : List Int) (hl : l.length ≤ 35184372088832) : Ev (fun k => laws_toInt64S.f k l) l := by
  unfold laws_toInt64S.f
  refine Ev.pos (by omega) (Ev.pos (by omega) ?_)
  rw [Int.toNat_natCast]
  exact toI_l0 l hl l.length 0 _ (by omega) (by simp) (by simp)
theorem eqI_l0 (l : List Int) (hl : l.length ≤ 35184372088832) (d : Nat) : ∀ (i : Nat), i + d = l.length → Ev (fun k => laws_eqInt64S.l0 k l l i) true := by
  induction d with
  | zero =>
    intro i h1
    refine Ev.shift ?_
    simp only [laws_eqInt64S.l0]
    exact Ev.neg (by omega) (Ev.now _)
  | succ d ih =>
    intro i h1
    refine Ev.shift ?_
    simp only [laws_eqInt64S.l0]
    refine Ev.pos (by omega) (Ev.pos (by omega) (Ev.pos (by omega) (Ev.pos (by trivial) ?_)))
    rw [wid (by omega)]
    exact ih (i + 1) (by omega)
theorem eqI (l : List Int) (hl : l.length ≤ 35184372088832) : Ev (fun k => laws_eqInt64S.f k l l) true := by
  unfold laws_eqInt64S.f
  exact Ev.pos rfl (eqI_l0 l hl l.length 0 (by omega))
/-- what marks leave: from m on, one by one -/
def marks (m : Int) : Nat → List Int
  | 0 => []
  | n + 1 => m :: marks (m + 1) n
theorem marks_length (n : Nat) : ∀ m, (marks m n).length = n := by
  induction n with
  | zero => intro m; rfl
  | succ n ih => intro m; simp [marks, ih]
theorem marks_get (n : Nat) : ∀ (m : Int) (i : Nat) (h : i < (marks m n).length), (marks m n)[i] = m + i := by
  induction n with
  | zero => intro m i h; simp [marks] at h
  | succ n ih =>
    intro m i h
    cases i with
    | zero => simp [marks]
    | succ i => simp only [marks, List.getElem_cons_succ]; rw [ih]; omega
theorem marks_snoc (n : Nat) : ∀ m, marks m (n + 1) = marks m n ++ [m + n] := by
  induction n with
  | zero => intro m; simp [marks]
  | succ n ih =>
    intro m
    rw [marks, ih, marks, List.cons_append]
    congr 3
    simp; omega
theorem markI_l0 (m0 : Int) (n : Nat) (h0 : 0 ≤ m0) (h1 : m0 + n ≤ 9000000000000000000) (d : Nat) : ∀ (i : Nat) (acc : List Int), i + d = n → acc.length = n → acc.take i = marks m0 i → Ev (fun k => laws_markInt64S.l0 k acc (m0 + i) i) (m0 + n, marks m0 n) := by
  induction d with
  | zero =>
    intro i acc h2 h3 h4
    refine Ev.shift ?_
    simp only [laws_markInt64S.l0]
    refine Ev.neg (by omega) (Ev.some ?_)
    rw [List.take_of_length_le (by omega)] at h4
    rw [h4, show i = n by omega]
  | succ d ih =>
    intro i acc h2 h3 h4
    refine Ev.shift ?_
    simp only [laws_markInt64S.l0]
    refine Ev.pos (by omega) (Ev.pos (by omega) ?_)
    rw [wid (x := m0 + i + 1) (by omega), wid (x := (i : Int) + 1) (by omega), Int.toNat_natCast, show m0 + (i : Int) + 1 = m0 + ((i + 1 : Nat) : Int) by omega]
    refine ih (i + 1) _ (by omega) (by rw [List.length_set, h3]) ?_
    rw [List.take_succ_eq_append_getElem (by rw [List.length_set]; omega), List.take_set_of_le (by omega), List.getElem_set_self, h4, marks_snoc]
theorem markI (l : List Int) (m : Int) (h0 : 0 ≤ m) (h1 : m + l.length ≤ 9000000000000000000) : Ev (fun k => laws_markInt64S.f k l m) (m + l.length, marks m l.length) := by
  unfold laws_markInt64S.f
  have := markI_l0 m l.length h0 h1 l.length 0 l (by omega) rfl (by simp [marks])
  simpa using this
theorem heldI_l0 (m0 : Int) (n : Nat) (h0 : 0 ≤ m0) (h1 : m0 + n ≤ 9000000000000000000) (d : Nat) : ∀ (i : Nat), i + d = n → Ev (fun k => laws_heldInt64S.l0 k (marks m0 n) (m0 + i) i) (m0 + n) := by
  induction d with
  | zero =>
    intro i h2
    refine Ev.shift ?_
    simp only [laws_heldInt64S.l0, marks_length]
    exact Ev.neg (by omega) (Ev.some (by rw [show i = n by omega]))
  | succ d ih =>
    intro i h2
    refine Ev.shift ?_
    simp only [laws_heldInt64S.l0, marks_length]
    refine Ev.pos (by omega) (Ev.pos (by omega) (Ev.pos (by rw [rd_get _ _ (by rw [marks_length]; omega), marks_get]) ?_))
    rw [wid (x := m0 + i + 1) (by omega), wid (x := (i : Int) + 1) (by omega), show m0 + (i : Int) + 1 = m0 + ((i + 1 : Nat) : Int) by omega]
    exact ih (i + 1) (by omega)
theorem heldI (n : Nat) (m : Int) (h0 : 0 ≤ m) (h1 : m + n ≤ 9000000000000000000) : Ev (fun k => laws_heldInt64S.f k (marks m n) m) (m + n) := by
  unfold laws_heldInt64S.f
  have := heldI_l0 m n h0 h1 n 0 (by omega)
  simpa using this
theorem in_eq (a b c : Int) : spec_l00In.f a b c = some (decide (b ≤ a ∧ a ≤ c)) := by
  unfold spec_l00In.f; split <;> simp_all; omega
theorem within_eq (a b c : Int) : impl_within.f a b c = some (decide (b ≤ a ∧ a ≤ c)) := by
  unfold impl_within.f; split <;> simp_all; omega
theorem allIn_eq (l : List Int) (a b : Int) : impl_allWithin.f l a b = some (l.all fun x => decide (a ≤ x ∧ x ≤ b)) := by
  unfold impl_allWithin.f
  rw [List.not_any_eq_all_not]
  congr 2
  funext x
  simp [allP]
theorem sLen1 (n : Int) : spec_l09Length.f n = some (decide (1 ≤ n ∧ n ≤ 64)) := by
  unfold spec_l09Length.f; rw [in_eq]; rfl
theorem iLen1 (n : Int) : impl_lengthOk.f n = some (decide (1 ≤ n ∧ n ≤ 64)) := by
  unfold impl_lengthOk.f; rw [within_eq]; rfl
def cpNote (l : List S116) : List S114 := l.map fun x => ⟨x.f0, x.f1⟩
theorem toNote_l0 (l : List S116) (hl : l.length ≤ 17592186044416) (d : Nat) : ∀ (i : Nat) (acc : List S114), i + d = l.length → acc.length = l.length → acc.take i = (cpNote l).take i → Ev (fun k => laws_toNoteS.l0 k l acc i) (cpNote l) := by
  have hc : (cpNote l).length = l.length := List.length_map _
  induction d with
  | zero =>
    intro i acc h1 h2 h3
    refine Ev.shift ?_
    simp only [laws_toNoteS.l0]
    refine Ev.neg (by omega) (Ev.some ?_)
    rw [List.take_of_length_le (by omega), List.take_of_length_le (by omega)] at h3
    rw [h3]
  | succ d ih =>
    intro i acc h1 h2 h3
    refine Ev.shift ?_
    simp only [laws_toNoteS.l0, laws_toNote.f, Option.bind_some]
    refine Ev.pos (by omega) (Ev.pos (by omega) (Ev.pos (by omega) ?_))
    rw [wid (by omega), Int.toNat_natCast]
    refine ih (i + 1) _ (by omega) (by rw [List.length_set, h2]) ?_
    rw [List.take_succ_eq_append_getElem (by rw [List.length_set]; omega), List.take_succ_eq_append_getElem (by omega), List.take_set_of_le (by omega), List.getElem_set_self, h3]
    have e : rd_T116 l (i : Int) = l[i] := by
      unfold rd_T116
      rw [Int.toNat_natCast, List.getD_eq_getElem?_getD, List.getElem?_eq_getElem (by omega), Option.getD_some]
    simp only [cpNote, List.getElem_map, e]
theorem toNote (l : List S116) (hl : l.length ≤ 17592186044416) : Ev (fun k => laws_toNoteS.f k l) (cpNote l) := by
  unfold laws_toNoteS.f
  refine Ev.pos (by omega) (Ev.pos (by omega) ?_)
  rw [Int.toNat_natCast]
  exact toNote_l0 l hl l.length 0 _ (by omega) (by simp) (by simp)
theorem cpNote_length (l : List S116) : (cpNote l).length = l.length := List.length_map _
theorem eqNote_l0 (l : List S114) (hl : l.length ≤ 17592186044416) (d : Nat) : ∀ (i : Nat), i + d = l.length → Ev (fun k => laws_eqNoteS.l0 k l l i) true := by
  induction d with
  | zero =>
    intro i h1
    refine Ev.shift ?_
    simp only [laws_eqNoteS.l0]
    exact Ev.neg (by omega) (Ev.now _)
  | succ d ih =>
    intro i h1
    refine Ev.shift ?_
    simp only [laws_eqNoteS.l0, laws_eqNote.f, Option.bind_some, if_true]
    refine Ev.pos (by omega) (Ev.pos (by omega) (Ev.pos (by omega) ?_))
    rw [wid (by omega)]
    exact ih (i + 1) (by omega)
theorem eqNote (l : List S114) (hl : l.length ≤ 17592186044416) : Ev (fun k => laws_eqNoteS.f k l l) true := by
  unfold laws_eqNoteS.f
  exact Ev.pos rfl (eqNote_l0 l hl l.length 0 (by omega))
theorem szNote (l : List S116) (hl : l.length ≤ maxLen) : laws_szNoteS.f l 1048576 = some (if l.length ≤ 1048576 then 1048576 - (l.length : Int) else -1) := by
  unfold laws_szNoteS.f
  unfold maxLen at hl
  rw [wid (by omega)]
  by_cases h : l.length ≤ 1048576
  · rw [if_neg (by omega), if_pos h]
  · rw [if_pos (by omega), if_neg h]
theorem getDsetNote (l : List S114) (i j : Nat) (v : S114) (h : i < l.length) : (l.set i v).getD j z114 = if i = j then v else l.getD j z114 := by
  rw [List.getD_eq_getElem?_getD, List.getElem?_set, List.getD_eq_getElem?_getD]
  split
  · rename_i e; subst e; simp [h]
  · rfl
theorem rdMNote (l : List S114) (i : Nat) : rd_T114 l (i : Int) = l.getD i z114 := by
  unfold rd_T114
  rw [Int.toNat_natCast]
theorem markNote_l0 (m0 : Int) (n : Nat) (h0 : 0 ≤ m0) (h1 : m0 + 2 * n ≤ 9000000000000000000) (d : Nat) : ∀ (i : Nat) (acc : List S114), i + d = n → acc.length = n → (∀ j, j < i → acc.getD j z114 = ⟨m0 + 2 * j, m0 + 2 * j + 1⟩) → ∃ l', l'.length = n ∧ (∀ j, j < n → l'.getD j z114 = ⟨m0 + 2 * j, m0 + 2 * j + 1⟩) ∧ Ev (fun k => laws_markNoteS.l0 k acc (m0 + 2 * i) i) (m0 + 2 * n, l') := by
  induction d with
  | zero =>
    intro i acc hi ha h
    obtain rfl : i = n := by omega
    refine ⟨acc, ha, h, ?_⟩
    refine Ev.shift ?_
    simp only [laws_markNoteS.l0]
    exact Ev.neg (by omega) (Ev.now _)
  | succ d ih =>
    intro i acc hi ha h
    have g1 := getDsetNote acc i i ⟨m0 + 2 * i, (acc.getD i z114).f1⟩ (by omega)
    rw [if_pos rfl] at g1
    have w1 : wrap64 (m0 + 2 * (i : Int) + 1) = m0 + 2 * i + 1 := wid (by omega)
    have w2 : wrap64 (m0 + 2 * (i : Int) + 1 + 1) = m0 + 2 * ((i + 1 : Nat) : Int) := by rw [wid (by omega)]; omega
    have w3 : wrap64 ((i : Int) + 1) = ((i + 1 : Nat) : Int) := by rw [wid (by omega)]; rfl
    obtain ⟨l', a1, a2, a3⟩ := ih (i + 1) (acc.set i ⟨m0 + 2 * i, m0 + 2 * i + 1⟩) (by omega) (by rw [List.length_set]; exact ha) (fun j hj => by
      rw [getDsetNote acc i j _ (by omega)]
      split
      · rename_i e; rw [e]
      · exact h j (by omega))
    refine ⟨l', a1, a2, ?_⟩
    refine Ev.shift ?_
    simp only [laws_markNoteS.l0]
    clear a1 a2 ih h
    have p1 : (i : Int) < (acc.length : Int) := by clear w1 w2 w3 g1; omega
    refine Ev.pos p1 (Ev.pos (Int.natCast_nonneg _) ?_)
    simp only [Option.bind_some, Int.toNat_natCast, rdMNote, g1, w1, w2, w3, List.set_set]
    exact a3
theorem markNote (l : List S114) (m : Int) (h0 : 0 ≤ m) (h1 : m + 2 * l.length ≤ 9000000000000000000) : ∃ l', l'.length = l.length ∧ (∀ j, j < l.length → l'.getD j z114 = ⟨m + 2 * j, m + 2 * j + 1⟩) ∧ Ev (fun k => laws_markNoteS.f k l m) (m + 2 * l.length, l') := by
  obtain ⟨l', a1, a2, a3⟩ := markNote_l0 m l.length h0 h1 l.length 0 l (by omega) rfl (fun j hj => by omega)
  refine ⟨l', a1, a2, ?_⟩
  have e : m + 2 * ((0 : Nat) : Int) = m := by omega
  rw [e] at a3
  exact a3
def chQ (s : ByteArray) (j : Nat) : Bool := decide (97 ≤ bt s j ∧ bt s j ≤ 122) || decide (48 ≤ bt s j ∧ bt s j ≤ 57)
def nameB (s : ByteArray) : Bool := decide (1 ≤ s.size ∧ s.size ≤ 10) && (decide (97 ≤ bt s 0 ∧ bt s 0 ≤ 122) && allF (chQ s) s.size 0)
theorem small_eq (a : Int) : spec_l01Small.f a = some (decide (97 ≤ a ∧ a ≤ 122)) := by
  unfold spec_l01Small.f; split <;> simp_all; omega
theorem digit_eq (a : Int) : spec_l01Digit.f a = some (decide (48 ≤ a ∧ a ≤ 57)) := by
  unfold spec_l01Digit.f; split <;> simp_all; omega
theorem sName_l0 (s : ByteArray) (hs : s.size ≤ 10) (d : Nat) : ∀ (i : Nat), i + d = s.size → Ev (fun k => spec_l01Name.l0 k s i) (allF (chQ s) s.size i) := by
  induction d with
  | zero =>
    intro i h1
    refine Ev.shift ?_
    simp only [spec_l01Name.l0]
    exact Ev.neg (by omega) (Ev.some (by rw [allF_end _ (by omega)]))
  | succ d ih =>
    intro i h1
    have w1 : wrap64 ((i : Int) + 1) = ((i + 1 : Nat) : Int) := by rw [wid (by omega)]; rfl
    refine Ev.shift ?_
    simp only [spec_l01Name.l0, small_eq, digit_eq, Option.bind_some, w1]
    refine Ev.pos (by omega) (Ev.pos (by omega) ?_)
    by_cases a : 97 ≤ bt s i ∧ bt s i ≤ 122
    · rw [allF_yes _ (show chQ s i = true by unfold chQ; rw [decide_eq_true a]; rfl)]
      exact Ev.pos (decide_eq_true a) (ih (i + 1) (by omega))
    · refine Ev.neg (by rw [decide_eq_true_iff]; exact a) ?_
      by_cases b : 48 ≤ bt s i ∧ bt s i ≤ 57
      · rw [allF_yes _ (show chQ s i = true by unfold chQ; rw [decide_eq_true b, Bool.or_true])]
        exact Ev.pos (decide_eq_true b) (ih (i + 1) (by omega))
      · rw [allF_no _ (by omega) (show chQ s i = false by unfold chQ; rw [decide_eq_false a, decide_eq_false b]; rfl)]
        exact Ev.neg (by rw [decide_eq_true_iff]; exact b) (Ev.now _)
theorem sName (s : ByteArray) : Ev (fun k => spec_l01Name.f k s) (nameB s) := by
  unfold spec_l01Name.f nameB
  simp only [small_eq, Option.bind_some]
  have e : s.toList.length = s.size := by rw [ByteArray.toList_eq]; simp
  have f : Ev (fun k => spec_l01Name.j0 k s true) false := by
    refine Ev.shift ?_
    simp only [spec_l01Name.j0]
    exact Ev.pos trivial (Ev.now _)
  by_cases h0 : s.toList = []
  · refine Ev.pos h0 ?_
    rw [h0] at e
    rw [decide_eq_false (by simp at e; omega)]
    exact f
  · refine Ev.neg h0 ?_
    have hp : 0 < s.toList.length := List.length_pos_iff.2 h0
    by_cases h1 : (s.size : Int) > 10
    · refine Ev.pos h1 ?_
      rw [decide_eq_false (show ¬ (1 ≤ s.size ∧ s.size ≤ 10) by omega)]
      exact f
    · refine Ev.neg h1 (Ev.pos (by omega) ?_)
      rw [decide_eq_true (show 1 ≤ s.size ∧ s.size ≤ 10 by omega), Bool.true_and]
      cases hb : decide (97 ≤ bt s 0 ∧ bt s 0 ≤ 122) with
      | false => exact f
      | true =>
        refine Ev.shift ?_
        simp only [spec_l01Name.j0]
        exact Ev.neg (by decide) (sName_l0 s (by omega) s.size 0 (by omega))
theorem iName_l0 (s : ByteArray) (hs : s.size ≤ 10) (d : Nat) : ∀ (i : Nat), i + d = s.size → Ev (fun k => impl_onlyNameBytes.l0 k s (s.size : Int) i) (allF (chQ s) s.size i) := by
  induction d with
  | zero =>
    intro i h1
    refine Ev.shift ?_
    simp only [impl_onlyNameBytes.l0]
    exact Ev.neg (by omega) (Ev.some (by rw [allF_end _ (by omega)]))
  | succ d ih =>
    intro i h1
    have w1 : wrap64 ((i : Int) + 1) = ((i + 1 : Nat) : Int) := by rw [wid (by omega)]; rfl
    refine Ev.shift ?_
    simp only [impl_onlyNameBytes.l0, w1]
    refine Ev.pos (by omega) (Ev.pos (by omega) (Ev.pos (by omega) ?_))
    by_cases a : 97 ≤ bt s i ∧ bt s i ≤ 122
    · rw [allF_yes _ (show chQ s i = true by unfold chQ; rw [decide_eq_true a]; rfl)]
      exact Ev.neg (by omega) (Ev.neg (by omega) (ih (i + 1) (by omega)))
    · by_cases b : 48 ≤ bt s i ∧ bt s i ≤ 57
      · rw [allF_yes _ (show chQ s i = true by unfold chQ; rw [decide_eq_true b, Bool.or_true])]
        exact Ev.pos (by omega) (Ev.neg (by omega) (Ev.neg (by omega) (ih (i + 1) (by omega))))
      · rw [allF_no _ (by omega) (show chQ s i = false by unfold chQ; rw [decide_eq_false a, decide_eq_false b]; rfl)]
        by_cases c : bt s i < 97
        · refine Ev.pos c ?_
          by_cases c2 : bt s i < 48
          · exact Ev.pos c2 (Ev.now _)
          · exact Ev.neg c2 (Ev.pos (by omega) (Ev.now _))
        · exact Ev.neg c (Ev.pos (by omega) (Ev.neg (by omega) (Ev.pos (by omega) (Ev.now _))))
theorem iName (s : ByteArray) : Ev (fun k => impl_IsName.f k s) (nameB s) := by
  unfold impl_IsName.f nameB impl_onlyNameBytes.f
  by_cases h0 : (s.size : Int) < 1
  · rw [decide_eq_false (show ¬ (1 ≤ s.size ∧ s.size ≤ 10) by omega)]
    exact Ev.pos h0 (Ev.now _)
  · refine Ev.neg h0 ?_
    by_cases h1 : (s.size : Int) > 10
    · rw [decide_eq_false (show ¬ (1 ≤ s.size ∧ s.size ≤ 10) by omega)]
      exact Ev.pos h1 (Ev.now _)
    · rw [decide_eq_true (show 1 ≤ s.size ∧ s.size ≤ 10 by omega), Bool.true_and]
      refine Ev.neg h1 (Ev.pos (by omega) ?_)
      by_cases a : bt s 0 < 97
      · rw [decide_eq_false (show ¬ (97 ≤ bt s 0 ∧ bt s 0 ≤ 122) by omega)]
        exact Ev.pos a (Ev.now _)
      · refine Ev.neg a ?_
        by_cases b : bt s 0 > 122
        · rw [decide_eq_false (show ¬ (97 ≤ bt s 0 ∧ bt s 0 ≤ 122) by omega)]
          exact Ev.pos b (Ev.now _)
        · rw [decide_eq_true (show 97 ≤ bt s 0 ∧ bt s 0 ≤ 122 by omega), Bool.true_and]
          exact Ev.neg b (Ev.bind (iName_l0 s (by omega) s.size 0 (by omega)) (Ev.now _))
def wsum : Int → List Int → Int
  | s, [] => s
  | s, x :: l => wsum (wrap64 (s + x)) l
theorem consW (g : List Int) (i : Nat) (h : i < g.length) : g.drop i = g.getD i 0 :: g.drop (i + 1) := by
  rw [List.drop_eq_getElem_cons h, List.getD_eq_getElem?_getD, List.getElem?_eq_getElem h]; rfl
theorem sWsum_l0 (l : List Int) (hl : l.length ≤ 35184372088832) (d : Nat) : ∀ (i : Nat) (s : Int), i + d = l.length → Ev (fun k => spec_l17Sum.l0 k l s i) (wsum s (l.drop i)) := by
  induction d with
  | zero =>
    intro i s h1
    refine Ev.shift ?_
    simp only [spec_l17Sum.l0]
    rw [List.drop_of_length_le (by omega), wsum]
    exact Ev.neg (by omega) (Ev.now _)
  | succ d ih =>
    intro i s h1
    have p1 : (i : Int) < (l.length : Int) := by omega
    have w1 : wrap64 ((i : Int) + 1) = ((i + 1 : Nat) : Int) := by rw [wid (by omega)]; rfl
    refine Ev.shift ?_
    simp only [spec_l17Sum.l0, rd_nat, w1]
    rw [consW l i (by omega), wsum]
    exact Ev.pos p1 (Ev.pos (Int.natCast_nonneg _) (ih (i + 1) _ (by omega)))
theorem sWsum (l : List Int) (hl : l.length ≤ 35184372088832) : Ev (fun k => spec_l17Sum.f k l) (wsum 0 l) :=
  sWsum_l0 l hl l.length 0 0 (by omega)
theorem iWsum_l0 (l : List Int) (hl : l.length ≤ 35184372088832) (d : Nat) : ∀ (i : Nat) (s : Int), i + d = l.length → Ev (fun k => impl_sumOf.l0 k s l (l.length : Int) i) (wsum s (l.drop i)) := by
  induction d with
  | zero =>
    intro i s h1
    refine Ev.shift ?_
    simp only [impl_sumOf.l0]
    rw [List.drop_of_length_le (by omega), wsum]
    exact Ev.neg (by omega) (Ev.now _)
  | succ d ih =>
    intro i s h1
    have p1 : (i : Int) < (l.length : Int) := by omega
    have w1 : wrap64 ((i : Int) + 1) = ((i + 1 : Nat) : Int) := by rw [wid (by omega)]; rfl
    refine Ev.shift ?_
    simp only [impl_sumOf.l0, rd_nat, w1]
    rw [consW l i (by omega), wsum]
    exact Ev.pos p1 (Ev.pos (Int.natCast_nonneg _) (Ev.pos p1 (ih (i + 1) _ (by omega))))
theorem iWsum (l : List Int) (hl : l.length ≤ 35184372088832) : Ev (fun k => impl_sumOf.f k l) (wsum 0 l) :=
  iWsum_l0 l hl l.length 0 0 (by omega)
theorem wsum_bd (l : List Int) : ∀ s : Int, 0 ≤ s → (∀ x ∈ l, 1 ≤ x ∧ x ≤ 16) → s + 16 * l.length ≤ 1000000 → s + l.length ≤ wsum s l ∧ wsum s l ≤ s + 16 * l.length := by
  induction l with
  | nil => intro s h1 _ h3; rw [wsum]; simp
  | cons x l ih =>
    intro s h1 h2 h3
    have hx := h2 x (by simp)
    rw [List.length_cons] at h3
    have := ih (s + x) (by omega) (fun y hy => h2 y (by simp [hy])) (by omega)
    rw [wsum, wid (by omega), List.length_cons]
    omega
def taQ (a b : List Int) (j : Nat) : Bool := decide (1 ≤ a.getD j 0 ∧ a.getD j 0 ≤ 16) && (if j = 0 then decide (b.getD j 0 = 1) else decide (2 ≤ b.getD j 0 ∧ b.getD j 0 ≤ 3))
def talaB (s : ByteArray) (a b : List Int) : Bool := nameB s && (decide (1 ≤ (a.length : Int) ∧ (a.length : Int) ≤ 8) && (decide ((b.length : Int) = (a.length : Int)) && (allF (taQ a b) a.length 0 && decide (wsum 0 a ≤ 32))))
theorem sTala_l0 (s : ByteArray) (a b : List Int) (h8 : a.length ≤ 8) (hb : b.length = a.length) (d : Nat) : ∀ (i : Nat), i + d = a.length → Ev (fun k => spec_l17Ok.l0 k (a.length : Int) i s a b) (allF (taQ a b) a.length i && decide (wsum 0 a ≤ 32), s) := by
  induction d with
  | zero =>
    intro i h1
    refine Ev.shift ?_
    simp only [spec_l17Ok.l0]
    refine Ev.neg (by omega) (Ev.bind (sWsum a (by omega)) ?_)
    rw [allF_end _ (by omega), Bool.true_and]
    exact Ev.now _
  | succ d ih =>
    intro i h1
    have p1 : (i : Int) < (a.length : Int) := by omega
    have p2 : (i : Int) < (b.length : Int) := by omega
    have w1 : wrap64 ((i : Int) + 1) = ((i + 1 : Nat) : Int) := by rw [wid (by omega)]; rfl
    have hr := ih (i + 1) (by omega)
    refine Ev.shift ?_
    simp only [spec_l17Ok.l0, rd_nat, in_eq, Option.bind_some, w1]
    refine Ev.pos p1 (Ev.pos (Int.natCast_nonneg _) (Ev.pos p1 ?_))
    by_cases ha : 1 ≤ a.getD i 0 ∧ a.getD i 0 ≤ 16
    · refine Ev.pos (decide_eq_true ha) ?_
      by_cases h0 : i = 0
      · subst h0
        refine Ev.pos rfl (Ev.pos p2 ?_)
        by_cases h : b.getD 0 0 = 1
        · rw [allF_yes _ (show taQ a b 0 = true by unfold taQ; rw [decide_eq_true ha, if_pos rfl, decide_eq_true h]; rfl)]
          exact Ev.pos h (Ev.neg (by omega) hr)
        · rw [allF_no _ (by omega) (show taQ a b 0 = false by unfold taQ; rw [decide_eq_true ha, if_pos rfl, decide_eq_false h]; rfl)]
          exact Ev.neg h (Ev.now _)
      · refine Ev.neg (by omega) (Ev.pos (by omega) (Ev.pos p2 ?_))
        by_cases h : 2 ≤ b.getD i 0 ∧ b.getD i 0 ≤ 3
        · rw [allF_yes _ (show taQ a b i = true by unfold taQ; rw [decide_eq_true ha, if_neg h0, decide_eq_true h]; rfl)]
          exact Ev.pos (decide_eq_true h) hr
        · rw [allF_no _ (by omega) (show taQ a b i = false by unfold taQ; rw [decide_eq_true ha, if_neg h0, decide_eq_false h]; rfl)]
          exact Ev.neg (by rw [decide_eq_true_iff]; exact h) (Ev.now _)
    · rw [allF_no _ (by omega) (show taQ a b i = false by unfold taQ; rw [decide_eq_false ha]; rfl)]
      exact Ev.neg (by rw [decide_eq_true_iff]; exact ha) (Ev.now _)
theorem sTala (s : ByteArray) (a b : List Int) (hl : a.length ≤ 35184372088832) : Ev (fun k => spec_l17Ok.f k s a b) (talaB s a b, s) := by
  unfold spec_l17Ok.f talaB
  simp only [in_eq, Option.bind_some]
  have f : Ev (fun k => spec_l17Ok.j0 k (a.length : Int) true s a b) (false, s) := by
    refine Ev.shift ?_
    simp only [spec_l17Ok.j0]
    exact Ev.pos trivial (Ev.now _)
  refine Ev.bind (sName s) ?_
  cases nameB s with
  | false => exact Ev.neg (by decide) f
  | true =>
    refine Ev.pos rfl ?_
    rw [Bool.true_and]
    by_cases h8 : 1 ≤ (a.length : Int) ∧ (a.length : Int) ≤ 8
    · rw [decide_eq_true h8, Bool.true_and]
      refine Ev.pos rfl ?_
      by_cases hb : (b.length : Int) = (a.length : Int)
      · rw [decide_eq_true hb, Bool.true_and, show ((b.length : Int) != (a.length : Int)) = false from by rw [hb]; simp]
        refine Ev.shift ?_
        simp only [spec_l17Ok.j0]
        exact Ev.neg (by decide) (sTala_l0 s a b (by omega) (by omega) a.length 0 (by omega))
      · rw [decide_eq_false hb, Bool.false_and, show ((b.length : Int) != (a.length : Int)) = true from bne_iff_ne.2 hb]
        exact f
    · rw [decide_eq_false h8, Bool.false_and]
      exact Ev.neg (by decide) f
theorem talaB_sum {s : ByteArray} {a b : List Int} (h : talaB s a b = true) : 1 ≤ wsum 0 a ∧ wsum 0 a ≤ 32 := by
  unfold talaB at h
  rw [Bool.and_eq_true, Bool.and_eq_true, Bool.and_eq_true, Bool.and_eq_true, decide_eq_true_iff, decide_eq_true_iff, allF_iff] at h
  obtain ⟨_, h1, _, h2, h3⟩ := h
  refine ⟨?_, of_decide_eq_true h3⟩
  have := wsum_bd a 0 (Int.le_refl _) (fun x hx => by
    obtain ⟨j, hj, rfl⟩ := List.getElem_of_mem hx
    have := h2 j hj (Nat.zero_le _)
    unfold taQ at this
    rw [Bool.and_eq_true, decide_eq_true_iff, List.getD_eq_getElem?_getD, List.getElem?_eq_getElem hj] at this
    exact this.1) (by omega)
  omega
theorem iTala (s : ByteArray) (a b : List Int) (hl : a.length ≤ 35184372088832) : Ev (fun k => impl_ValidTala.f k s a b) (talaB s a b) := by
  unfold impl_ValidTala.f talaB impl_Tala_beats.f
  simp only [allIn_eq, Option.bind_some]
  refine Ev.bind (iName s) ?_
  cases nameB s with
  | false => exact Ev.neg (by decide) (Ev.now _)
  | true =>
    refine Ev.pos rfl ?_
    rw [Bool.true_and]
    by_cases g1 : (a.length : Int) < 1
    · rw [decide_eq_false (show ¬ (1 ≤ (a.length : Int) ∧ (a.length : Int) ≤ 8) by omega)]
      exact Ev.pos g1 (Ev.now _)
    refine Ev.neg g1 ?_
    by_cases g2 : (a.length : Int) > 8
    · rw [decide_eq_false (show ¬ (1 ≤ (a.length : Int) ∧ (a.length : Int) ≤ 8) by omega)]
      exact Ev.pos g2 (Ev.now _)
    refine Ev.neg g2 ?_
    rw [decide_eq_true (show 1 ≤ (a.length : Int) ∧ (a.length : Int) ≤ 8 by omega), Bool.true_and]
    have ga : (a.all fun x => decide (1 ≤ x ∧ x ≤ 16)) = true ↔ ∀ j, j < a.length → 1 ≤ a.getD j 0 ∧ a.getD j 0 ≤ 16 := by
      rw [all_iff_get]
      exact ⟨fun h j hj => of_decide_eq_true (h j hj), fun h j hj => decide_eq_true (h j hj)⟩
    have fal : (∃ j, j < a.length ∧ taQ a b j = false) → allF (taQ a b) a.length 0 = false := by
      rintro ⟨j, hj, h⟩
      cases hq : allF (taQ a b) a.length 0 with
      | false => rfl
      | true => rw [allF_iff] at hq; rw [hq j hj (Nat.zero_le _)] at h; cases h
    cases ha : (a.all fun x => decide (1 ≤ x ∧ x ≤ 16)) with
    | false =>
      have : allF (taQ a b) a.length 0 = false := by
        cases hq : allF (taQ a b) a.length 0 with
        | false => rfl
        | true =>
          rw [allF_iff] at hq
          rw [ga.2 (fun j hj => by
            have := hq j hj (Nat.zero_le _)
            unfold taQ at this
            rw [Bool.and_eq_true, decide_eq_true_iff] at this
            exact this.1)] at ha
          cases ha
      rw [this, Bool.false_and, Bool.and_false]
      exact Ev.neg (by decide) (Ev.now _)
    | true =>
      have ha' := ga.1 ha
      refine Ev.pos rfl ?_
      refine Ev.bind (Ev.bind (iWsum a hl) (Ev.now _)) ?_
      by_cases g3 : wsum 0 a > 32
      · rw [decide_eq_false (show ¬ wsum 0 a ≤ 32 by omega), Bool.and_false, Bool.and_false]
        exact Ev.pos g3 (Ev.now _)
      refine Ev.neg g3 ?_
      rw [decide_eq_true (show wsum 0 a ≤ 32 by omega), Bool.and_true]
      by_cases hb : (b.length : Int) = (a.length : Int)
      · rw [decide_eq_true hb, Bool.true_and]
        refine Ev.pos hb (Ev.pos (by omega) ?_)
        have e0 : rd b 0 = b.getD 0 0 := rd_nat b 0
        rw [e0]
        by_cases h0 : b.getD 0 0 = 1
        · refine Ev.pos h0 (Ev.pos (by omega) (Ev.some ?_))
          rw [Option.some_inj, Bool.eq_iff_iff, all_iff_get, allF_iff, List.length_drop]
          have gd : ∀ j, (b.drop 1).getD j 0 = b.getD (1 + j) 0 := fun j => by rw [List.getD_eq_getElem?_getD, List.getElem?_drop, List.getD_eq_getElem?_getD]
          constructor
          · intro h j hj _
            unfold taQ
            rw [decide_eq_true (ha' j hj), Bool.true_and]
            by_cases hj0 : j = 0
            · subst hj0; rw [if_pos rfl]; exact decide_eq_true h0
            · rw [if_neg hj0]
              have := h (j - 1) (by omega)
              rw [gd, show 1 + (j - 1) = j by omega] at this
              exact this
          · intro h j hj
            have := h (1 + j) (by omega) (Nat.zero_le _)
            unfold taQ at this
            rw [Bool.and_eq_true, if_neg (by omega)] at this
            rw [gd]
            exact this.2
        · rw [fal ⟨0, by omega, by unfold taQ; rw [if_pos rfl, decide_eq_false h0, Bool.and_false]⟩]
          exact Ev.neg h0 (Ev.now _)
      · rw [decide_eq_false hb, Bool.false_and]
        exact Ev.neg hb (Ev.now _)
def meQ (l : List S114) (j : Nat) : Bool := decide (-12 ≤ (l.getD j z114).f0 ∧ (l.getD j z114).f0 ≤ 23) && decide (1 ≤ (l.getD j z114).f1 ∧ (l.getD j z114).f1 ≤ 64)
def melB (l : List S114) : Bool := allF (meQ l) l.length 0 && decide ((l.length : Int) ≤ 48)
theorem rdNo (l : List S114) (i : Nat) : rd_T114 l (i : Int) = l.getD i z114 := by
  unfold rd_T114
  rw [Int.toNat_natCast]
theorem sMel_l0 (l : List S114) (hl : l.length ≤ 17592186044416) (d : Nat) : ∀ (i : Nat), i + d = l.length → Ev (fun k => spec_l09Ok.l0 k l i) (allF (meQ l) l.length i && decide ((l.length : Int) ≤ 48)) := by
  induction d with
  | zero =>
    intro i h1
    refine Ev.shift ?_
    simp only [spec_l09Ok.l0]
    exact Ev.neg (by omega) (Ev.some (by rw [allF_end _ (by omega), Bool.true_and]))
  | succ d ih =>
    intro i h1
    have w1 : wrap64 ((i : Int) + 1) = ((i + 1 : Nat) : Int) := by rw [wid (by omega)]; rfl
    have hr := ih (i + 1) (by omega)
    refine Ev.shift ?_
    simp only [spec_l09Ok.l0, spec_l03Pitch.f, spec_l09Length.f, in_eq, Option.bind_some, rdNo, w1]
    refine Ev.pos (by omega) (Ev.pos (by omega) ?_)
    by_cases a : -12 ≤ (l.getD i z114).f0 ∧ (l.getD i z114).f0 ≤ 23
    · refine Ev.pos (decide_eq_true a) ?_
      by_cases b : 1 ≤ (l.getD i z114).f1 ∧ (l.getD i z114).f1 ≤ 64
      · rw [allF_yes _ (show meQ l i = true by unfold meQ; rw [decide_eq_true a, decide_eq_true b]; rfl)]
        exact Ev.pos (decide_eq_true b) hr
      · rw [allF_no _ (by omega) (show meQ l i = false by unfold meQ; rw [decide_eq_false b, Bool.and_false])]
        exact Ev.neg (by rw [decide_eq_true_iff]; exact b) (Ev.now _)
    · rw [allF_no _ (by omega) (show meQ l i = false by unfold meQ; rw [decide_eq_false a]; rfl)]
      exact Ev.neg (by rw [decide_eq_true_iff]; exact a) (Ev.now _)
theorem sMel (l : List S114) (hl : l.length ≤ 17592186044416) : Ev (fun k => spec_l09Ok.f k l) (melB l) :=
  sMel_l0 l hl l.length 0 (by omega)
theorem iMel_l0 (l : List S114) (hl : l.length ≤ 48) (d : Nat) : ∀ (i : Nat), i + d = l.length → Ev (fun k => impl_ValidMelody.l0 k l (l.length : Int) i) (allF (meQ l) l.length i) := by
  induction d with
  | zero =>
    intro i h1
    refine Ev.shift ?_
    simp only [impl_ValidMelody.l0]
    exact Ev.neg (by omega) (Ev.some (by rw [allF_end _ (by omega)]))
  | succ d ih =>
    intro i h1
    have w1 : wrap64 ((i : Int) + 1) = ((i + 1 : Nat) : Int) := by rw [wid (by omega)]; rfl
    have hr := ih (i + 1) (by omega)
    refine Ev.shift ?_
    simp only [impl_ValidMelody.l0, impl_pitchOk.f, impl_lengthOk.f, within_eq, Option.bind_some, rdNo, w1]
    refine Ev.pos (by omega) (Ev.pos (by omega) (Ev.pos (by omega) ?_))
    by_cases a : -12 ≤ (l.getD i z114).f0 ∧ (l.getD i z114).f0 ≤ 23
    · refine Ev.pos (decide_eq_true a) ?_
      by_cases b : 1 ≤ (l.getD i z114).f1 ∧ (l.getD i z114).f1 ≤ 64
      · rw [allF_yes _ (show meQ l i = true by unfold meQ; rw [decide_eq_true a, decide_eq_true b]; rfl)]
        exact Ev.pos (decide_eq_true b) hr
      · rw [allF_no _ (by omega) (show meQ l i = false by unfold meQ; rw [decide_eq_false b, Bool.and_false])]
        exact Ev.neg (by rw [decide_eq_true_iff]; exact b) (Ev.now _)
    · rw [allF_no _ (by omega) (show meQ l i = false by unfold meQ; rw [decide_eq_false a]; rfl)]
      exact Ev.neg (by rw [decide_eq_true_iff]; exact a) (Ev.now _)
theorem iMel (l : List S114) : Ev (fun k => impl_ValidMelody.f k l) (melB l) := by
  unfold impl_ValidMelody.f melB
  by_cases h : (l.length : Int) > 48
  · rw [decide_eq_false (show ¬ (l.length : Int) ≤ 48 by omega), Bool.and_false]
    exact Ev.pos h (Ev.now _)
  · rw [decide_eq_true (show (l.length : Int) ≤ 48 by omega), Bool.and_true]
    exact Ev.neg h (iMel_l0 l (by omega) l.length 0 (by omega))
def noCode (l : List S114) (s : ByteArray) (a b : List Int) (x : Int) : Int := if melB l = true then (if talaB s a b = true then (if 1 ≤ x ∧ x ≤ 8 then 0 else 2) else 1) else 1
theorem sNo (l : List S114) (s : ByteArray) (a b : List Int) (x : Int) (hl : l.length ≤ 17592186044416) (ha : a.length ≤ 35184372088832) : Ev (fun k => spec_l25Ask.f k l s a b x) (noCode l s a b x, s) := by
  unfold spec_l25Ask.f noCode
  have f : Ev (fun k => spec_l25Ask.j0 k x true s a b) (1, s) := by
    refine Ev.shift ?_
    simp only [spec_l25Ask.j0]
    exact Ev.pos trivial (Ev.now _)
  refine Ev.bind (sMel l hl) ?_
  cases melB l with
  | false =>
    rw [if_neg (show ¬ (false = true) by decide)]
    exact Ev.neg (by decide) f
  | true =>
    rw [if_pos (show true = true from rfl)]
    refine Ev.pos rfl (Ev.bind (sTala s a b ha) ?_)
    cases talaB s a b with
    | false =>
      rw [if_neg (show ¬ (false = true) by decide)]
      exact f
    | true =>
      rw [if_pos (show true = true from rfl)]
      refine Ev.shift ?_
      simp only [spec_l25Ask.j0, in_eq, Option.bind_some]
      refine Ev.neg (by decide) ?_
      by_cases h : 1 ≤ x ∧ x ≤ 8
      · rw [if_pos h]
        exact Ev.pos (decide_eq_true h) (Ev.now _)
      · rw [if_neg h]
        exact Ev.neg (by rw [decide_eq_true_iff]; exact h) (Ev.now _)
theorem iNo (l : List S114) (s : ByteArray) (a b : List Int) (x : Int) (ha : a.length ≤ 35184372088832) : Ev (fun k => impl_notationCode.f k l s a b x) (noCode l s a b x) := by
  unfold impl_notationCode.f noCode
  have f : Ev (fun k => impl_notationCode.j0 k x true) 1 := by
    refine Ev.shift ?_
    simp only [impl_notationCode.j0]
    exact Ev.pos trivial (Ev.now _)
  refine Ev.bind (iMel l) ?_
  cases melB l with
  | false =>
    rw [if_neg (show ¬ (false = true) by decide)]
    exact Ev.neg (by decide) f
  | true =>
    rw [if_pos (show true = true from rfl)]
    refine Ev.pos rfl (Ev.bind (iTala s a b ha) ?_)
    cases talaB s a b with
    | false =>
      rw [if_neg (show ¬ (false = true) by decide)]
      exact f
    | true =>
      rw [if_pos (show true = true from rfl)]
      refine Ev.shift ?_
      simp only [impl_notationCode.j0, within_eq, Option.bind_some]
      refine Ev.neg (by decide) ?_
      by_cases h : 1 ≤ x ∧ x ≤ 8
      · rw [if_pos h]
        exact Ev.pos (decide_eq_true h) (Ev.now _)
      · rw [if_neg h]
        exact Ev.neg (by rw [decide_eq_true_iff]; exact h) (Ev.now _)
theorem noCode_zero {l : List S114} {s : ByteArray} {a b : List Int} {x : Int} (h : noCode l s a b x = 0) : melB l = true ∧ talaB s a b = true ∧ 1 ≤ x ∧ x ≤ 8 := by
  unfold noCode at h
  split at h
  · split at h
    · split at h
      · exact ⟨by assumption, by assumption, by assumption⟩
      · cases h
    · cases h
  · cases h
theorem szList (l : List Int) (t : Int) (hl : l.length ≤ maxLen) (ht : 0 ≤ t ∧ t ≤ 1048576) : ∃ r, laws_szInt64S.f l t = some r ∧ r ≤ 1048576 ∧ (0 ≤ r → l.length ≤ 1048576) := by
  unfold laws_szInt64S.f
  unfold maxLen at hl
  rw [wid (by omega)]
  by_cases h : t - (l.length : Int) < 0
  · exact ⟨-1, by rw [if_pos h], by omega, fun h => by omega⟩
  · exact ⟨t - l.length, by rw [if_neg h], by omega, fun _ => by omega⟩
theorem szTala (s : ByteArray) (a b : List Int) (t : Int) (hs : s.size ≤ maxLen) (ha : a.length ≤ maxLen) (hb : b.length ≤ maxLen) (ht : 0 ≤ t ∧ t ≤ 1048576) : ∃ r, laws_szTala.f s a b t = some r ∧ (0 ≤ r → a.length ≤ 1048576 ∧ b.length ≤ 1048576) := by
  unfold laws_szTala.f
  unfold maxLen at hs
  rw [wid (by omega)]
  by_cases h : t - (s.size : Int) < 0
  · exact ⟨-1, by rw [if_pos h], fun h => by omega⟩
  · rw [if_neg h]
    obtain ⟨r, e, g1, g2⟩ := szList a (t - s.size) ha (by omega)
    rw [e]
    simp only [Option.bind_some]
    by_cases h2 : r < 0
    · exact ⟨-1, by rw [if_pos h2], fun h => by omega⟩
    · rw [if_neg h2]
      obtain ⟨r2, e2, g3, g4⟩ := szList b r hb (by omega)
      rw [e2]
      simp only [Option.bind_some]
      by_cases h3 : r2 < 0
      · exact ⟨-1, by rw [if_pos h3], fun h => by omega⟩
      · exact ⟨r2, by rw [if_neg h3], fun h => ⟨g2 (by omega), g4 h⟩⟩
theorem toTala (s : ByteArray) (a b : List Int) (ha : a.length ≤ 35184372088832) (hb : b.length ≤ 35184372088832) : Ev (fun k => laws_toTala.f k s a b) (s, a, b) := by
  unfold laws_toTala.f
  exact Ev.bind (toI a ha) (Ev.bind (toI b hb) (Ev.now _))
theorem eqTala (s : ByteArray) (a b : List Int) (ha : a.length ≤ 35184372088832) (hb : b.length ≤ 35184372088832) : Ev (fun k => laws_eqTala.f k s a b s a b) true := by
  unfold laws_eqTala.f
  exact Ev.pos rfl (Ev.bind (eqI a ha) (Ev.pos rfl (Ev.bind (eqI b hb) (Ev.pos rfl (Ev.now _)))))
theorem markTala (s : ByteArray) (a b : List Int) (m : Int) (h0 : 0 ≤ m) (h1 : m + a.length + b.length ≤ 9000000000000000000) : ∃ z : Int × List Int × List Int, 0 ≤ z.1 ∧ Ev (fun k => laws_markTala.f k s a b m) z := by
  unfold laws_markTala.f
  exact ⟨(m + a.length + b.length, marks m a.length, marks (m + a.length) b.length), by show 0 ≤ m + a.length + b.length; omega, Ev.bind (markI a m h0 (by omega)) (Ev.bind (markI b (m + a.length) (by omega) (by omega)) (Ev.now _))⟩
theorem notesSam (a b : List Int) (s : ByteArray) (x u : Int) (hu : wrap64 (wsum 0 a * x) = u) (hn : ¬ u = 0) (ha : a.length ≤ 35184372088832) (l : List S114) (hl : l.length ≤ 48) (d : Nat) : ∀ (i : Nat) (t : Int) (acc : List Int), i + d = l.length → acc.length ≤ i → ∃ r : List Int, r.length ≤ 48 ∧ Ev (fun k => spec_NotesAtSam.l0 k l x acc t i s a b) (r, 0) ∧ Ev (fun k => impl_NotesAtSam.l0 k x acc t l (l.length : Int) i s a b) (r, 0) := by
  have hU : Ev (fun k => spec_l19Units.f k s a b x) (u, s) := by
    unfold spec_l19Units.f spec_l17Beats.f
    refine Ev.bind (Ev.bind (sWsum a ha) (Ev.now _)) ?_
    simp only [hu]
    exact Ev.now _
  have hB : Ev (fun k => impl_Tala_beats.f k s a b) (wsum 0 a) := by
    unfold impl_Tala_beats.f
    exact Ev.bind (iWsum a ha) (Ev.now _)
  induction d with
  | zero =>
    intro i t acc h1 h2
    refine ⟨acc, by omega, Ev.shift ?_, Ev.shift ?_⟩
    · simp only [spec_NotesAtSam.l0]
      exact Ev.neg (by omega) (Ev.now _)
    · simp only [impl_NotesAtSam.l0]
      exact Ev.neg (by omega) (Ev.now _)
  | succ d ih =>
    intro i t acc h1 h2
    have p1 : (i : Int) < (l.length : Int) := by omega
    have w1 : wrap64 ((i : Int) + 1) = ((i + 1 : Nat) : Int) := by rw [wid (by omega)]; rfl
    by_cases c : Int.tmod t u = 0
    · obtain ⟨r, h, X, Y⟩ := ih (i + 1) (wrap64 (t + (l.getD i z114).f1)) (acc ++ [(i : Int)]) (by omega) (by rw [List.length_append, List.length_singleton]; omega)
      refine ⟨r, h, Ev.shift ?_, Ev.shift ?_⟩
      · simp only [spec_NotesAtSam.l0, rdNo, w1]
        exact Ev.pos p1 (Ev.bind hU (Ev.neg hn (Ev.pos c (Ev.pos (by omega) (Ev.pos (Int.natCast_nonneg _) X)))))
      · simp only [impl_NotesAtSam.l0, rdNo, w1]
        refine Ev.pos p1 (Ev.pos (Int.natCast_nonneg _) (Ev.pos p1 (Ev.bind hB ?_)))
        rw [hu]
        exact Ev.neg hn (Ev.pos c (Ev.pos (by omega) Y))
    · obtain ⟨r, h, X, Y⟩ := ih (i + 1) (wrap64 (t + (l.getD i z114).f1)) acc (by omega) (by omega)
      refine ⟨r, h, Ev.shift ?_, Ev.shift ?_⟩
      · simp only [spec_NotesAtSam.l0, rdNo, w1]
        exact Ev.pos p1 (Ev.bind hU (Ev.neg hn (Ev.neg c (Ev.pos (Int.natCast_nonneg _) X))))
      · simp only [impl_NotesAtSam.l0, rdNo, w1]
        refine Ev.pos p1 (Ev.pos (Int.natCast_nonneg _) (Ev.pos p1 (Ev.bind hB ?_)))
        rw [hu]
        exact Ev.neg hn (Ev.neg c Y)
theorem melB_len {l : List S114} (h : melB l = true) : l.length ≤ 48 := by
  unfold melB at h
  rw [Bool.and_eq_true, decide_eq_true_iff] at h
  omega
theorem notesBoth (l : List S114) (s : ByteArray) (a b : List Int) (x : Int) (hl : l.length ≤ 17592186044416) (ha : a.length ≤ 35184372088832) : ∃ r c, r.length ≤ 48 ∧ Ev (fun k => spec_NotesAtSam.f k l s a b x) (r, c) ∧ Ev (fun k => impl_NotesAtSam.f k l s a b x) (r, c) := by
  unfold spec_NotesAtSam.f impl_NotesAtSam.f
  have hs := sNo l s a b x hl ha
  have hi := iNo l s a b x ha
  by_cases h : noCode l s a b x = 0
  · obtain ⟨hm, ht, hx⟩ := noCode_zero h
    have hsum := talaB_sum ht
    have m1 : wsum 0 a * x ≤ 32 * 8 := Int.mul_le_mul hsum.2 hx.2 (by omega) (by omega)
    have m2 : 1 * 1 ≤ wsum 0 a * x := Int.mul_le_mul hsum.1 hx.1 (by omega) (by omega)
    have w : wrap64 (wsum 0 a * x) = wsum 0 a * x := wid (by omega)
    have n : ¬ wsum 0 a * x = 0 := by omega
    obtain ⟨r, h48, X, Y⟩ := notesSam a b s x (wsum 0 a * x) w n ha l (melB_len hm) l.length 0 0 [] (by omega) (by simp)
    exact ⟨r, 0, h48, Ev.bind hs (Ev.pos h X), Ev.bind hi (Ev.pos h Y)⟩
  · exact ⟨[], noCode l s a b x, by simp, Ev.bind hs (Ev.neg h (Ev.now _)), Ev.bind hi (Ev.neg h (Ev.now _))⟩
theorem FnExactNotesAtSam : laws_FnExactNotesAtSam.Pure := by
  intro l y x hm hy _
  refine Ev.rounds (g := fun k => laws_FnExactNotesAtSam.f k l y.f0 y.f1 y.f2 x) ?_
  obtain ⟨s, a, b⟩ := y
  obtain ⟨h1, ⟨h2, _⟩, h3, _⟩ := hy
  dsimp only at h1 h2 h3 ⊢
  unfold laws_FnExactNotesAtSam.f
  rw [szNote l hm.1]
  simp only [Option.bind_some]
  by_cases hl : l.length ≤ 1048576
  · rw [if_pos hl]
    refine Ev.neg (by omega) ?_
    obtain ⟨r, e, g⟩ := szTala s a b (1048576 - (l.length : Int)) h1 h2 h3 (by omega)
    rw [e]
    simp only [Option.bind_some]
    by_cases h0 : r < 0
    · exact Ev.pos h0 (Ev.now _)
    refine Ev.neg h0 ?_
    have g' := g (by omega)
    have hl' : l.length ≤ 17592186044416 := by omega
    have ha' : a.length ≤ 35184372088832 := by omega
    have hb' : b.length ≤ 35184372088832 := by omega
    have hc : (cpNote l).length ≤ 17592186044416 := by rw [cpNote_length]; exact hl'
    have hcl : (cpNote l).length = l.length := cpNote_length l
    obtain ⟨q, c, hq, hS, hI⟩ := notesBoth (cpNote l) s a b x hc ha'
    have hr : q.length ≤ 35184372088832 := by omega
    obtain ⟨l', _, _, hmn⟩ := markNote (cpNote l) 1 (by omega) (by omega)
    obtain ⟨z, hz0, hmt⟩ := markTala s a b (1 + 2 * (cpNote l).length) (by omega) (by omega)
    have hmk := markI q 1 (by omega) (by omega)
    have hhl := heldI q.length 1 (by omega) (by omega)
    repeat (first | exact Ev.now _ | refine Ev.bind hS ?_ | refine Ev.bind hI ?_ | refine Ev.bind (toNote l hl') ?_ | refine Ev.bind (eqNote _ hc) ?_ | refine Ev.bind (toTala s a b ha' hb') ?_ | refine Ev.bind (eqTala s a b ha' hb') ?_ | refine Ev.bind (eqI _ (by assumption)) ?_ | refine Ev.bind hmn ?_ | refine Ev.bind hmt ?_ | refine Ev.bind hmk ?_ | refine Ev.bind hhl ?_ | refine Ev.pos (by with_reducible rfl) ?_ | refine Ev.neg (by omega) ?_ | refine Ev.neg (by simp; done) ?_ | refine Ev.pos (by omega) ?_ | (refine Ev.shift ?_; simp only [laws_FnExactNotesAtSam.j0, laws_FnExactNotesAtSam.j1, laws_FnExactNotesAtSam.j2]))
  · rw [if_neg hl]
    exact Ev.pos (by omega) (Ev.now _)

end Go.Proofs.Ytfledgccnaknpaa.Pure
