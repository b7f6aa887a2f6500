/- The pure statement of the law FnExactSplitNotes: what the Go functions compute, told by plain Lean functions, is what the law asks, for all arguments. No condition beyond the printed ones. -/
import Derived.Test.YtfledgccnaknpaaPFnExactSplitNotesxo
import Derived.Test.YtfledgccnaknpaaXW
namespace Go.Proofs.Ytfledgccnaknpaa.Pure
open Go.RowKit Go.Proofs.Ytfledgccnaknpaa.PFnExactSplitNotes Go.Proofs.YtfledgccnaknpaaW.PrintWords Go.Proofs.YtfledgccnaknpaaW.PrintLast Go.Proofs.YtfledgccnaknpaaW.PrintMore Go.Proofs.YtfledgccnaknpaaXW
set_option linter.unusedVariables false
set_option linter.unusedSimpArgs false
theorem toI_l0 (l : List Int) (hl : l.length ≤ 35184372088832) (d : Nat) : ∀ (i : Nat) (acc : List Int), i + d = l.length → acc.length = l.length → acc.take i = l.take i → Ev (fun k => laws_toInt64S.l0 k l acc i) l := by
  induction d with
  | zero =>
    intro i acc h1 h2 h3
    refine Ev.shift ?_
    simp only [laws_toInt64S.l0]
    refine Ev.neg (by omega) ?_
    refine Ev.some ?_
    rw [List.take_of_length_le (by omega), List.take_of_length_le (by omega)] at h3
    rw [h3]
  | succ d ih =>
    intro i acc h1 h2 h3
    refine Ev.shift ?_
    simp only [laws_toInt64S.l0]
    refine Ev.pos (by omega) (Ev.pos (by omega) (Ev.pos (by omega) ?_))
    rw [wid (by omega), rd_get l i (by omega), Int.toNat_natCast]
    refine ih (i + 1) (acc.set i l[i]) (by omega) (by rw [List.length_set, h2]) ?_
    rw [List.take_succ_eq_append_getElem (by rw [List.length_set]; omega), List.take_succ_eq_append_getElem (by omega), List.take_set_of_le (by omega), List.getElem_set_self, h3]
theorem toI (l : List Int) (hl : l.length ≤ 35184372088832) : Ev (fun k => laws_toInt64S.f k l) l := by
  unfold laws_toInt64S.f
  refine Ev.pos (by omega) (Ev.pos (by omega) ?_)
  rw [Int.toNat_natCast]
  exact toI_l0 l hl l.length 0 _ (by omega) (by simp) (by simp)
theorem eqI_l0 (l : List Int) (hl : l.length ≤ 35184372088832) (d : Nat) : ∀ (i : Nat), i + d = l.length → Ev (fun k => laws_eqInt64S.l0 k l l i) true := by
  induction d with
  | zero =>
    intro i h1
    refine Ev.shift ?_
    simp only [laws_eqInt64S.l0]
    exact Ev.neg (by omega) (Ev.now _)
  | succ d ih =>
    intro i h1
    refine Ev.shift ?_
    simp only [laws_eqInt64S.l0]
    refine Ev.pos (by omega) (Ev.pos (by omega) (Ev.pos (by omega) (Ev.pos (by trivial) ?_)))
    rw [wid (by omega)]
    exact ih (i + 1) (by omega)
theorem eqI (l : List Int) (hl : l.length ≤ 35184372088832) : Ev (fun k => laws_eqInt64S.f k l l) true := by
  unfold laws_eqInt64S.f
  exact Ev.pos rfl (eqI_l0 l hl l.length 0 (by omega))
/-- what marks leave: from m on, one by one -/
def marks (m : Int) : Nat → List Int
  | 0 => []
  | n + 1 => m :: marks (m + 1) n
theorem marks_length (n : Nat) : ∀ m, (marks m n).length = n := by
  induction n with
  | zero => intro m; rfl
  | succ n ih => intro m; simp [marks, ih]
theorem marks_get (n : Nat) : ∀ (m : Int) (i : Nat) (h : i < (marks m n).length), (marks m n)[i] = m + i := by
  induction n with
  | zero => intro m i h; simp [marks] at h
  | succ n ih =>
    intro m i h
    cases i with
    | zero => simp [marks]
    | succ i => simp only [marks, List.getElem_cons_succ]; rw [ih]; omega
theorem marks_snoc (n : Nat) : ∀ m, marks m (n + 1) = marks m n ++ [m + n] := by
  induction n with
  | zero => intro m; simp [marks]
  | succ n ih =>
    intro m
    rw [marks, ih, marks, List.cons_append]
    congr 3
    simp; omega
theorem markI_l0 (m0 : Int) (n : Nat) (h0 : 0 ≤ m0) (h1 : m0 + n ≤ 9000000000000000000) (d : Nat) : ∀ (i : Nat) (acc : List Int), i + d = n → acc.length = n → acc.take i = marks m0 i → Ev (fun k => laws_markInt64S.l0 k acc (m0 + i) i) (m0 + n, marks m0 n) := by
  induction d with
  | zero =>
    intro i acc h2 h3 h4
    refine Ev.shift ?_
    simp only [laws_markInt64S.l0]
    refine Ev.neg (by omega) (Ev.some ?_)
    rw [List.take_of_length_le (by omega)] at h4
    rw [h4, show i = n by omega]
  | succ d ih =>
    intro i acc h2 h3 h4
    refine Ev.shift ?_
    simp only [laws_markInt64S.l0]
    refine Ev.pos (by omega) (Ev.pos (by omega) ?_)
    rw [wid (x := m0 + i + 1) (by omega), wid (x := (i : Int) + 1) (by omega), Int.toNat_natCast, show m0 + (i : Int) + 1 = m0 + ((i + 1 : Nat) : Int) by omega]
    refine ih (i + 1) _ (by omega) (by rw [List.length_set, h3]) ?_
    rw [List.take_succ_eq_append_getElem (by rw [List.length_set]; omega), List.take_set_of_le (by omega), List.getElem_set_self, h4, marks_snoc]
theorem markI (l : List Int) (m : Int) (h0 : 0 ≤ m) (h1 : m + l.length ≤ 9000000000000000000) : Ev (fun k => laws_markInt64S.f k l m) (m + l.length, marks m l.length) := by
  unfold laws_markInt64S.f
  have := markI_l0 m l.length h0 h1 l.length 0 l (by omega) rfl (by simp [marks])
  simpa using this
theorem heldI_l0 (m0 : Int) (n : Nat) (h0 : 0 ≤ m0) (h1 : m0 + n ≤ 9000000000000000000) (d : Nat) : ∀ (i : Nat), i + d = n → Ev (fun k => laws_heldInt64S.l0 k (marks m0 n) (m0 + i) i) (m0 + n) := by
  induction d with
  | zero =>
    intro i h2
    refine Ev.shift ?_
    simp only [laws_heldInt64S.l0, marks_length]
    exact Ev.neg (by omega) (Ev.some (by rw [show i = n by omega]))
  | succ d ih =>
    intro i h2
    refine Ev.shift ?_
    simp only [laws_heldInt64S.l0, marks_length]
    refine Ev.pos (by omega) (Ev.pos (by omega) (Ev.pos (by rw [rd_get _ _ (by rw [marks_length]; omega), marks_get]) ?_))
    rw [wid (x := m0 + i + 1) (by omega), wid (x := (i : Int) + 1) (by omega), show m0 + (i : Int) + 1 = m0 + ((i + 1 : Nat) : Int) by omega]
    exact ih (i + 1) (by omega)
theorem heldI (n : Nat) (m : Int) (h0 : 0 ≤ m) (h1 : m + n ≤ 9000000000000000000) : Ev (fun k => laws_heldInt64S.f k (marks m n) m) (m + n) := by
  unfold laws_heldInt64S.f
  have := heldI_l0 m n h0 h1 n 0 (by omega)
  simpa using this
def risQ (l : List Int) (lo hi : Int) (j : Nat) : Bool := decide (lo ≤ l.getD j 0 ∧ l.getD j 0 ≤ hi) && (decide (j = 0) || decide (l.getD (j - 1) 0 < l.getD j 0))
theorem in_eq (a b c : Int) : spec_l00In.f a b c = some (decide (b ≤ a ∧ a ≤ c)) := by
  unfold spec_l00In.f; split <;> simp_all; omega
theorem within_eq (a b c : Int) : impl_within.f a b c = some (decide (b ≤ a ∧ a ≤ c)) := by
  unfold impl_within.f; split <;> simp_all; omega
theorem allIn_eq (l : List Int) (a b : Int) : impl_allWithin.f l a b = some (l.all fun x => decide (a ≤ x ∧ x ≤ b)) := by
  unfold impl_allWithin.f
  rw [List.not_any_eq_all_not]
  congr 2
  funext x
  simp [allP]
theorem sLen1 (n : Int) : spec_l09Length.f n = some (decide (1 ≤ n ∧ n ≤ 64)) := by
  unfold spec_l09Length.f; rw [in_eq]; rfl
theorem iLen1 (n : Int) : impl_lengthOk.f n = some (decide (1 ≤ n ∧ n ≤ 64)) := by
  unfold impl_lengthOk.f; rw [within_eq]; rfl
def cpNote (l : List S116) : List S114 := l.map fun x => ⟨x.f0, x.f1⟩
theorem toNote_l0 (l : List S116) (hl : l.length ≤ 17592186044416) (d : Nat) : ∀ (i : Nat) (acc : List S114), i + d = l.length → acc.length = l.length → acc.take i = (cpNote l).take i → Ev (fun k => laws_toNoteS.l0 k l acc i) (cpNote l) := by
  have hc : (cpNote l).length = l.length := List.length_map _
  induction d with
  | zero =>
    intro i acc h1 h2 h3
    refine Ev.shift ?_
    simp only [laws_toNoteS.l0]
    refine Ev.neg (by omega) (Ev.some ?_)
    rw [List.take_of_length_le (by omega), List.take_of_length_le (by omega)] at h3
    rw [h3]
  | succ d ih =>
    intro i acc h1 h2 h3
    refine Ev.shift ?_
    simp only [laws_toNoteS.l0, laws_toNote.f, Option.bind_some]
    refine Ev.pos (by omega) (Ev.pos (by omega) (Ev.pos (by omega) ?_))
    rw [wid (by omega), Int.toNat_natCast]
    refine ih (i + 1) _ (by omega) (by rw [List.length_set, h2]) ?_
    rw [List.take_succ_eq_append_getElem (by rw [List.length_set]; omega), List.take_succ_eq_append_getElem (by omega), List.take_set_of_le (by omega), List.getElem_set_self, h3]
    have e : rd_T116 l (i : Int) = l[i] := by
      unfold rd_T116
      rw [Int.toNat_natCast, List.getD_eq_getElem?_getD, List.getElem?_eq_getElem (by omega), Option.getD_some]
    simp only [cpNote, List.getElem_map, e]
theorem toNote (l : List S116) (hl : l.length ≤ 17592186044416) : Ev (fun k => laws_toNoteS.f k l) (cpNote l) := by
  unfold laws_toNoteS.f
  refine Ev.pos (by omega) (Ev.pos (by omega) ?_)
  rw [Int.toNat_natCast]
  exact toNote_l0 l hl l.length 0 _ (by omega) (by simp) (by simp)
theorem cpNote_length (l : List S116) : (cpNote l).length = l.length := List.length_map _
theorem eqNote_l0 (l : List S114) (hl : l.length ≤ 17592186044416) (d : Nat) : ∀ (i : Nat), i + d = l.length → Ev (fun k => laws_eqNoteS.l0 k l l i) true := by
  induction d with
  | zero =>
    intro i h1
    refine Ev.shift ?_
    simp only [laws_eqNoteS.l0]
    exact Ev.neg (by omega) (Ev.now _)
  | succ d ih =>
    intro i h1
    refine Ev.shift ?_
    simp only [laws_eqNoteS.l0, laws_eqNote.f, Option.bind_some, if_true]
    refine Ev.pos (by omega) (Ev.pos (by omega) (Ev.pos (by omega) ?_))
    rw [wid (by omega)]
    exact ih (i + 1) (by omega)
theorem eqNote (l : List S114) (hl : l.length ≤ 17592186044416) : Ev (fun k => laws_eqNoteS.f k l l) true := by
  unfold laws_eqNoteS.f
  exact Ev.pos rfl (eqNote_l0 l hl l.length 0 (by omega))
theorem szNote (l : List S116) (hl : l.length ≤ maxLen) : laws_szNoteS.f l 1048576 = some (if l.length ≤ 1048576 then 1048576 - (l.length : Int) else -1) := by
  unfold laws_szNoteS.f
  unfold maxLen at hl
  rw [wid (by omega)]
  by_cases h : l.length ≤ 1048576
  · rw [if_neg (by omega), if_pos h]
  · rw [if_pos (by omega), if_neg h]
theorem getDsetNote (l : List S114) (i j : Nat) (v : S114) (h : i < l.length) : (l.set i v).getD j z114 = if i = j then v else l.getD j z114 := by
  rw [List.getD_eq_getElem?_getD, List.getElem?_set, List.getD_eq_getElem?_getD]
  split
  · rename_i e; subst e; simp [h]
  · rfl
theorem rdMNote (l : List S114) (i : Nat) : rd_T114 l (i : Int) = l.getD i z114 := by
  unfold rd_T114
  rw [Int.toNat_natCast]
theorem markNote_l0 (m0 : Int) (n : Nat) (h0 : 0 ≤ m0) (h1 : m0 + 2 * n ≤ 9000000000000000000) (d : Nat) : ∀ (i : Nat) (acc : List S114), i + d = n → acc.length = n → (∀ j, j < i → acc.getD j z114 = ⟨m0 + 2 * j, m0 + 2 * j + 1⟩) → ∃ l', l'.length = n ∧ (∀ j, j < n → l'.getD j z114 = ⟨m0 + 2 * j, m0 + 2 * j + 1⟩) ∧ Ev (fun k => laws_markNoteS.l0 k acc (m0 + 2 * i) i) (m0 + 2 * n, l') := by
  induction d with
  | zero =>
    intro i acc hi ha h
    obtain rfl : i = n := by omega
    refine ⟨acc, ha, h, ?_⟩
    refine Ev.shift ?_
    simp only [laws_markNoteS.l0]
    exact Ev.neg (by omega) (Ev.now _)
  | succ d ih =>
    intro i acc hi ha h
    have g1 := getDsetNote acc i i ⟨m0 + 2 * i, (acc.getD i z114).f1⟩ (by omega)
    rw [if_pos rfl] at g1
    have w1 : wrap64 (m0 + 2 * (i : Int) + 1) = m0 + 2 * i + 1 := wid (by omega)
    have w2 : wrap64 (m0 + 2 * (i : Int) + 1 + 1) = m0 + 2 * ((i + 1 : Nat) : Int) := by rw [wid (by omega)]; omega
    have w3 : wrap64 ((i : Int) + 1) = ((i + 1 : Nat) : Int) := by rw [wid (by omega)]; rfl
    obtain ⟨l', a1, a2, a3⟩ := ih (i + 1) (acc.set i ⟨m0 + 2 * i, m0 + 2 * i + 1⟩) (by omega) (by rw [List.length_set]; exact ha) (fun j hj => by
      rw [getDsetNote acc i j _ (by omega)]
      split
      · rename_i e; rw [e]
      · exact h j (by omega))
    refine ⟨l', a1, a2, ?_⟩
    refine Ev.shift ?_
    simp only [laws_markNoteS.l0]
    clear a1 a2 ih h
    have p1 : (i : Int) < (acc.length : Int) := by clear w1 w2 w3 g1; omega
    refine Ev.pos p1 (Ev.pos (Int.natCast_nonneg _) ?_)
    simp only [Option.bind_some, Int.toNat_natCast, rdMNote, g1, w1, w2, w3, List.set_set]
    exact a3
theorem markNote (l : List S114) (m : Int) (h0 : 0 ≤ m) (h1 : m + 2 * l.length ≤ 9000000000000000000) : ∃ l', l'.length = l.length ∧ (∀ j, j < l.length → l'.getD j z114 = ⟨m + 2 * j, m + 2 * j + 1⟩) ∧ Ev (fun k => laws_markNoteS.f k l m) (m + 2 * l.length, l') := by
  obtain ⟨l', a1, a2, a3⟩ := markNote_l0 m l.length h0 h1 l.length 0 l (by omega) rfl (fun j hj => by omega)
  refine ⟨l', a1, a2, ?_⟩
  have e : m + 2 * ((0 : Nat) : Int) = m := by omega
  rw [e] at a3
  exact a3
def chQ (s : ByteArray) (j : Nat) : Bool := decide (97 ≤ bt s j ∧ bt s j ≤ 122) || decide (48 ≤ bt s j ∧ bt s j ≤ 57)
def nameB (s : ByteArray) : Bool := decide (1 ≤ s.size ∧ s.size ≤ 10) && (decide (97 ≤ bt s 0 ∧ bt s 0 ≤ 122) && allF (chQ s) s.size 0)
theorem small_eq (a : Int) : spec_l01Small.f a = some (decide (97 ≤ a ∧ a ≤ 122)) := by
  unfold spec_l01Small.f; split <;> simp_all; omega
theorem digit_eq (a : Int) : spec_l01Digit.f a = some (decide (48 ≤ a ∧ a ≤ 57)) := by
  unfold spec_l01Digit.f; split <;> simp_all; omega
theorem sName_l0 (s : ByteArray) (hs : s.size ≤ 10) (d : Nat) : ∀ (i : Nat), i + d = s.size → Ev (fun k => spec_l01Name.l0 k s i) (allF (chQ s) s.size i) := by
  induction d with
  | zero =>
    intro i h1
    refine Ev.shift ?_
    simp only [spec_l01Name.l0]
    exact Ev.neg (by omega) (Ev.some (by rw [allF_end _ (by omega)]))
  | succ d ih =>
    intro i h1
    have w1 : wrap64 ((i : Int) + 1) = ((i + 1 : Nat) : Int) := by rw [wid (by omega)]; rfl
    refine Ev.shift ?_
    simp only [spec_l01Name.l0, small_eq, digit_eq, Option.bind_some, w1]
    refine Ev.pos (by omega) (Ev.pos (by omega) ?_)
    by_cases a : 97 ≤ bt s i ∧ bt s i ≤ 122
    · rw [allF_yes _ (show chQ s i = true by unfold chQ; rw [decide_eq_true a]; rfl)]
      exact Ev.pos (decide_eq_true a) (ih (i + 1) (by omega))
    · refine Ev.neg (by rw [decide_eq_true_iff]; exact a) ?_
      by_cases b : 48 ≤ bt s i ∧ bt s i ≤ 57
      · rw [allF_yes _ (show chQ s i = true by unfold chQ; rw [decide_eq_true b, Bool.or_true])]
        exact Ev.pos (decide_eq_true b) (ih (i + 1) (by omega))
      · rw [allF_no _ (by omega) (show chQ s i = false by unfold chQ; rw [decide_eq_false a, decide_eq_false b]; rfl)]
        exact Ev.neg (by rw [decide_eq_true_iff]; exact b) (Ev.now _)
theorem sName (s : ByteArray) : Ev (fun k => spec_l01Name.f k s) (nameB s) := by
  unfold spec_l01Name.f nameB
  simp only [small_eq, Option.bind_some]
  have e : s.toList.length = s.size := by rw [ByteArray.toList_eq]; simp
  have f : Ev (fun k => spec_l01Name.j0 k s true) false := by
    refine Ev.shift ?_
    simp only [spec_l01Name.j0]
    exact Ev.pos trivial (Ev.now _)
  by_cases h0 : s.toList = []
  · refine Ev.pos h0 ?_
    rw [h0] at e
    rw [decide_eq_false (by simp at e; omega)]
    exact f
  · refine Ev.neg h0 ?_
    have hp : 0 < s.toList.length := List.length_pos_iff.2 h0
    by_cases h1 : (s.size : Int) > 10
    · refine Ev.pos h1 ?_
      rw [decide_eq_false (show ¬ (1 ≤ s.size ∧ s.size ≤ 10) by omega)]
      exact f
    · refine Ev.neg h1 (Ev.pos (by omega) ?_)
      rw [decide_eq_true (show 1 ≤ s.size ∧ s.size ≤ 10 by omega), Bool.true_and]
      cases hb : decide (97 ≤ bt s 0 ∧ bt s 0 ≤ 122) with
      | false => exact f
      | true =>
        refine Ev.shift ?_
        simp only [spec_l01Name.j0]
        exact Ev.neg (by decide) (sName_l0 s (by omega) s.size 0 (by omega))
theorem iName_l0 (s : ByteArray) (hs : s.size ≤ 10) (d : Nat) : ∀ (i : Nat), i + d = s.size → Ev (fun k => impl_onlyNameBytes.l0 k s (s.size : Int) i) (allF (chQ s) s.size i) := by
  induction d with
  | zero =>
    intro i h1
    refine Ev.shift ?_
    simp only [impl_onlyNameBytes.l0]
    exact Ev.neg (by omega) (Ev.some (by rw [allF_end _ (by omega)]))
  | succ d ih =>
    intro i h1
    have w1 : wrap64 ((i : Int) + 1) = ((i + 1 : Nat) : Int) := by rw [wid (by omega)]; rfl
    refine Ev.shift ?_
    simp only [impl_onlyNameBytes.l0, w1]
    refine Ev.pos (by omega) (Ev.pos (by omega) (Ev.pos (by omega) ?_))
    by_cases a : 97 ≤ bt s i ∧ bt s i ≤ 122
    · rw [allF_yes _ (show chQ s i = true by unfold chQ; rw [decide_eq_true a]; rfl)]
      exact Ev.neg (by omega) (Ev.neg (by omega) (ih (i + 1) (by omega)))
    · by_cases b : 48 ≤ bt s i ∧ bt s i ≤ 57
      · rw [allF_yes _ (show chQ s i = true by unfold chQ; rw [decide_eq_true b, Bool.or_true])]
        exact Ev.pos (by omega) (Ev.neg (by omega) (Ev.neg (by omega) (ih (i + 1) (by omega))))
      · rw [allF_no _ (by omega) (show chQ s i = false by unfold chQ; rw [decide_eq_false a, decide_eq_false b]; rfl)]
        by_cases c : bt s i < 97
        · refine Ev.pos c ?_
          by_cases c2 : bt s i < 48
          · exact Ev.pos c2 (Ev.now _)
          · exact Ev.neg c2 (Ev.pos (by omega) (Ev.now _))
        · exact Ev.neg c (Ev.pos (by omega) (Ev.neg (by omega) (Ev.pos (by omega) (Ev.now _))))
theorem iName (s : ByteArray) : Ev (fun k => impl_IsName.f k s) (nameB s) := by
  unfold impl_IsName.f nameB impl_onlyNameBytes.f
  by_cases h0 : (s.size : Int) < 1
  · rw [decide_eq_false (show ¬ (1 ≤ s.size ∧ s.size ≤ 10) by omega)]
    exact Ev.pos h0 (Ev.now _)
  · refine Ev.neg h0 ?_
    by_cases h1 : (s.size : Int) > 10
    · rw [decide_eq_false (show ¬ (1 ≤ s.size ∧ s.size ≤ 10) by omega)]
      exact Ev.pos h1 (Ev.now _)
    · rw [decide_eq_true (show 1 ≤ s.size ∧ s.size ≤ 10 by omega), Bool.true_and]
      refine Ev.neg h1 (Ev.pos (by omega) ?_)
      by_cases a : bt s 0 < 97
      · rw [decide_eq_false (show ¬ (97 ≤ bt s 0 ∧ bt s 0 ≤ 122) by omega)]
        exact Ev.pos a (Ev.now _)
      · refine Ev.neg a ?_
        by_cases b : bt s 0 > 122
        · rw [decide_eq_false (show ¬ (97 ≤ bt s 0 ∧ bt s 0 ≤ 122) by omega)]
          exact Ev.pos b (Ev.now _)
        · rw [decide_eq_true (show 97 ≤ bt s 0 ∧ bt s 0 ≤ 122 by omega), Bool.true_and]
          exact Ev.neg b (Ev.bind (iName_l0 s (by omega) s.size 0 (by omega)) (Ev.now _))
def wsum : Int → List Int → Int
  | s, [] => s
  | s, x :: l => wsum (wrap64 (s + x)) l
theorem consW (g : List Int) (i : Nat) (h : i < g.length) : g.drop i = g.getD i 0 :: g.drop (i + 1) := by
  rw [List.drop_eq_getElem_cons h, List.getD_eq_getElem?_getD, List.getElem?_eq_getElem h]; rfl
theorem sWsum_l0 (l : List Int) (hl : l.length ≤ 35184372088832) (d : Nat) : ∀ (i : Nat) (s : Int), i + d = l.length → Ev (fun k => spec_l17Sum.l0 k l s i) (wsum s (l.drop i)) := by
  induction d with
  | zero =>
    intro i s h1
    refine Ev.shift ?_
    simp only [spec_l17Sum.l0]
    rw [List.drop_of_length_le (by omega), wsum]
    exact Ev.neg (by omega) (Ev.now _)
  | succ d ih =>
    intro i s h1
    have p1 : (i : Int) < (l.length : Int) := by omega
    have w1 : wrap64 ((i : Int) + 1) = ((i + 1 : Nat) : Int) := by rw [wid (by omega)]; rfl
    refine Ev.shift ?_
    simp only [spec_l17Sum.l0, rd_nat, w1]
    rw [consW l i (by omega), wsum]
    exact Ev.pos p1 (Ev.pos (Int.natCast_nonneg _) (ih (i + 1) _ (by omega)))
theorem sWsum (l : List Int) (hl : l.length ≤ 35184372088832) : Ev (fun k => spec_l17Sum.f k l) (wsum 0 l) :=
  sWsum_l0 l hl l.length 0 0 (by omega)
theorem iWsum_l0 (l : List Int) (hl : l.length ≤ 35184372088832) (d : Nat) : ∀ (i : Nat) (s : Int), i + d = l.length → Ev (fun k => impl_sumOf.l0 k s l (l.length : Int) i) (wsum s (l.drop i)) := by
  induction d with
  | zero =>
    intro i s h1
    refine Ev.shift ?_
    simp only [impl_sumOf.l0]
    rw [List.drop_of_length_le (by omega), wsum]
    exact Ev.neg (by omega) (Ev.now _)
  | succ d ih =>
    intro i s h1
    have p1 : (i : Int) < (l.length : Int) := by omega
    have w1 : wrap64 ((i : Int) + 1) = ((i + 1 : Nat) : Int) := by rw [wid (by omega)]; rfl
    refine Ev.shift ?_
    simp only [impl_sumOf.l0, rd_nat, w1]
    rw [consW l i (by omega), wsum]
    exact Ev.pos p1 (Ev.pos (Int.natCast_nonneg _) (Ev.pos p1 (ih (i + 1) _ (by omega))))
theorem iWsum (l : List Int) (hl : l.length ≤ 35184372088832) : Ev (fun k => impl_sumOf.f k l) (wsum 0 l) :=
  iWsum_l0 l hl l.length 0 0 (by omega)
theorem wsum_bd (l : List Int) : ∀ s : Int, 0 ≤ s → (∀ x ∈ l, 1 ≤ x ∧ x ≤ 16) → s + 16 * l.length ≤ 1000000 → s + l.length ≤ wsum s l ∧ wsum s l ≤ s + 16 * l.length := by
  induction l with
  | nil => intro s h1 _ h3; rw [wsum]; simp
  | cons x l ih =>
    intro s h1 h2 h3
    have hx := h2 x (by simp)
    rw [List.length_cons] at h3
    have := ih (s + x) (by omega) (fun y hy => h2 y (by simp [hy])) (by omega)
    rw [wsum, wid (by omega), List.length_cons]
    omega
def taQ (a b : List Int) (j : Nat) : Bool := decide (1 ≤ a.getD j 0 ∧ a.getD j 0 ≤ 16) && (if j = 0 then decide (b.getD j 0 = 1) else decide (2 ≤ b.getD j 0 ∧ b.getD j 0 ≤ 3))
def talaB (s : ByteArray) (a b : List Int) : Bool := nameB s && (decide (1 ≤ (a.length : Int) ∧ (a.length : Int) ≤ 8) && (decide ((b.length : Int) = (a.length : Int)) && (allF (taQ a b) a.length 0 && decide (wsum 0 a ≤ 32))))
theorem sTala_l0 (s : ByteArray) (a b : List Int) (h8 : a.length ≤ 8) (hb : b.length = a.length) (d : Nat) : ∀ (i : Nat), i + d = a.length → Ev (fun k => spec_l17Ok.l0 k (a.length : Int) i s a b) (allF (taQ a b) a.length i && decide (wsum 0 a ≤ 32), s) := by
  induction d with
  | zero =>
    intro i h1
    refine Ev.shift ?_
    simp only [spec_l17Ok.l0]
    refine Ev.neg (by omega) (Ev.bind (sWsum a (by omega)) ?_)
    rw [allF_end _ (by omega), Bool.true_and]
    exact Ev.now _
  | succ d ih =>
    intro i h1
    have p1 : (i : Int) < (a.length : Int) := by omega
    have p2 : (i : Int) < (b.length : Int) := by omega
    have w1 : wrap64 ((i : Int) + 1) = ((i + 1 : Nat) : Int) := by rw [wid (by omega)]; rfl
    have hr := ih (i + 1) (by omega)
    refine Ev.shift ?_
    simp only [spec_l17Ok.l0, rd_nat, in_eq, Option.bind_some, w1]
    refine Ev.pos p1 (Ev.pos (Int.natCast_nonneg _) (Ev.pos p1 ?_))
    by_cases ha : 1 ≤ a.getD i 0 ∧ a.getD i 0 ≤ 16
    · refine Ev.pos (decide_eq_true ha) ?_
      by_cases h0 : i = 0
      · subst h0
        refine Ev.pos rfl (Ev.pos p2 ?_)
        by_cases h : b.getD 0 0 = 1
        · rw [allF_yes _ (show taQ a b 0 = true by unfold taQ; rw [decide_eq_true ha, if_pos rfl, decide_eq_true h]; rfl)]
          exact Ev.pos h (Ev.neg (by omega) hr)
        · rw [allF_no _ (by omega) (show taQ a b 0 = false by unfold taQ; rw [decide_eq_true ha, if_pos rfl, decide_eq_false h]; rfl)]
          exact Ev.neg h (Ev.now _)
      · refine Ev.neg (by omega) (Ev.pos (by omega) (Ev.pos p2 ?_))
        by_cases h : 2 ≤ b.getD i 0 ∧ b.getD i 0 ≤ 3
        · rw [allF_yes _ (show taQ a b i = true by unfold taQ; rw [decide_eq_true ha, if_neg h0, decide_eq_true h]; rfl)]
          exact Ev.pos (decide_eq_true h) hr
        · rw [allF_no _ (by omega) (show taQ a b i = false by unfold taQ; rw [decide_eq_true ha, if_neg h0, decide_eq_false h]; rfl)]
          exact Ev.neg (by rw [decide_eq_true_iff]; exact h) (Ev.now _)
    · rw [allF_no _ (by omega) (show taQ a b i = false by unfold taQ; rw [decide_eq_false ha]; rfl)]
      exact Ev.neg (by rw [decide_eq_true_iff]; exact ha) (Ev.now _)
theorem sTala (s : ByteArray) (a b : List Int) (hl : a.length ≤ 35184372088832) : Ev (fun k => spec_l17Ok.f k s a b) (talaB s a b, s) := by
  unfold spec_l17Ok.f talaB
  simp only [in_eq, Option.bind_some]
  have f : Ev (fun k => spec_l17Ok.j0 k (a.length : Int) true s a b) (false, s) := by
    refine Ev.shift ?_
    simp only [spec_l17Ok.j0]
    exact Ev.pos trivial (Ev.now _)
  refine Ev.bind (sName s) ?_
  cases nameB s with
  | false => exact Ev.neg (by decide) f
  | true =>
    refine Ev.pos rfl ?_
    rw [Bool.true_and]
    by_cases h8 : 1 ≤ (a.length : Int) ∧ (a.length : Int) ≤ 8
    · rw [decide_eq_true h8, Bool.true_and]
      refine Ev.pos rfl ?_
      by_cases hb : (b.length : Int) = (a.length : Int)
      · rw [decide_eq_true hb, Bool.true_and, show ((b.length : Int) != (a.length : Int)) = false from by rw [hb]; simp]
        refine Ev.shift ?_
        simp only [spec_l17Ok.j0]
        exact Ev.neg (by decide) (sTala_l0 s a b (by omega) (by omega) a.length 0 (by omega))
      · rw [decide_eq_false hb, Bool.false_and, show ((b.length : Int) != (a.length : Int)) = true from bne_iff_ne.2 hb]
        exact f
    · rw [decide_eq_false h8, Bool.false_and]
      exact Ev.neg (by decide) f
theorem talaB_sum {s : ByteArray} {a b : List Int} (h : talaB s a b = true) : 1 ≤ wsum 0 a ∧ wsum 0 a ≤ 32 := by
  unfold talaB at h
  rw [Bool.and_eq_true, Bool.and_eq_true, Bool.and_eq_true, Bool.and_eq_true, decide_eq_true_iff, decide_eq_true_iff, allF_iff] at h
  obtain ⟨_, h1, _, h2, h3⟩ := h
  refine ⟨?_, of_decide_eq_true h3⟩
  have := wsum_bd a 0 (Int.le_refl _) (fun x hx => by
    obtain ⟨j, hj, rfl⟩ := List.getElem_of_mem hx
    have := h2 j hj (Nat.zero_le _)
    unfold taQ at this
    rw [Bool.and_eq_true, decide_eq_true_iff, List.getD_eq_getElem?_getD, List.getElem?_eq_getElem hj] at this
    exact this.1) (by omega)
  omega
theorem iTala (s : ByteArray) (a b : List Int) (hl : a.length ≤ 35184372088832) : Ev (fun k => impl_ValidTala.f k s a b) (talaB s a b) := by
  unfold impl_ValidTala.f talaB impl_Tala_beats.f
  simp only [allIn_eq, Option.bind_some]
  refine Ev.bind (iName s) ?_
  cases nameB s with
  | false => exact Ev.neg (by decide) (Ev.now _)
  | true =>
    refine Ev.pos rfl ?_
    rw [Bool.true_and]
    by_cases g1 : (a.length : Int) < 1
    · rw [decide_eq_false (show ¬ (1 ≤ (a.length : Int) ∧ (a.length : Int) ≤ 8) by omega)]
      exact Ev.pos g1 (Ev.now _)
    refine Ev.neg g1 ?_
    by_cases g2 : (a.length : Int) > 8
    · rw [decide_eq_false (show ¬ (1 ≤ (a.length : Int) ∧ (a.length : Int) ≤ 8) by omega)]
      exact Ev.pos g2 (Ev.now _)
    refine Ev.neg g2 ?_
    rw [decide_eq_true (show 1 ≤ (a.length : Int) ∧ (a.length : Int) ≤ 8 by omega), Bool.true_and]
    have ga : (a.all fun x => decide (1 ≤ x ∧ x ≤ 16)) = true ↔ ∀ j, j < a.length → 1 ≤ a.getD j 0 ∧ a.getD j 0 ≤ 16 := by
      rw [all_iff_get]
      exact ⟨fun h j hj => of_decide_eq_true (h j hj), fun h j hj => decide_eq_true (h j hj)⟩
    have fal : (∃ j, j < a.length ∧ taQ a b j = false) → allF (taQ a b) a.length 0 = false := by
      rintro ⟨j, hj, h⟩
      cases hq : allF (taQ a b) a.length 0 with
      | false => rfl
      | true => rw [allF_iff] at hq; rw [hq j hj (Nat.zero_le _)] at h; cases h
    cases ha : (a.all fun x => decide (1 ≤ x ∧ x ≤ 16)) with
    | false =>
      have : allF (taQ a b) a.length 0 = false := by
        cases hq : allF (taQ a b) a.length 0 with
        | false => rfl
        | true =>
          rw [allF_iff] at hq
          rw [ga.2 (fun j hj => by
            have := hq j hj (Nat.zero_le _)
            unfold taQ at this
            rw [Bool.and_eq_true, decide_eq_true_iff] at this
            exact this.1)] at ha
          cases ha
      rw [this, Bool.false_and, Bool.and_false]
      exact Ev.neg (by decide) (Ev.now _)
    | true =>
      have ha' := ga.1 ha
      refine Ev.pos rfl ?_
      refine Ev.bind (Ev.bind (iWsum a hl) (Ev.now _)) ?_
      by_cases g3 : wsum 0 a > 32
      · rw [decide_eq_false (show ¬ wsum 0 a ≤ 32 by omega), Bool.and_false, Bool.and_false]
        exact Ev.pos g3 (Ev.now _)
      refine Ev.neg g3 ?_
      rw [decide_eq_true (show wsum 0 a ≤ 32 by omega), Bool.and_true]
      by_cases hb : (b.length : Int) = (a.length : Int)
      · rw [decide_eq_true hb, Bool.true_and]
        refine Ev.pos hb (Ev.pos (by omega) ?_)
        have e0 : rd b 0 = b.getD 0 0 := rd_nat b 0
        rw [e0]
        by_cases h0 : b.getD 0 0 = 1
        · refine Ev.pos h0 (Ev.pos (by omega) (Ev.some ?_))
          rw [Option.some_inj, Bool.eq_iff_iff, all_iff_get, allF_iff, List.length_drop]
          have gd : ∀ j, (b.drop 1).getD j 0 = b.getD (1 + j) 0 := fun j => by rw [List.getD_eq_getElem?_getD, List.getElem?_drop, List.getD_eq_getElem?_getD]
          constructor
          · intro h j hj _
            unfold taQ
            rw [decide_eq_true (ha' j hj), Bool.true_and]
            by_cases hj0 : j = 0
            · subst hj0; rw [if_pos rfl]; exact decide_eq_true h0
            · rw [if_neg hj0]
              have := h (j - 1) (by omega)
              rw [gd, show 1 + (j - 1) = j by omega] at this
              exact this
          · intro h j hj
            have := h (1 + j) (by omega) (Nat.zero_le _)
            unfold taQ at this
            rw [Bool.and_eq_true, if_neg (by omega)] at this
            rw [gd]
            exact this.2
        · rw [fal ⟨0, by omega, by unfold taQ; rw [if_pos rfl, decide_eq_false h0, Bool.and_false]⟩]
          exact Ev.neg h0 (Ev.now _)
      · rw [decide_eq_false hb, Bool.false_and]
        exact Ev.neg hb (Ev.now _)
def meQ (l : List S114) (j : Nat) : Bool := decide (-12 ≤ (l.getD j z114).f0 ∧ (l.getD j z114).f0 ≤ 23) && decide (1 ≤ (l.getD j z114).f1 ∧ (l.getD j z114).f1 ≤ 64)
def melB (l : List S114) : Bool := allF (meQ l) l.length 0 && decide ((l.length : Int) ≤ 48)
theorem rdNo (l : List S114) (i : Nat) : rd_T114 l (i : Int) = l.getD i z114 := by
  unfold rd_T114
  rw [Int.toNat_natCast]
theorem sMel_l0 (l : List S114) (hl : l.length ≤ 17592186044416) (d : Nat) : ∀ (i : Nat), i + d = l.length → Ev (fun k => spec_l09Ok.l0 k l i) (allF (meQ l) l.length i && decide ((l.length : Int) ≤ 48)) := by
  induction d with
  | zero =>
    intro i h1
    refine Ev.shift ?_
    simp only [spec_l09Ok.l0]
    exact Ev.neg (by omega) (Ev.some (by rw [allF_end _ (by omega), Bool.true_and]))
  | succ d ih =>
    intro i h1
    have w1 : wrap64 ((i : Int) + 1) = ((i + 1 : Nat) : Int) := by rw [wid (by omega)]; rfl
    have hr := ih (i + 1) (by omega)
    refine Ev.shift ?_
    simp only [spec_l09Ok.l0, spec_l03Pitch.f, spec_l09Length.f, in_eq, Option.bind_some, rdNo, w1]
    refine Ev.pos (by omega) (Ev.pos (by omega) ?_)
    by_cases a : -12 ≤ (l.getD i z114).f0 ∧ (l.getD i z114).f0 ≤ 23
    · refine Ev.pos (decide_eq_true a) ?_
      by_cases b : 1 ≤ (l.getD i z114).f1 ∧ (l.getD i z114).f1 ≤ 64
      · rw [allF_yes _ (show meQ l i = true by unfold meQ; rw [decide_eq_true a, decide_eq_true b]; rfl)]
        exact Ev.pos (decide_eq_true b) hr
      · rw [allF_no _ (by omega) (show meQ l i = false by unfold meQ; rw [decide_eq_false b, Bool.and_false])]
        exact Ev.neg (by rw [decide_eq_true_iff]; exact b) (Ev.now _)
    · rw [allF_no _ (by omega) (show meQ l i = false by unfold meQ; rw [decide_eq_false a]; rfl)]
      exact Ev.neg (by rw [decide_eq_true_iff]; exact a) (Ev.now _)
theorem sMel (l : List S114) (hl : l.length ≤ 17592186044416) : Ev (fun k => spec_l09Ok.f k l) (melB l) :=
  sMel_l0 l hl l.length 0 (by omega)
theorem iMel_l0 (l : List S114) (hl : l.length ≤ 48) (d : Nat) : ∀ (i : Nat), i + d = l.length → Ev (fun k => impl_ValidMelody.l0 k l (l.length : Int) i) (allF (meQ l) l.length i) := by
  induction d with
  | zero =>
    intro i h1
    refine Ev.shift ?_
    simp only [impl_ValidMelody.l0]
    exact Ev.neg (by omega) (Ev.some (by rw [allF_end _ (by omega)]))
  | succ d ih =>
    intro i h1
    have w1 : wrap64 ((i : Int) + 1) = ((i + 1 : Nat) : Int) := by rw [wid (by omega)]; rfl
    have hr := ih (i + 1) (by omega)
    refine Ev.shift ?_
    simp only [impl_ValidMelody.l0, impl_pitchOk.f, impl_lengthOk.f, within_eq, Option.bind_some, rdNo, w1]
    refine Ev.pos (by omega) (Ev.pos (by omega) (Ev.pos (by omega) ?_))
    by_cases a : -12 ≤ (l.getD i z114).f0 ∧ (l.getD i z114).f0 ≤ 23
    · refine Ev.pos (decide_eq_true a) ?_
      by_cases b : 1 ≤ (l.getD i z114).f1 ∧ (l.getD i z114).f1 ≤ 64
      · rw [allF_yes _ (show meQ l i = true by unfold meQ; rw [decide_eq_true a, decide_eq_true b]; rfl)]
        exact Ev.pos (decide_eq_true b) hr
      · rw [allF_no _ (by omega) (show meQ l i = false by unfold meQ; rw [decide_eq_false b, Bool.and_false])]
        exact Ev.neg (by rw [decide_eq_true_iff]; exact b) (Ev.now _)
    · rw [allF_no _ (by omega) (show meQ l i = false by unfold meQ; rw [decide_eq_false a]; rfl)]
      exact Ev.neg (by rw [decide_eq_true_iff]; exact a) (Ev.now _)
theorem iMel (l : List S114) : Ev (fun k => impl_ValidMelody.f k l) (melB l) := by
  unfold impl_ValidMelody.f melB
  by_cases h : (l.length : Int) > 48
  · rw [decide_eq_false (show ¬ (l.length : Int) ≤ 48 by omega), Bool.and_false]
    exact Ev.pos h (Ev.now _)
  · rw [decide_eq_true (show (l.length : Int) ≤ 48 by omega), Bool.and_true]
    exact Ev.neg h (iMel_l0 l (by omega) l.length 0 (by omega))
def noCode (l : List S114) (s : ByteArray) (a b : List Int) (x : Int) : Int := if melB l = true then (if talaB s a b = true then (if 1 ≤ x ∧ x ≤ 8 then 0 else 2) else 1) else 1
theorem sNo (l : List S114) (s : ByteArray) (a b : List Int) (x : Int) (hl : l.length ≤ 17592186044416) (ha : a.length ≤ 35184372088832) : Ev (fun k => spec_l25Ask.f k l s a b x) (noCode l s a b x, s) := by
  unfold spec_l25Ask.f noCode
  have f : Ev (fun k => spec_l25Ask.j0 k x true s a b) (1, s) := by
    refine Ev.shift ?_
    simp only [spec_l25Ask.j0]
    exact Ev.pos trivial (Ev.now _)
  refine Ev.bind (sMel l hl) ?_
  cases melB l with
  | false =>
    rw [if_neg (show ¬ (false = true) by decide)]
    exact Ev.neg (by decide) f
  | true =>
    rw [if_pos (show true = true from rfl)]
    refine Ev.pos rfl (Ev.bind (sTala s a b ha) ?_)
    cases talaB s a b with
    | false =>
      rw [if_neg (show ¬ (false = true) by decide)]
      exact f
    | true =>
      rw [if_pos (show true = true from rfl)]
      refine Ev.shift ?_
      simp only [spec_l25Ask.j0, in_eq, Option.bind_some]
      refine Ev.neg (by decide) ?_
      by_cases h : 1 ≤ x ∧ x ≤ 8
      · rw [if_pos h]
        exact Ev.pos (decide_eq_true h) (Ev.now _)
      · rw [if_neg h]
        exact Ev.neg (by rw [decide_eq_true_iff]; exact h) (Ev.now _)
theorem iNo (l : List S114) (s : ByteArray) (a b : List Int) (x : Int) (ha : a.length ≤ 35184372088832) : Ev (fun k => impl_notationCode.f k l s a b x) (noCode l s a b x) := by
  unfold impl_notationCode.f noCode
  have f : Ev (fun k => impl_notationCode.j0 k x true) 1 := by
    refine Ev.shift ?_
    simp only [impl_notationCode.j0]
    exact Ev.pos trivial (Ev.now _)
  refine Ev.bind (iMel l) ?_
  cases melB l with
  | false =>
    rw [if_neg (show ¬ (false = true) by decide)]
    exact Ev.neg (by decide) f
  | true =>
    rw [if_pos (show true = true from rfl)]
    refine Ev.pos rfl (Ev.bind (iTala s a b ha) ?_)
    cases talaB s a b with
    | false =>
      rw [if_neg (show ¬ (false = true) by decide)]
      exact f
    | true =>
      rw [if_pos (show true = true from rfl)]
      refine Ev.shift ?_
      simp only [impl_notationCode.j0, within_eq, Option.bind_some]
      refine Ev.neg (by decide) ?_
      by_cases h : 1 ≤ x ∧ x ≤ 8
      · rw [if_pos h]
        exact Ev.pos (decide_eq_true h) (Ev.now _)
      · rw [if_neg h]
        exact Ev.neg (by rw [decide_eq_true_iff]; exact h) (Ev.now _)
theorem noCode_zero {l : List S114} {s : ByteArray} {a b : List Int} {x : Int} (h : noCode l s a b x = 0) : melB l = true ∧ talaB s a b = true ∧ 1 ≤ x ∧ x ≤ 8 := by
  unfold noCode at h
  split at h
  · split at h
    · split at h
      · exact ⟨by assumption, by assumption, by assumption⟩
      · cases h
    · cases h
  · cases h
theorem szList (l : List Int) (t : Int) (hl : l.length ≤ maxLen) (ht : 0 ≤ t ∧ t ≤ 1048576) : ∃ r, laws_szInt64S.f l t = some r ∧ r ≤ 1048576 ∧ (0 ≤ r → l.length ≤ 1048576) := by
  unfold laws_szInt64S.f
  unfold maxLen at hl
  rw [wid (by omega)]
  by_cases h : t - (l.length : Int) < 0
  · exact ⟨-1, by rw [if_pos h], by omega, fun h => by omega⟩
  · exact ⟨t - l.length, by rw [if_neg h], by omega, fun _ => by omega⟩
theorem szTala (s : ByteArray) (a b : List Int) (t : Int) (hs : s.size ≤ maxLen) (ha : a.length ≤ maxLen) (hb : b.length ≤ maxLen) (ht : 0 ≤ t ∧ t ≤ 1048576) : ∃ r, laws_szTala.f s a b t = some r ∧ (0 ≤ r → a.length ≤ 1048576 ∧ b.length ≤ 1048576) := by
  unfold laws_szTala.f
  unfold maxLen at hs
  rw [wid (by omega)]
  by_cases h : t - (s.size : Int) < 0
  · exact ⟨-1, by rw [if_pos h], fun h => by omega⟩
  · rw [if_neg h]
    obtain ⟨r, e, g1, g2⟩ := szList a (t - s.size) ha (by omega)
    rw [e]
    simp only [Option.bind_some]
    by_cases h2 : r < 0
    · exact ⟨-1, by rw [if_pos h2], fun h => by omega⟩
    · rw [if_neg h2]
      obtain ⟨r2, e2, g3, g4⟩ := szList b r hb (by omega)
      rw [e2]
      simp only [Option.bind_some]
      by_cases h3 : r2 < 0
      · exact ⟨-1, by rw [if_pos h3], fun h => by omega⟩
      · exact ⟨r2, by rw [if_neg h3], fun h => ⟨g2 (by omega), g4 h⟩⟩
theorem toTala (s : ByteArray) (a b : List Int) (ha : a.length ≤ 35184372088832) (hb : b.length ≤ 35184372088832) : Ev (fun k => laws_toTala.f k s a b) (s, a, b) := by
  unfold laws_toTala.f
  exact Ev.bind (toI a ha) (Ev.bind (toI b hb) (Ev.now _))
theorem eqTala (s : ByteArray) (a b : List Int) (ha : a.length ≤ 35184372088832) (hb : b.length ≤ 35184372088832) : Ev (fun k => laws_eqTala.f k s a b s a b) true := by
  unfold laws_eqTala.f
  exact Ev.pos rfl (Ev.bind (eqI a ha) (Ev.pos rfl (Ev.bind (eqI b hb) (Ev.pos rfl (Ev.now _)))))
theorem markTala (s : ByteArray) (a b : List Int) (m : Int) (h0 : 0 ≤ m) (h1 : m + a.length + b.length ≤ 9000000000000000000) : ∃ z : Int × List Int × List Int, 0 ≤ z.1 ∧ Ev (fun k => laws_markTala.f k s a b m) z := by
  unfold laws_markTala.f
  exact ⟨(m + a.length + b.length, marks m a.length, marks (m + a.length) b.length), by show 0 ≤ m + a.length + b.length; omega, Ev.bind (markI a m h0 (by omega)) (Ev.bind (markI b (m + a.length) (by omega) (by omega)) (Ev.now _))⟩
def totL : List (List Int) → Nat
  | [] => 0
  | r :: rs => r.length + totL rs
def mksL (m : Int) : List (List Int) → List (List Int)
  | [] => []
  | r :: rs => marks m r.length :: mksL (m + r.length) rs
theorem getD_mid (p : List (List Int)) (r : List Int) (rs : List (List Int)) : (p ++ r :: rs).getD p.length [] = r := by
  rw [List.getD_eq_getElem?_getD, List.getElem?_append_right (Nat.le_refl _), Nat.sub_self]; rfl
theorem set_mid (p : List (List Int)) (r r' : List Int) (rs : List (List Int)) : (p ++ r :: rs).set p.length r' = p ++ r' :: rs := by
  rw [List.set_append_right _ _ (Nat.le_refl _), Nat.sub_self]; rfl
theorem snoc_mid (p : List (List Int)) (r : List Int) (rs : List (List Int)) : p ++ r :: rs = (p ++ [r]) ++ rs := by simp
theorem mksL_length (rs : List (List Int)) : ∀ m, (mksL m rs).length = rs.length := by
  induction rs with
  | nil => intro m; rfl
  | cons r rs ih => intro m; simp [mksL, ih]
theorem markSS_l0 (rs : List (List Int)) : ∀ (p : List (List Int)) (m : Int), 0 ≤ m → m + totL rs ≤ 9000000000000000000 → p.length + rs.length ≤ 9000000000000000000 → Ev (fun k => laws_markInt64SS.l0 k (p ++ rs) m p.length) (m + totL rs, p ++ mksL m rs) := by
  induction rs with
  | nil =>
    intro p m h0 h1 h2
    refine Ev.shift ?_
    simp only [laws_markInt64SS.l0, List.append_nil, totL, mksL]
    exact Ev.neg (by omega) (Ev.some (by simp))
  | cons r rs ih =>
    intro p m h0 h1 h2
    simp only [totL, List.length_cons] at h1 h2
    have w1 : wrap64 ((p.length : Int) + 1) = ((p.length + 1 : Nat) : Int) := by rw [wid (by omega)]; rfl
    have ih' := ih (p ++ [marks m r.length]) (m + r.length) (by omega) (by omega) (by rw [List.length_append]; simp only [List.length_cons, List.length_nil]; omega)
    rw [show (p ++ [marks m r.length]).length = p.length + 1 by simp, ← snoc_mid, ← snoc_mid, show m + (r.length : Int) + (totL rs : Int) = m + (totL (r :: rs) : Nat) by simp only [totL]; omega] at ih'
    refine Ev.shift ?_
    simp only [laws_markInt64SS.l0, Int.toNat_natCast, getD_mid, set_mid, w1, List.length_append, List.length_cons]
    exact Ev.pos (by omega) (Ev.pos (by omega) (Ev.bind (markI r m h0 (by omega)) (by simp only [set_mid]; exact ih')))
theorem markSS (rs : List (List Int)) (m : Int) (h0 : 0 ≤ m) (h1 : m + totL rs ≤ 9000000000000000000) (h2 : rs.length ≤ 9000000000000000000) : Ev (fun k => laws_markInt64SS.f k rs m) (m + totL rs, mksL m rs) := by
  unfold laws_markInt64SS.f
  exact markSS_l0 rs [] m h0 h1 (by simpa using h2)
theorem heldSS_l0 (rs : List (List Int)) : ∀ (p : List (List Int)) (m : Int), 0 ≤ m → m + totL rs ≤ 9000000000000000000 → p.length + rs.length ≤ 9000000000000000000 → Ev (fun k => laws_heldInt64SS.l0 k (p ++ mksL m rs) m p.length) (m + totL rs) := by
  induction rs with
  | nil =>
    intro p m h0 h1 h2
    refine Ev.shift ?_
    simp only [laws_heldInt64SS.l0, List.append_nil, totL, mksL]
    exact Ev.neg (by omega) (Ev.some (by simp))
  | cons r rs ih =>
    intro p m h0 h1 h2
    simp only [totL, List.length_cons] at h1 h2
    have w1 : wrap64 ((p.length : Int) + 1) = ((p.length + 1 : Nat) : Int) := by rw [wid (by omega)]; rfl
    have ih' := ih (p ++ [marks m r.length]) (m + r.length) (by omega) (by omega) (by rw [List.length_append]; simp only [List.length_cons, List.length_nil]; omega)
    rw [show (p ++ [marks m r.length]).length = p.length + 1 by simp, ← snoc_mid, show m + (r.length : Int) + (totL rs : Int) = m + (totL (r :: rs) : Nat) by simp only [totL]; omega] at ih'
    refine Ev.shift ?_
    simp only [laws_heldInt64SS.l0, rd_L3, Int.toNat_natCast, mksL, getD_mid, w1, List.length_append, List.length_cons]
    exact Ev.pos (by omega) (Ev.pos (by omega) (Ev.bind (heldI r.length m h0 (by omega)) (Ev.neg (by omega) ih')))
theorem heldSS (rs : List (List Int)) (m : Int) (h0 : 0 ≤ m) (h1 : m + totL rs ≤ 9000000000000000000) (h2 : rs.length ≤ 9000000000000000000) : Ev (fun k => laws_heldInt64SS.f k (mksL m rs) m) (m + totL rs) := by
  unfold laws_heldInt64SS.f
  exact heldSS_l0 rs [] m h0 h1 (by simpa using h2)
theorem eqSS_l0 (rs : List (List Int)) : ∀ (p : List (List Int)), (∀ r ∈ rs, r.length ≤ 35184372088832) → p.length + rs.length ≤ 9000000000000000000 → Ev (fun k => laws_eqInt64SS.l0 k (p ++ rs) (p ++ rs) p.length) true := by
  induction rs with
  | nil =>
    intro p hr h2
    refine Ev.shift ?_
    simp only [laws_eqInt64SS.l0, List.append_nil]
    exact Ev.neg (by omega) (Ev.now _)
  | cons r rs ih =>
    intro p hr h2
    simp only [List.length_cons] at h2
    have w1 : wrap64 ((p.length : Int) + 1) = ((p.length + 1 : Nat) : Int) := by rw [wid (by omega)]; rfl
    have g : (p ++ r :: rs).getD p.length [] = r := by rw [List.getD_eq_getElem?_getD, List.getElem?_append_right (Nat.le_refl _), Nat.sub_self]; rfl
    have ih' := ih (p ++ [r]) (fun x hx => hr x (List.mem_cons_of_mem _ hx)) (by rw [List.length_append]; simp only [List.length_cons, List.length_nil]; omega)
    rw [show (p ++ [r]).length = p.length + 1 by simp, show (p ++ [r]) ++ rs = p ++ r :: rs by simp] at ih'
    refine Ev.shift ?_
    simp only [laws_eqInt64SS.l0, rd_L3, Int.toNat_natCast, g, w1, List.length_append, List.length_cons]
    exact Ev.pos (by omega) (Ev.pos (by omega) (Ev.pos (by omega) (Ev.bind (eqI r (hr r List.mem_cons_self)) (Ev.pos rfl ih'))))
theorem eqSS (rs : List (List Int)) (hr : ∀ r ∈ rs, r.length ≤ 35184372088832) (h2 : rs.length ≤ 9000000000000000000) : Ev (fun k => laws_eqInt64SS.f k rs rs) true := by
  unfold laws_eqInt64SS.f
  exact Ev.pos rfl (eqSS_l0 rs [] hr (by simpa using h2))
def cum : List Int → Nat → Int
  | _, 0 => 0
  | a, j + 1 => cum a j + a.getD j 0
def pos16 (a : List Int) : Prop := ∀ j, j < a.length → 1 ≤ a.getD j 0 ∧ a.getD j 0 ≤ 16
theorem cum_bd {a : List Int} (h : pos16 a) : ∀ j, j ≤ a.length → (j : Int) ≤ cum a j ∧ cum a j ≤ 16 * j := by
  intro j
  induction j with
  | zero => intro _; simp [cum]
  | succ j ih =>
    intro hj
    have h1 := ih (by omega)
    have h2 := h j (by omega)
    simp only [cum]; omega
theorem cum_mono {a : List Int} (h : pos16 a) (i : Nat) : ∀ d, i + d ≤ a.length → cum a i ≤ cum a (i + d) := by
  intro d
  induction d with
  | zero => intro _; exact Int.le_refl _
  | succ d ih =>
    intro hj
    have h1 := ih (by omega)
    have h2 := h (i + d) (by omega)
    show cum a i ≤ cum a (i + d) + a.getD (i + d) 0
    omega
theorem cum_wsum {a : List Int} (h : pos16 a) (h8 : a.length ≤ 8) (d : Nat) : ∀ i, i + d = a.length → wsum (cum a i) (a.drop i) = cum a a.length := by
  induction d with
  | zero =>
    intro i hi
    rw [List.drop_of_length_le (by omega), wsum, show i = a.length by omega]
  | succ d ih =>
    intro i hi
    have h1 := cum_bd h i (by omega)
    have h2 := h i (by omega)
    rw [consW a i (by omega), wsum, wid (by omega)]
    exact ih (i + 1) (by omega)
theorem sAt_l0 (a b : List Int) (s : ByteArray) (h : pos16 a) (h8 : a.length ≤ 8) (B : Int) (q : Nat) (hq : q < a.length) (h1 : cum a q ≤ B) (h2 : B < cum a (q + 1)) (d : Nat) : ∀ j : Nat, j + d = q → Ev (fun k => spec_l17At.l0 k (B - cum a j) (j : Int) s a b) ((q : Int), B - cum a q, s) := by
  have hB := (cum_bd h (q + 1) (by omega)).2
  induction d with
  | zero =>
    intro j hj
    obtain rfl : j = q := by omega
    refine Ev.shift ?_
    simp only [spec_l17At.l0, rd_nat]
    simp only [cum] at h2
    exact Ev.pos (by omega) (Ev.pos (by omega) (Ev.neg (by omega) (Ev.now _)))
  | succ d ih =>
    intro j hj
    have hm := cum_mono h (j + 1) d (by omega)
    rw [show j + 1 + d = q by omega] at hm
    have hm' : cum a j + a.getD j 0 ≤ cum a q := hm
    have hj0 := cum_bd h j (by omega)
    have hj1 := h j (by omega)
    have e : wrap64 (B - cum a j - a.getD j 0) = B - cum a (j + 1) := by
      rw [wid (by omega)]; simp only [cum]; omega
    have w1 : wrap64 ((j : Int) + 1) = ((j + 1 : Nat) : Int) := by rw [wid (by omega)]; rfl
    have ih' := ih (j + 1) (by omega)
    refine Ev.shift ?_
    simp only [spec_l17At.l0, rd_nat, e, w1]
    clear e w1 hm
    exact Ev.pos (by omega) (Ev.pos (by omega) (Ev.pos (by omega) ih'))
theorem sLeft (a b : List Int) (s : ByteArray) (x : Int) (h : pos16 a) (h8 : a.length ≤ 8) (hx : 1 ≤ x ∧ x ≤ 8) (t : Int) (q : Nat) (hq : q < a.length) (lf : Int) (h0 : 0 < lf) (h1 : lf ≤ a.getD q 0 * x) (m : Int) (hm : 0 ≤ m) (ht : t = cum a (q + 1) * x - lf + m * (cum a a.length * x)) : Ev (fun k => spec_l25Left.f k s a b x t) (lf, s) := by
  have hc0 := cum_bd h q (by omega)
  have hc1 := cum_bd h (q + 1) (by omega)
  have hcn := cum_bd h a.length (Nat.le_refl _)
  have hmo := cum_mono h (q + 1) (a.length - (q + 1)) (by omega)
  rw [show q + 1 + (a.length - (q + 1)) = a.length by omega] at hmo
  have e1 : cum a (q + 1) * x = cum a q * x + a.getD q 0 * x := by simp only [cum]; rw [Int.add_mul]
  have e2 : cum a (q + 1) * x ≤ cum a a.length * x := Int.mul_le_mul_of_nonneg_right hmo (by omega)
  have e3 : 0 ≤ cum a q * x := Int.mul_nonneg (by omega) (by omega)
  have e4 : cum a a.length * x ≤ 128 * 8 := Int.mul_le_mul (by omega) hx.2 (by omega) (by omega)
  have e5 : 0 ≤ m * (cum a a.length * x) := Int.mul_nonneg hm (by omega)
  have hw : wsum 0 a = cum a a.length := by have := cum_wsum h h8 a.length 0 (by omega); rwa [List.drop_zero] at this
  have hU : Ev (fun k => spec_l19Units.f k s a b x) (cum a a.length * x, s) := by
    unfold spec_l19Units.f spec_l17Beats.f
    refine Ev.bind (Ev.bind (sWsum a (by omega)) (Ev.now _)) (Ev.some ?_)
    simp only [hw]
    rw [wid (by omega)]
  generalize hu : cum a (q + 1) * x - lf = u at ht
  generalize hUU : cum a a.length * x = U at ht hU e2 e4 e5
  have htm : Int.tmod t U = u := by
    rw [Int.tmod_eq_emod_of_nonneg (by omega), ht, Int.add_mul_emod_self_right, Int.emod_eq_of_lt (by omega) (by omega)]
  have hB1 : cum a q ≤ u / x := Int.le_ediv_of_mul_le (by omega) (by omega)
  have hB2 : u / x < cum a (q + 1) := Int.ediv_lt_of_lt_mul (by omega) (by omega)
  have hA := sAt_l0 a b s h h8 (u / x) q hq hB1 hB2 q 0 (by omega)
  have hmd : u % x = u - x * (u / x) := Int.emod_def u x
  have hm0 := Int.emod_nonneg u (show x ≠ 0 by omega)
  have hm1 := Int.emod_lt_of_pos u (show 0 < x by omega)
  have w0 : wrap64 (Int.tdiv (Int.tmod t U) x) = u / x := by
    rw [htm, Int.tdiv_eq_ediv_of_nonneg (by omega), wid (by omega)]
  have w1 : wrap64 (a.getD q 0 - (u / x - cum a q)) = cum a (q + 1) - u / x := by
    have := h q hq
    rw [wid (by omega)]; simp only [cum]; omega
  have k1 : (cum a (q + 1) - u / x) * x = cum a (q + 1) * x - x * (u / x) := by rw [Int.sub_mul, Int.mul_comm (u / x) x]
  unfold spec_l25Left.f
  refine Ev.bind hU (Ev.neg (by omega) (Ev.neg (by omega) ?_))
  simp only [cum, Int.sub_zero] at hA
  have hA2 : Ev (fun k => spec_l17At.f k s a b (wrap64 (Int.tdiv (Int.tmod t U) x))) ((q : Int), u / x - cum a q, s) := by
    rw [w0]
    unfold spec_l17At.f
    exact hA
  refine Ev.bind hA2 (Ev.pos (by omega) (Ev.pos (by omega) (Ev.some ?_)))
  simp only [rd_nat, w1]
  rw [htm, Int.tmod_eq_emod_of_nonneg (by omega), k1, wid (x := cum a (q + 1) * x - x * (u / x)) (by omega), wid (by omega), show cum a (q + 1) * x - x * (u / x) - u % x = lf by omega]
def okS (a : List Int) (x t : Int) (p : Nat) (lf : Int) : Prop := p ≤ a.length ∧ 0 ≤ lf ∧ (p = 0 → lf = 0) ∧ (0 < p → lf ≤ a.getD (p - 1) 0 * x) ∧ ∃ m : Int, 0 ≤ m ∧ t = cum a p * x - lf + m * (cum a a.length * x)
theorem okS_next {a : List Int} {x t : Int} {p : Nat} (hx : 1 ≤ x) (h1 : 1 ≤ a.length) (h : okS a x t p 0) (hp : pos16 a) : okS a x t (p % a.length + 1) (a.getD (p % a.length) 0 * x) := by
  obtain ⟨h2, _, _, _, m, hm, ht⟩ := h
  have hq := Nat.mod_lt p (show 0 < a.length by omega)
  have hv := hp _ hq
  refine ⟨hq, Int.mul_nonneg (by omega) (by omega), fun e => by omega, fun _ => Int.le_refl _, ?_⟩
  by_cases c : p = a.length
  · refine ⟨m + 1, by omega, ?_⟩
    subst c
    rw [Nat.mod_self]
    have k1 := Int.add_mul m 1 (cum a a.length * x)
    have k2 := Int.add_mul 0 (a.getD 0 0) x
    simp only [cum]
    omega
  · refine ⟨m, hm, ?_⟩
    rw [Nat.mod_eq_of_lt (by omega)]
    simp only [cum]
    rw [ht, Int.add_mul]; omega
theorem okS_step {a : List Int} {x t : Int} {p : Nat} {lf e : Int} (h0 : 0 ≤ e) (h1 : e ≤ lf) (h : okS a x t p lf) : okS a x (t + e) p (lf - e) := by
  obtain ⟨h2, h3, h4, h5, m, hm, ht⟩ := h
  refine ⟨h2, by omega, fun c => by have := h4 c; omega, fun c => by have := h5 c; omega, m, hm, by omega⟩
def pr (y : S167) : List Int := [y.f0, y.f1]
theorem split_in (a b : List Int) (s : ByteArray) (x : Int) (l : List S114) (h : pos16 a) (hn : 1 ≤ a.length ∧ a.length ≤ 8) (hx : 1 ≤ x ∧ x ≤ 8) (i : Nat) (hi : i ≤ 100) (N : Nat) : ∀ (r : Nat) (P : List S167) (p : Nat) (lf t : Int) (later : Bool), r ≤ N → okS a x t p lf → 0 ≤ t → t + r ≤ 4000 → P.length + r ≤ 4000 →
    ∃ (P' : List S167) (p' : Nat) (lf' : Int), okS a x (t + r) p' lf' ∧ P'.length ≤ P.length + r ∧
      (∀ R, Ev (fun k => spec_l25Split.l0 k l x (P'.map pr) (t + r) ((i + 1 : Nat) : Int) s a b) R → Ev (fun k => spec_l25Split.l1 k l x (P.map pr) t (i : Int) (r : Int) s a b) R) ∧
      (∀ R, Ev (fun k => impl_split.l0 k x P' ((p' : Int) - 1) lf' l (l.length : Int) ((i + 1 : Nat) : Int) s a b) R → Ev (fun k => impl_split.l1 k x P ((p : Int) - 1) lf (i : Int) later (r : Int) l (l.length : Int) (i : Int) s a b) R) := by
  have w1 : wrap64 ((i : Int) + 1) = ((i + 1 : Nat) : Int) := by rw [wid (by omega)]; rfl
  induction N with
  | zero =>
    intro r P p lf t later hr hk h0 h1 h2
    obtain rfl : r = 0 := by omega
    refine ⟨P, p, lf, by simpa using hk, by omega, fun R hR => Ev.shift ?_, fun R hR => Ev.shift ?_⟩
    · simp only [spec_l25Split.l1, w1]
      refine Ev.neg (by simp) ?_
      simpa using hR
    · simp only [impl_split.l1, w1]
      exact Ev.neg (by simp) hR
  | succ N ih =>
    intro r P p lf t later hr hk h0 h1 h2
    by_cases hr0 : r = 0
    · exact ih r P p lf t later (by omega) hk h0 h1 h2
    -- one piece: of the section q, of which L is left
    have one : ∀ (q : Nat) (L : Int) (z : Int), q < a.length → 0 < L → okS a x t (q + 1) L → 
        (∀ (e : Int), e = mn (r : Int) L → ∀ R, Ev (fun k => impl_split.l1 k x (P ++ [(⟨(i : Int), e, z, later⟩ : S167)]) (((q + 1 : Nat) : Int) - 1) (L - e) (i : Int) true ((r : Int) - e) l (l.length : Int) (i : Int) s a b) R → Ev (fun k => impl_split.l1 k x P ((p : Int) - 1) lf (i : Int) later (r : Int) l (l.length : Int) (i : Int) s a b) R) →
        ∃ (P' : List S167) (p' : Nat) (lf' : Int), okS a x (t + r) p' lf' ∧ P'.length ≤ P.length + r ∧
      (∀ R, Ev (fun k => spec_l25Split.l0 k l x (P'.map pr) (t + r) ((i + 1 : Nat) : Int) s a b) R → Ev (fun k => spec_l25Split.l1 k l x (P.map pr) t (i : Int) (r : Int) s a b) R) ∧
      (∀ R, Ev (fun k => impl_split.l0 k x P' ((p' : Int) - 1) lf' l (l.length : Int) ((i + 1 : Nat) : Int) s a b) R → Ev (fun k => impl_split.l1 k x P ((p : Int) - 1) lf (i : Int) later (r : Int) l (l.length : Int) (i : Int) s a b) R) := by
      intro q L z hq hL hk2 hI
      have hle : L ≤ a.getD q 0 * x := hk2.2.2.2.1 (by omega)
      obtain ⟨m, hm, ht⟩ := hk2.2.2.2.2
      have hS := sLeft a b s x h hn.2 hx t q hq L hL hle m hm ht
      have hmin : spec_l00Min.f (r : Int) L = some (mn (r : Int) L) := by
        rw [mn_eq]; unfold spec_l00Min.f; split <;> (congr 1; omega)
      have he := mn_eq (r : Int) L
      generalize hee : mn (r : Int) L = e at hmin he
      have he1 : 1 ≤ e := by omega
      have he2 : e ≤ r := by omega
      have he3 : e ≤ L := by omega
      obtain ⟨n, rfl⟩ := Int.eq_ofNat_of_zero_le (show 0 ≤ e by omega)
      obtain ⟨P', p', lf', g1, g2, g3, g4⟩ := ih (r - n) (P ++ [(⟨(i : Int), (n : Int), z, later⟩ : S167)]) (q + 1) (L - n) (t + n) true (by omega) (okS_step (by omega) he3 hk2) (by omega) (by omega) (by rw [List.length_append]; simp only [List.length_cons, List.length_nil]; omega)
      rw [List.length_append] at g2
      simp only [List.length_cons, List.length_nil] at g2
      have et : t + (n : Int) + ((r - n : Nat) : Int) = t + r := by omega
      have er : ((r - n : Nat) : Int) = (r : Int) - n := by omega
      rw [et] at g1 g3
      rw [er] at g3 g4
      refine ⟨P', p', lf', g1, by omega, fun R hR => ?_, fun R hR => hI n hee.symm R (g4 R hR)⟩
      have g5 := g3 R hR
      rw [List.map_append] at g5
      refine Ev.shift ?_
      simp only [spec_l25Split.l1]
      refine Ev.pos (by omega) (Ev.bind hS ?_)
      simp only [hmin, Option.bind_some]
      rw [wid (x := t + (n : Int)) (by omega), wid (x := (r : Int) - n) (by omega)]
      exact Ev.pos (by rw [List.length_map]; omega) g5
    by_cases hl0 : lf = 0
    · subst hl0
      have hk2 := okS_next hx.1 hn.1 hk h
      have hq := Nat.mod_lt p (show 0 < a.length by omega)
      have hv := h _ hq
      have hpb : p ≤ a.length := hk.1
      have hL : 0 < a.getD (p % a.length) 0 * x := Int.mul_pos (by omega) (by omega)
      have hL2 : a.getD (p % a.length) 0 * x ≤ 16 * 8 := Int.mul_le_mul hv.2 hx.2 (by omega) (by omega)
      refine one (p % a.length) (a.getD (p % a.length) 0 * x) ((p % a.length : Nat) : Int) hq hL hk2 ?_
      intro e he R hR
      have he' := mn_eq (r : Int) (a.getD (p % a.length) 0 * x)
      have wp : wrap64 ((p : Int) - 1 + 1) = (p : Int) := by rw [wid (by omega)]; omega
      have wt : Int.tmod (p : Int) (a.length : Int) = ((p % a.length : Nat) : Int) := by rw [Int.tmod_eq_emod_of_nonneg (by omega)]; rfl
      have wm : wrap64 (a.getD (p % a.length) 0 * x) = a.getD (p % a.length) 0 * x := wid (by omega)
      refine Ev.shift ?_
      simp only [impl_split.l1, wp, wt, rd_nat, wm, ← he]
      rw [wid (x := a.getD (p % a.length) 0 * x - e) (by omega), wid (x := (r : Int) - e) (by omega)]
      refine Ev.pos (by omega) (Ev.pos trivial (Ev.neg (by omega) (Ev.pos (by omega) (Ev.pos (by omega) (Ev.pos (by omega) ?_)))))
      rw [show (((p % a.length + 1 : Nat) : Int) - 1) = ((p % a.length : Nat) : Int) by omega] at hR
      exact hR
    · have hp0 : 0 < p := by
        have := hk.2.2.1
        by_cases c : p = 0
        · exact absurd (this c) hl0
        · omega
      obtain ⟨q, rfl⟩ : ∃ q, p = q + 1 := ⟨p - 1, by omega⟩
      have hq : q < a.length := hk.1
      have hlp : 0 < lf := by have := hk.2.1; omega
      have hv := h q hq
      have hle : lf ≤ a.getD q 0 * x := hk.2.2.2.1 (by omega)
      have hL2 : a.getD q 0 * x ≤ 16 * 8 := Int.mul_le_mul hv.2 hx.2 (by omega) (by omega)
      refine one q lf (-1) hq hlp hk ?_
      intro e he R hR
      have he' := mn_eq (r : Int) lf
      refine Ev.shift ?_
      simp only [impl_split.l1, ← he]
      rw [wid (x := lf - e) (by omega), wid (x := (r : Int) - e) (by omega)]
      exact Ev.pos (by omega) (Ev.neg hl0 (Ev.pos (by omega) hR))
theorem split_out (a b : List Int) (s : ByteArray) (x : Int) (l : List S114) (h : pos16 a) (hn : 1 ≤ a.length ∧ a.length ≤ 8) (hx : 1 ≤ x ∧ x ≤ 8) (hl : l.length ≤ 48) (hm : ∀ j, j < l.length → 1 ≤ (l.getD j z114).f1 ∧ (l.getD j z114).f1 ≤ 64) (d : Nat) : ∀ (i : Nat) (P : List S167) (p : Nat) (lf t : Int), i + d = l.length → okS a x t p lf → 0 ≤ t → t + 64 * d ≤ 4000 → P.length + 64 * d ≤ 4000 →
    ∃ P' : List S167, P'.length ≤ 4000 ∧ Ev (fun k => spec_l25Split.l0 k l x (P.map pr) t (i : Int) s a b) (P'.map pr, s) ∧ Ev (fun k => impl_split.l0 k x P ((p : Int) - 1) lf l (l.length : Int) (i : Int) s a b) P' := by
  induction d with
  | zero =>
    intro i P p lf t h1 hk h0 h2 h3
    refine ⟨P, by omega, Ev.shift ?_, Ev.shift ?_⟩
    · simp only [spec_l25Split.l0]
      exact Ev.neg (by omega) (Ev.now _)
    · simp only [impl_split.l0]
      exact Ev.neg (by omega) (Ev.now _)
  | succ d ih =>
    intro i P p lf t h1 hk h0 h2 h3
    have hv := hm i (by omega)
    obtain ⟨r, hr⟩ := Int.eq_ofNat_of_zero_le (show 0 ≤ (l.getD i z114).f1 by omega)
    obtain ⟨P1, p1, lf1, g1, g2, g3, g4⟩ := split_in a b s x l h hn hx i (by omega) r r P p lf t false (Nat.le_refl _) hk h0 (by omega) (by omega)
    obtain ⟨P', g5, g6, g7⟩ := ih (i + 1) P1 p1 lf1 (t + r) (by omega) g1 (by omega) (by omega) (by omega)
    refine ⟨P', g5, Ev.shift ?_, Ev.shift ?_⟩
    · simp only [spec_l25Split.l0, rdNo, hr]
      exact Ev.pos (by omega) (Ev.pos (by omega) (g3 _ g6))
    · simp only [impl_split.l0, rdNo, hr]
      exact Ev.pos (by omega) (Ev.pos (by omega) (Ev.pos (by omega) (g4 _ g7)))
theorem splitBoth (a b : List Int) (s : ByteArray) (x : Int) (l : List S114) (hm : melB l = true) (ht : talaB s a b = true) (hx : 1 ≤ x ∧ x ≤ 8) : ∃ P : List S167, P.length ≤ 4000 ∧ Ev (fun k => spec_l25Split.f k l s a b x) (P.map pr, s) ∧ Ev (fun k => impl_split.f k l s a b x) P := by
  unfold melB at hm
  rw [Bool.and_eq_true, decide_eq_true_iff, allF_iff] at hm
  unfold talaB at ht
  rw [Bool.and_eq_true, Bool.and_eq_true, Bool.and_eq_true, Bool.and_eq_true, decide_eq_true_iff, decide_eq_true_iff, allF_iff] at ht
  obtain ⟨_, h1, _, h2, _⟩ := ht
  have hp : pos16 a := fun j hj => by
    have := h2 j hj (Nat.zero_le _)
    unfold taQ at this
    rw [Bool.and_eq_true, decide_eq_true_iff] at this
    exact this.1
  have hmm : ∀ j, j < l.length → 1 ≤ (l.getD j z114).f1 ∧ (l.getD j z114).f1 ≤ 64 := fun j hj => by
    have := hm.1 j hj (Nat.zero_le _)
    unfold meQ at this
    rw [Bool.and_eq_true, decide_eq_true_iff, decide_eq_true_iff] at this
    exact this.2
  obtain ⟨P, g1, g2, g3⟩ := split_out a b s x l hp (by omega) hx (by omega) hmm l.length 0 [] 0 0 0 (by omega) ⟨Nat.zero_le _, by omega, fun _ => rfl, fun c => by omega, 0, by omega, by simp [cum]⟩ (by omega) (by omega) (by simp; omega)
  exact ⟨P, g1, by unfold spec_l25Split.f; exact g2, by unfold impl_split.f; exact g3⟩
theorem rdPi (l : List S167) (i : Nat) : rd_T167 l (i : Int) = l.getD i z167 := by
  unfold rd_T167
  rw [Int.toNat_natCast]
theorem parts_l0 (P : List S167) (hP : P.length ≤ 4000) (d : Nat) : ∀ i : Nat, i + d = P.length → Ev (fun k => impl_SplitNotes.l0 k ((P.take i).map pr) P (P.length : Int) (i : Int)) (P.map pr, 0) := by
  induction d with
  | zero =>
    intro i h
    refine Ev.shift ?_
    simp only [impl_SplitNotes.l0]
    rw [List.take_of_length_le (by omega)]
    exact Ev.neg (by omega) (Ev.now _)
  | succ d ih =>
    intro i h
    have w1 : wrap64 ((i : Int) + 1) = ((i + 1 : Nat) : Int) := by rw [wid (by omega)]; rfl
    have ih' := ih (i + 1) (by omega)
    have e : (P.take (i + 1)).map pr = (P.take i).map pr ++ [[(P.getD i z167).f0, (P.getD i z167).f1]] := by
      rw [List.take_add_one, List.getElem?_eq_getElem (show i < P.length by omega), List.map_append, List.getD_eq_getElem?_getD, List.getElem?_eq_getElem (show i < P.length by omega)]; rfl
    rw [e] at ih'
    refine Ev.shift ?_
    simp only [impl_SplitNotes.l0, rdPi, w1]
    exact Ev.pos (by omega) (Ev.pos (by omega) (Ev.pos (by omega) (Ev.pos (by rw [List.length_map, List.length_take]; omega) ih')))
theorem totP (P : List S167) : totL (P.map pr) = 2 * P.length := by
  induction P with
  | nil => rfl
  | cons y P ih => simp only [List.map_cons, totL, ih, pr, List.length_cons, List.length_nil]; omega
theorem spBoth (l : List S114) (s : ByteArray) (a b : List Int) (x : Int) (hl : l.length ≤ 17592186044416) (ha : a.length ≤ 35184372088832) : ∃ (P : List S167) (c : Int), P.length ≤ 4000 ∧ Ev (fun k => spec_SplitNotes.f k l s a b x) (P.map pr, c) ∧ Ev (fun k => impl_SplitNotes.f k l s a b x) (P.map pr, c) := by
  unfold spec_SplitNotes.f impl_SplitNotes.f
  have hs := sNo l s a b x hl ha
  have hi := iNo l s a b x ha
  by_cases h : noCode l s a b x = 0
  · obtain ⟨hm, ht, hx⟩ := noCode_zero h
    obtain ⟨P, h1, h2, h3⟩ := splitBoth a b s x l hm ht hx
    by_cases c : P.length ≤ 128
    · have h4 := parts_l0 P h1 P.length 0 (by omega)
      refine ⟨P, 0, h1, Ev.bind hs (Ev.pos h (Ev.bind h2 (Ev.neg (by rw [List.length_map]; omega) (Ev.now _)))), Ev.bind hi (Ev.pos h (Ev.bind h3 (Ev.neg (by omega) h4)))⟩
    · exact ⟨[], 5, by simp, Ev.bind hs (Ev.pos h (Ev.bind h2 (Ev.pos (by rw [List.length_map]; omega) (Ev.now _)))), Ev.bind hi (Ev.pos h (Ev.bind h3 (Ev.pos (by omega) (Ev.now _))))⟩
  · exact ⟨[], noCode l s a b x, by simp, Ev.bind hs (Ev.neg h (Ev.now _)), Ev.bind hi (Ev.neg h (Ev.now _))⟩
theorem FnExactSplitNotes : laws_FnExactSplitNotes.Pure := by
  intro l y x hm hy _
  refine Ev.rounds (g := fun k => laws_FnExactSplitNotes.f k l y.f0 y.f1 y.f2 x) ?_
  obtain ⟨s, a, b⟩ := y
  obtain ⟨h1, ⟨h2, _⟩, h3, _⟩ := hy
  dsimp only at h1 h2 h3 ⊢
  unfold laws_FnExactSplitNotes.f
  rw [szNote l hm.1]
  simp only [Option.bind_some]
  by_cases hl : l.length ≤ 1048576
  · rw [if_pos hl]
    refine Ev.neg (by omega) ?_
    obtain ⟨r, e, g⟩ := szTala s a b (1048576 - (l.length : Int)) h1 h2 h3 (by omega)
    rw [e]
    simp only [Option.bind_some]
    by_cases h0 : r < 0
    · exact Ev.pos h0 (Ev.now _)
    refine Ev.neg h0 ?_
    have g' := g (by omega)
    have hl' : l.length ≤ 17592186044416 := by omega
    have ha' : a.length ≤ 35184372088832 := by omega
    have hb' : b.length ≤ 35184372088832 := by omega
    have hc : (cpNote l).length ≤ 17592186044416 := by rw [cpNote_length]; exact hl'
    have hcl : (cpNote l).length = l.length := cpNote_length l
    obtain ⟨P, c, hq, hS, hI⟩ := spBoth (cpNote l) s a b x hc ha'
    have ht := totP P
    have hlen : (P.map pr).length = P.length := List.length_map ..
    have heq := eqSS (P.map pr) (fun r hr => by obtain ⟨y, _, rfl⟩ := List.mem_map.1 hr; simp [pr]) (by omega)
    obtain ⟨l', _, _, hmn⟩ := markNote (cpNote l) 1 (by omega) (by omega)
    obtain ⟨z, hz0, hmt⟩ := markTala s a b (1 + 2 * (cpNote l).length) (by omega) (by omega)
    have hmk := markSS (P.map pr) 1 (by omega) (by omega) (by omega)
    have hhl := heldSS (P.map pr) 1 (by omega) (by omega) (by omega)
    repeat (first | exact Ev.now _ | refine Ev.bind hS ?_ | refine Ev.bind hI ?_ | refine Ev.bind (toNote l hl') ?_ | refine Ev.bind (eqNote _ hc) ?_ | refine Ev.bind (toTala s a b ha' hb') ?_ | refine Ev.bind (eqTala s a b ha' hb') ?_ | refine Ev.bind heq ?_ | refine Ev.bind hmn ?_ | refine Ev.bind hmt ?_ | refine Ev.bind hmk ?_ | refine Ev.bind hhl ?_ | refine Ev.pos (by with_reducible rfl) ?_ | refine Ev.neg (by omega) ?_ | refine Ev.neg (by simp; done) ?_ | refine Ev.pos (by omega) ?_ | (refine Ev.shift ?_; simp only [laws_FnExactSplitNotes.j0, laws_FnExactSplitNotes.j1, laws_FnExactSplitNotes.j2]))
  · rw [if_neg hl]
    exact Ev.pos (by omega) (Ev.now _)

end Go.Proofs.Ytfledgccnaknpaa.Pure
