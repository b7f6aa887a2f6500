/- The pure statement of the law FnExactPeriodOf: what the Go functions compute, told by plain Lean functions, is what the law asks, for all arguments. No condition beyond the printed ones. -/
import Derived.Test.YtjdmfkmagcnakaaPFnExactPeriodOfxo
import Derived.Test.YtjdmfkmagcnakaaXW
namespace Go.Proofs.Ytjdmfkmagcnakaa.Pure
open Go.RowKit Go.Proofs.Ytjdmfkmagcnakaa.PFnExactPeriodOf Go.Proofs.YtjdmfkmagcnakaaW.PrintWords Go.Proofs.YtjdmfkmagcnakaaW.PrintLast Go.Proofs.YtjdmfkmagcnakaaW.PrintMore Go.Proofs.YtjdmfkmagcnakaaXW
set_option linter.unusedVariables false
set_option linter.unusedSimpArgs false
theorem toI_l0 (l : List Int) (hl : l.length ≤ 35184372088832) (d : Nat) : ∀ (i : Nat) (acc : List Int), i + d = l.length → acc.length = l.length → acc.take i = l.take i → Ev (fun k => laws_toInt64S.l0 k l acc i) l := by
  induction d with
  | zero =>
    intro i acc h1 h2 h3
    refine Ev.shift ?_
    simp only [laws_toInt64S.l0]
    refine Ev.neg (by omega) ?_
    refine Ev.some ?_
    rw [List.take_of_length_le (by omega), List.take_of_length_le (by omega)] at h3
    rw [h3]
  | succ d ih =>
    intro i acc h1 h2 h3
    refine Ev.shift ?_
    simp only [laws_toInt64S.l0]
    refine Ev.pos (by omega) (Ev.pos (by omega) (Ev.pos (by omega) ?_))
    rw [wid (by omega), rd_get l i (by omega), Int.toNat_natCast]
    refine ih (i + 1) (acc.set i l[i]) (by omega) (by rw [List.length_set, h2]) ?_
    rw [List.take_succ_eq_append_getElem (by rw [List.length_set]; omega), List.take_succ_eq_append_getElem (by omega), List.take_set_of_le (by omega), List.getElem_set_self, h3]
theorem toI (l : List Int) (hl : l.length ≤ 35184372088832) : Ev (fun k => laws_toInt64S.f k l) l := by
  unfold laws_toInt64S.f
  refine Ev.pos (by omega) (Ev.pos (by omega) ?_)
  rw [Int.toNat_natCast]
  exact toI_l0 l hl l.length 0 _ (by omega) (by simp) (by simp)
theorem eqI_l0 (l : List Int) (hl : l.length ≤ 35184372088832) (d : Nat) : ∀ (i : Nat), i + d = l.length → Ev (fun k => laws_eqInt64S.l0 k l l i) true := by
  induction d with
  | zero =>
    intro i h1
    refine Ev.shift ?_
    simp only [laws_eqInt64S.l0]
    exact Ev.neg (by omega) (Ev.now _)
  | succ d ih =>
    intro i h1
    refine Ev.shift ?_
    simp only [laws_eqInt64S.l0]
    refine Ev.pos (by omega) (Ev.pos (by omega) (Ev.pos (by omega) (Ev.pos (by trivial) ?_)))
    rw [wid (by omega)]
    exact ih (i + 1) (by omega)
theorem eqI (l : List Int) (hl : l.length ≤ 35184372088832) : Ev (fun k => laws_eqInt64S.f k l l) true := by
  unfold laws_eqInt64S.f
  exact Ev.pos rfl (eqI_l0 l hl l.length 0 (by omega))
theorem in_eq (a b c : Int) : spec_l00In.f a b c = some (decide (b ≤ a ∧ a ≤ c)) := by
  unfold spec_l00In.f; split <;> simp_all; omega
theorem within_eq (a b c : Int) : impl_within.f a b c = some (decide (b ≤ a ∧ a ≤ c)) := by
  unfold impl_within.f; split <;> simp_all; omega
theorem allIn_eq (l : List Int) (a b : Int) : impl_allWithin.f l a b = some (l.all fun x => decide (a ≤ x ∧ x ≤ b)) := by
  unfold impl_allWithin.f
  rw [List.not_any_eq_all_not]
  congr 2
  funext x
  simp [allP]
def cpSyllable (l : List S90) : List S92 := l.map fun x => ⟨x.f0, x.f1, x.f2⟩
theorem cpSyllable_length (l : List S90) : (cpSyllable l).length = l.length := List.length_map _
theorem toSyllable_l0 (l : List S90) (hl : l.length ≤ 8796093022208) (d : Nat) : ∀ (i : Nat) (acc : List S92), i + d = l.length → acc.length = l.length → acc.take i = (cpSyllable l).take i → Ev (fun k => laws_toSyllableS.l0 k l acc i) (cpSyllable l) := by
  have hc : (cpSyllable l).length = l.length := List.length_map _
  induction d with
  | zero =>
    intro i acc h1 h2 h3
    refine Ev.shift ?_
    simp only [laws_toSyllableS.l0]
    refine Ev.neg (by omega) (Ev.some ?_)
    rw [List.take_of_length_le (by omega), List.take_of_length_le (by omega)] at h3
    rw [h3]
  | succ d ih =>
    intro i acc h1 h2 h3
    refine Ev.shift ?_
    simp only [laws_toSyllableS.l0, laws_toSyllable.f, Option.bind_some]
    refine Ev.pos (by omega) (Ev.pos (by omega) (Ev.pos (by omega) ?_))
    rw [wid (by omega), Int.toNat_natCast]
    refine ih (i + 1) _ (by omega) (by rw [List.length_set, h2]) ?_
    rw [List.take_succ_eq_append_getElem (by rw [List.length_set]; omega), List.take_succ_eq_append_getElem (by omega), List.take_set_of_le (by omega), List.getElem_set_self, h3]
    have e : rd_T90 l (i : Int) = l[i] := by
      unfold rd_T90
      rw [Int.toNat_natCast, List.getD_eq_getElem?_getD, List.getElem?_eq_getElem (by omega), Option.getD_some]
    simp only [cpSyllable, List.getElem_map, e]
theorem toSyllable (l : List S90) (hl : l.length ≤ 8796093022208) : Ev (fun k => laws_toSyllableS.f k l) (cpSyllable l) := by
  unfold laws_toSyllableS.f
  refine Ev.pos (by omega) (Ev.pos (by omega) ?_)
  rw [Int.toNat_natCast]
  exact toSyllable_l0 l hl l.length 0 _ (by omega) (by simp) (by simp)
theorem eqSyllable_l0 (l : List S92) (hl : l.length ≤ 8796093022208) (d : Nat) : ∀ (i : Nat), i + d = l.length → Ev (fun k => laws_eqSyllableS.l0 k l l i) true := by
  induction d with
  | zero =>
    intro i h1
    refine Ev.shift ?_
    simp only [laws_eqSyllableS.l0]
    exact Ev.neg (by omega) (Ev.now _)
  | succ d ih =>
    intro i h1
    refine Ev.shift ?_
    simp only [laws_eqSyllableS.l0, laws_eqSyllable.f, Option.bind_some, if_true]
    refine Ev.pos (by omega) (Ev.pos (by omega) (Ev.pos (by omega) ?_))
    rw [wid (by omega)]
    exact ih (i + 1) (by omega)
theorem eqSyllable (l : List S92) (hl : l.length ≤ 8796093022208) : Ev (fun k => laws_eqSyllableS.f k l l) true := by
  unfold laws_eqSyllableS.f
  exact Ev.pos rfl (eqSyllable_l0 l hl l.length 0 (by omega))
theorem szSyllable_l0 (l : List S90) (hl : l.length ≤ 1048576) (hm : ∀ z ∈ l, z.f0.size ≤ maxLen) (d : Nat) : ∀ (i : Nat) (t : Int), i + d = l.length → 0 ≤ t ∧ t ≤ 1048576 → ∃ r, Ev (fun k => laws_szSyllableS.l0 k l t i) r := by
  induction d with
  | zero =>
    intro i t h1 ht
    refine ⟨t, Ev.shift ?_⟩
    simp only [laws_szSyllableS.l0]
    exact Ev.neg (by omega) (Ev.now _)
  | succ d ih =>
    intro i t h1 ht
    have e : rd_T90 l (i : Int) ∈ l := by
      unfold rd_T90
      rw [Int.toNat_natCast, List.getD_eq_getElem?_getD, List.getElem?_eq_getElem (by omega), Option.getD_some]
      exact List.getElem_mem _
    have hz := hm _ e
    unfold maxLen at hz
    have w1 : wrap64 ((i : Int) + 1) = ((i + 1 : Nat) : Int) := by rw [wid (by omega)]; rfl
    by_cases c : t - ((rd_T90 l (i : Int)).f0.size : Int) < 0
    · refine ⟨-1, Ev.shift ?_⟩
      simp only [laws_szSyllableS.l0, laws_szSyllable.f]
      rw [wid (x := t - _) (by omega), if_pos c]
      simp only [Option.bind_some]
      exact Ev.pos (by omega) (Ev.pos (by omega) (Ev.pos (by omega) (Ev.now _)))
    · obtain ⟨r, hr⟩ := ih (i + 1) (t - ((rd_T90 l (i : Int)).f0.size : Int)) (by omega) (by omega)
      refine ⟨r, Ev.shift ?_⟩
      simp only [laws_szSyllableS.l0, laws_szSyllable.f, w1]
      rw [wid (x := t - _) (by omega), if_neg c]
      simp only [Option.bind_some]
      exact Ev.pos (by omega) (Ev.pos (by omega) (Ev.neg c hr))
theorem szSyllable (l : List S90) (hl : l.length ≤ maxLen) (hm : ∀ z ∈ l, z.f0.size ≤ maxLen) : ∃ r, Ev (fun k => laws_szSyllableS.f k l 1048576) r ∧ (0 ≤ r → l.length ≤ 1048576) := by
  unfold laws_szSyllableS.f
  unfold maxLen at hl
  rw [wid (by omega)]
  by_cases h : l.length ≤ 1048576
  · obtain ⟨r, hr⟩ := szSyllable_l0 l h hm l.length 0 (1048576 - (l.length : Int)) (by omega) (by omega)
    exact ⟨r, Ev.neg (by omega) hr, fun _ => h⟩
  · exact ⟨-1, Ev.pos (by omega) (Ev.now _), fun h => by omega⟩
def chQ (s : ByteArray) (j : Nat) : Bool := decide (97 ≤ bt s j ∧ bt s j ≤ 122) || decide (48 ≤ bt s j ∧ bt s j ≤ 57)
def nameB (s : ByteArray) : Bool := decide (1 ≤ s.size ∧ s.size ≤ 10) && (decide (97 ≤ bt s 0 ∧ bt s 0 ≤ 122) && allF (chQ s) s.size 0)
theorem small_eq (a : Int) : spec_l01Small.f a = some (decide (97 ≤ a ∧ a ≤ 122)) := by
  unfold spec_l01Small.f; split <;> simp_all; omega
theorem digit_eq (a : Int) : spec_l01Digit.f a = some (decide (48 ≤ a ∧ a ≤ 57)) := by
  unfold spec_l01Digit.f; split <;> simp_all; omega
theorem sName_l0 (s : ByteArray) (hs : s.size ≤ 10) (d : Nat) : ∀ (i : Nat), i + d = s.size → Ev (fun k => spec_l01Name.l0 k s i) (allF (chQ s) s.size i) := by
  induction d with
  | zero =>
    intro i h1
    refine Ev.shift ?_
    simp only [spec_l01Name.l0]
    exact Ev.neg (by omega) (Ev.some (by rw [allF_end _ (by omega)]))
  | succ d ih =>
    intro i h1
    have w1 : wrap64 ((i : Int) + 1) = ((i + 1 : Nat) : Int) := by rw [wid (by omega)]; rfl
    refine Ev.shift ?_
    simp only [spec_l01Name.l0, small_eq, digit_eq, Option.bind_some, w1]
    refine Ev.pos (by omega) (Ev.pos (by omega) ?_)
    by_cases a : 97 ≤ bt s i ∧ bt s i ≤ 122
    · rw [allF_yes _ (show chQ s i = true by unfold chQ; rw [decide_eq_true a]; rfl)]
      exact Ev.pos (decide_eq_true a) (ih (i + 1) (by omega))
    · refine Ev.neg (by rw [decide_eq_true_iff]; exact a) ?_
      by_cases b : 48 ≤ bt s i ∧ bt s i ≤ 57
      · rw [allF_yes _ (show chQ s i = true by unfold chQ; rw [decide_eq_true b, Bool.or_true])]
        exact Ev.pos (decide_eq_true b) (ih (i + 1) (by omega))
      · rw [allF_no _ (by omega) (show chQ s i = false by unfold chQ; rw [decide_eq_false a, decide_eq_false b]; rfl)]
        exact Ev.neg (by rw [decide_eq_true_iff]; exact b) (Ev.now _)
theorem sName (s : ByteArray) : Ev (fun k => spec_l01Name.f k s) (nameB s) := by
  unfold spec_l01Name.f nameB
  simp only [small_eq, Option.bind_some]
  have e : s.toList.length = s.size := by rw [ByteArray.toList_eq]; simp
  have f : Ev (fun k => spec_l01Name.j0 k s true) false := by
    refine Ev.shift ?_
    simp only [spec_l01Name.j0]
    exact Ev.pos trivial (Ev.now _)
  by_cases h0 : s.toList = []
  · refine Ev.pos h0 ?_
    rw [h0] at e
    rw [decide_eq_false (by simp at e; omega)]
    exact f
  · refine Ev.neg h0 ?_
    have hp : 0 < s.toList.length := List.length_pos_iff.2 h0
    by_cases h1 : (s.size : Int) > 10
    · refine Ev.pos h1 ?_
      rw [decide_eq_false (show ¬ (1 ≤ s.size ∧ s.size ≤ 10) by omega)]
      exact f
    · refine Ev.neg h1 (Ev.pos (by omega) ?_)
      rw [decide_eq_true (show 1 ≤ s.size ∧ s.size ≤ 10 by omega), Bool.true_and]
      cases hb : decide (97 ≤ bt s 0 ∧ bt s 0 ≤ 122) with
      | false => exact f
      | true =>
        refine Ev.shift ?_
        simp only [spec_l01Name.j0]
        exact Ev.neg (by decide) (sName_l0 s (by omega) s.size 0 (by omega))
theorem iName_l0 (s : ByteArray) (hs : s.size ≤ 10) (d : Nat) : ∀ (i : Nat), i + d = s.size → Ev (fun k => impl_onlyNameBytes.l0 k s (s.size : Int) i) (allF (chQ s) s.size i) := by
  induction d with
  | zero =>
    intro i h1
    refine Ev.shift ?_
    simp only [impl_onlyNameBytes.l0]
    exact Ev.neg (by omega) (Ev.some (by rw [allF_end _ (by omega)]))
  | succ d ih =>
    intro i h1
    have w1 : wrap64 ((i : Int) + 1) = ((i + 1 : Nat) : Int) := by rw [wid (by omega)]; rfl
    refine Ev.shift ?_
    simp only [impl_onlyNameBytes.l0, w1]
    refine Ev.pos (by omega) (Ev.pos (by omega) (Ev.pos (by omega) ?_))
    by_cases a : 97 ≤ bt s i ∧ bt s i ≤ 122
    · rw [allF_yes _ (show chQ s i = true by unfold chQ; rw [decide_eq_true a]; rfl)]
      exact Ev.neg (by omega) (Ev.neg (by omega) (ih (i + 1) (by omega)))
    · by_cases b : 48 ≤ bt s i ∧ bt s i ≤ 57
      · rw [allF_yes _ (show chQ s i = true by unfold chQ; rw [decide_eq_true b, Bool.or_true])]
        exact Ev.pos (by omega) (Ev.neg (by omega) (Ev.neg (by omega) (ih (i + 1) (by omega))))
      · rw [allF_no _ (by omega) (show chQ s i = false by unfold chQ; rw [decide_eq_false a, decide_eq_false b]; rfl)]
        by_cases c : bt s i < 97
        · refine Ev.pos c ?_
          by_cases c2 : bt s i < 48
          · exact Ev.pos c2 (Ev.now _)
          · exact Ev.neg c2 (Ev.pos (by omega) (Ev.now _))
        · exact Ev.neg c (Ev.pos (by omega) (Ev.neg (by omega) (Ev.pos (by omega) (Ev.now _))))
theorem iName (s : ByteArray) : Ev (fun k => impl_IsName.f k s) (nameB s) := by
  unfold impl_IsName.f nameB impl_onlyNameBytes.f
  by_cases h0 : (s.size : Int) < 1
  · rw [decide_eq_false (show ¬ (1 ≤ s.size ∧ s.size ≤ 10) by omega)]
    exact Ev.pos h0 (Ev.now _)
  · refine Ev.neg h0 ?_
    by_cases h1 : (s.size : Int) > 10
    · rw [decide_eq_false (show ¬ (1 ≤ s.size ∧ s.size ≤ 10) by omega)]
      exact Ev.pos h1 (Ev.now _)
    · rw [decide_eq_true (show 1 ≤ s.size ∧ s.size ≤ 10 by omega), Bool.true_and]
      refine Ev.neg h1 (Ev.pos (by omega) ?_)
      by_cases a : bt s 0 < 97
      · rw [decide_eq_false (show ¬ (97 ≤ bt s 0 ∧ bt s 0 ≤ 122) by omega)]
        exact Ev.pos a (Ev.now _)
      · refine Ev.neg a ?_
        by_cases b : bt s 0 > 122
        · rw [decide_eq_false (show ¬ (97 ≤ bt s 0 ∧ bt s 0 ≤ 122) by omega)]
          exact Ev.pos b (Ev.now _)
        · rw [decide_eq_true (show 97 ≤ bt s 0 ∧ bt s 0 ≤ 122 by omega), Bool.true_and]
          exact Ev.neg b (Ev.bind (iName_l0 s (by omega) s.size 0 (by omega)) (Ev.now _))
def sylB (x : S92) : Bool := nameB x.f0 && (decide ((x.f0.size : Int) ≤ 6) && (decide (1 ≤ x.f1 ∧ x.f1 ≤ 3) && decide (1 ≤ x.f2 ∧ x.f2 ≤ 8)))
theorem dec_and (p q : Prop) [Decidable p] [Decidable q] : (decide p && decide q) = decide (p ∧ q) := by
  by_cases p <;> by_cases q <;> simp [*]
theorem sSyl (x : S92) : Ev (fun k => spec_l18One_at.f k x.f0 x.f1 x.f2) (sylB x) := by
  unfold spec_l18One_at.f
  refine Ev.bind (sName x.f0) (Ev.same (Ev.now _) ?_)
  unfold sylB
  rw [dec_and, dec_and]
theorem rdSy (l : List S92) (i : Nat) : rd_T92 l (i : Int) = l.getD i z92 := by
  unfold rd_T92
  rw [Int.toNat_natCast]
def syQ (l : List S92) (j : Nat) : Bool := sylB (l.getD j z92) && (decide (j = 0) || Op.bytesLess (l.getD (j - 1) z92).f0.toList (l.getD j z92).f0.toList)
def sylsB (l : List S92) : Bool := allF (syQ l) l.length 0 && decide ((l.length : Int) ≤ 16)
theorem sSyls_l0 (l : List S92) (hl : l.length ≤ 8796093022208) (d : Nat) : ∀ (i : Nat), i + d = l.length → Ev (fun k => spec_l18Ok.l0 k l i) (allF (syQ l) l.length i && decide ((l.length : Int) ≤ 16)) := by
  induction d with
  | zero =>
    intro i h1
    refine Ev.shift ?_
    simp only [spec_l18Ok.l0]
    exact Ev.neg (by omega) (Ev.some (by rw [allF_end _ (by omega), Bool.true_and]))
  | succ d ih =>
    intro i h1
    have w1 : wrap64 ((i : Int) + 1) = ((i + 1 : Nat) : Int) := by rw [wid (by omega)]; rfl
    refine Ev.shift ?_
    simp only [spec_l18Ok.l0, rdSy, w1]
    refine Ev.pos (by omega) (Ev.pos (by omega) (Ev.bind (sSyl _) ?_))
    cases hb : sylB (l.getD i z92) with
    | false =>
      rw [allF_no _ (by omega) (show syQ l i = false by unfold syQ; rw [hb]; rfl)]
      exact Ev.neg (by decide) (Ev.now _)
    | true =>
      refine Ev.pos rfl ?_
      cases i with
      | zero =>
        rw [allF_yes _ (show syQ l 0 = true by unfold syQ; rw [hb]; rfl)]
        exact Ev.neg (by omega) (ih 1 (by omega))
      | succ i =>
        refine Ev.pos (by omega) ?_
        have e1 : wrap64 (((i + 1 : Nat) : Int) - 1) = (i : Int) := by rw [wid (by omega)]; omega
        rw [e1, rdSy]
        refine Ev.pos (by omega) (Ev.pos (by omega) ?_)
        have e2 : syQ l (i + 1) = Op.bytesLess (l.getD i z92).f0.toList (l.getD (i + 1) z92).f0.toList := by
          unfold syQ
          rw [hb, decide_eq_false (by omega), Bool.true_and, Bool.false_or]
          rfl
        cases hc : Op.bytesLess (l.getD i z92).f0.toList (l.getD (i + 1) z92).f0.toList with
        | true =>
          rw [allF_yes _ (e2.trans hc)]
          exact Ev.pos rfl (ih (i + 2) (by omega))
        | false =>
          rw [allF_no _ (by omega) (e2.trans hc)]
          exact Ev.neg (by decide) (Ev.now _)
theorem sSyls (l : List S92) (hl : l.length ≤ 8796093022208) : Ev (fun k => spec_l18Ok.f k l) (sylsB l) :=
  sSyls_l0 l hl l.length 0 (by omega)
theorem iSyl (x : S92) : Ev (fun k => impl_ValidSyllable.f k x.f0 x.f1 x.f2) (sylB x) := by
  unfold impl_ValidSyllable.f sylB
  simp only [within_eq, Option.bind_some]
  refine Ev.bind (iName x.f0) ?_
  cases nameB x.f0 with
  | false => exact Ev.neg (by decide) (Ev.now _)
  | true =>
    refine Ev.pos rfl ?_
    rw [Bool.true_and]
    by_cases h : (x.f0.size : Int) ≤ 6
    · rw [decide_eq_true h, Bool.true_and]
      refine Ev.pos h ?_
      cases decide (1 ≤ x.f1 ∧ x.f1 ≤ 3) with
      | false => exact Ev.neg (by decide) (Ev.now _)
      | true => exact Ev.pos rfl (Ev.now _)
    · rw [decide_eq_false h, Bool.false_and]
      exact Ev.neg h (Ev.now _)
theorem iSyls_l0 (l : List S92) (hl : l.length ≤ 16) (d : Nat) : ∀ (i : Nat), i + d = l.length → Ev (fun k => impl_ValidSyllables.l0 k l l (l.length : Int) i) (allF (syQ l) l.length i) := by
  induction d with
  | zero =>
    intro i h1
    refine Ev.shift ?_
    simp only [impl_ValidSyllables.l0]
    exact Ev.neg (by omega) (Ev.some (by rw [allF_end _ (by omega)]))
  | succ d ih =>
    intro i h1
    have w1 : wrap64 ((i : Int) + 1) = ((i + 1 : Nat) : Int) := by rw [wid (by omega)]; rfl
    refine Ev.shift ?_
    simp only [impl_ValidSyllables.l0, rdSy, w1]
    refine Ev.pos (by omega) (Ev.pos (by omega) (Ev.pos (by omega) (Ev.bind (iSyl _) ?_)))
    cases hb : sylB (l.getD i z92) with
    | false =>
      rw [allF_no _ (by omega) (show syQ l i = false by unfold syQ; rw [hb]; rfl)]
      exact Ev.neg (by decide) (Ev.now _)
    | true =>
      refine Ev.pos rfl ?_
      cases i with
      | zero =>
        rw [allF_yes _ (show syQ l 0 = true by unfold syQ; rw [hb]; rfl)]
        exact Ev.neg (by omega) (ih 1 (by omega))
      | succ i =>
        refine Ev.pos (by omega) ?_
        have e1 : wrap64 (((i + 1 : Nat) : Int) - 1) = (i : Int) := by rw [wid (by omega)]; omega
        rw [e1, rdSy]
        refine Ev.pos (by omega) (Ev.pos (by omega) ?_)
        have e2 : syQ l (i + 1) = Op.bytesLess (l.getD i z92).f0.toList (l.getD (i + 1) z92).f0.toList := by
          unfold syQ
          rw [hb, decide_eq_false (by omega), Bool.true_and, Bool.false_or]
          rfl
        cases hc : Op.bytesLess (l.getD i z92).f0.toList (l.getD (i + 1) z92).f0.toList with
        | true =>
          rw [allF_yes _ (e2.trans hc)]
          exact Ev.pos rfl (ih (i + 2) (by omega))
        | false =>
          rw [allF_no _ (by omega) (e2.trans hc)]
          exact Ev.neg (by decide) (Ev.now _)
theorem iSyls (l : List S92) : Ev (fun k => impl_ValidSyllables.f k l) (sylsB l) := by
  unfold impl_ValidSyllables.f sylsB
  by_cases h : (l.length : Int) > 16
  · rw [decide_eq_false (show ¬ (l.length : Int) ≤ 16 by omega), Bool.and_false]
    exact Ev.pos h (Ev.now _)
  · rw [decide_eq_true (show (l.length : Int) ≤ 16 by omega), Bool.and_true]
    exact Ev.neg h (iSyls_l0 l (by omega) l.length 0 (by omega))
def thQ (n : Nat) (t : List Int) (j : Nat) : Bool := decide (0 ≤ t.getD j 0 ∧ t.getD j 0 ≤ (n : Int) - 1)
def thB (n : Nat) (t : List Int) : Bool := allF (thQ n t) t.length 0 && decide (1 ≤ t.length ∧ t.length ≤ 32)
theorem sComposed_l0 (l : List S92) (t : List Int) (hl : l.length ≤ 8796093022208) (ht : t.length ≤ 35184372088832) (d : Nat) : ∀ (i : Nat), i + d = t.length → Ev (fun k => spec_l18Composed.l0 k l t i) (allF (thQ l.length t) t.length i && decide ((t.length : Int) ≤ 64)) := by
  induction d with
  | zero =>
    intro i h1
    refine Ev.shift ?_
    simp only [spec_l18Composed.l0]
    exact Ev.neg (by omega) (Ev.some (by rw [allF_end _ (by omega), Bool.true_and]))
  | succ d ih =>
    intro i h1
    have w1 : wrap64 ((i : Int) + 1) = ((i + 1 : Nat) : Int) := by rw [wid (by omega)]; rfl
    have w2 : wrap64 ((l.length : Int) - 1) = (l.length : Int) - 1 := wid (by omega)
    refine Ev.shift ?_
    simp only [spec_l18Composed.l0, rd_nat, w1, w2, in_eq, Option.bind_some]
    refine Ev.pos (by omega) (Ev.pos (by omega) ?_)
    cases hb : thQ l.length t i with
    | true =>
      rw [allF_yes _ hb]
      exact Ev.pos hb (ih (i + 1) (by omega))
    | false =>
      rw [allF_no _ (by omega) hb]
      refine Ev.neg ?_ (Ev.now _)
      rw [show decide (0 ≤ t.getD i 0 ∧ t.getD i 0 ≤ (l.length : Int) - 1) = false from hb]
      decide
theorem sTheme (l : List S92) (t : List Int) (hl : l.length ≤ 8796093022208) (ht : t.length ≤ 35184372088832) : Ev (fun k => spec_l20Theme.f k l t) (thB l.length t) := by
  unfold spec_l20Theme.f thB
  have h := sComposed_l0 l t hl ht t.length 0 (by omega)
  cases ha : allF (thQ l.length t) t.length 0 with
  | false =>
    rw [ha] at h
    exact Ev.bind h (Ev.neg (by simp) (Ev.now _))
  | true =>
    rw [ha, Bool.true_and] at h
    refine Ev.bind h ?_
    rw [Bool.true_and]
    by_cases h1 : (t.length : Int) ≤ 64
    · refine Ev.pos (decide_eq_true h1) ?_
      by_cases h2 : (t.length : Int) ≥ 1
      · exact Ev.pos h2 (Ev.some (by rw [Option.some_inj, decide_eq_decide]; omega))
      · exact Ev.neg h2 (Ev.some (by rw [decide_eq_false (show ¬ (1 ≤ t.length ∧ t.length ≤ 32) by omega)]))
    · refine Ev.neg (by rw [decide_eq_true_iff]; exact h1) (Ev.some ?_)
      rw [decide_eq_false (show ¬ (1 ≤ t.length ∧ t.length ≤ 32) by omega)]
def thCode (l : List S92) (t : List Int) (x : Int) : Int := if sylsB l = true then (if thB l.length t = true then (if 1 ≤ x ∧ x ≤ 32 then 0 else 2) else 7) else 1
theorem iTheme (l : List S92) (t : List Int) (x : Int) (hl : l.length ≤ 8796093022208) : Ev (fun k => impl_themeCode.f k l t x) (thCode l t x) := by
  unfold impl_themeCode.f thCode
  have hs := iSyls l
  cases v : sylsB l with
  | false =>
    rw [v] at hs
    rw [if_neg (show ¬ (false = true) by decide)]
    exact Ev.bind hs (Ev.neg (by decide) (Ev.now _))
  | true =>
    rw [v] at hs
    rw [if_pos (show true = true from rfl)]
    refine Ev.bind hs (Ev.pos rfl ?_)
    have f : Ev (fun k => impl_themeCode.j0 k x true) 7 := by
      refine Ev.shift ?_
      simp only [impl_themeCode.j0]
      exact Ev.pos trivial (Ev.now _)
    by_cases h1 : (t.length : Int) < 1
    · rw [show thB l.length t = false by unfold thB; rw [decide_eq_false (by omega), Bool.and_false], if_neg (show ¬ (false = true) by decide)]
      exact Ev.pos h1 f
    · refine Ev.neg h1 ?_
      by_cases h2 : (t.length : Int) > 32
      · rw [show thB l.length t = false by unfold thB; rw [decide_eq_false (by omega), Bool.and_false], if_neg (show ¬ (false = true) by decide)]
        exact Ev.pos h2 f
      · refine Ev.neg h2 ?_
        have w2 : wrap64 ((l.length : Int) - 1) = (l.length : Int) - 1 := wid (by omega)
        have e : (t.all fun x => decide (0 ≤ x ∧ x ≤ (l.length : Int) - 1)) = thB l.length t := by
          unfold thB
          rw [decide_eq_true (show 1 ≤ t.length ∧ t.length ≤ 32 by omega), Bool.and_true, Bool.eq_iff_iff, all_iff_get, allF_iff]
          exact ⟨fun h j hj _ => h j hj, fun h j hj => h j hj (Nat.zero_le _)⟩
        unfold impl_composedOk.f
        rw [if_pos (show (t.length : Int) ≤ 64 by omega), w2, allIn_eq, e]
        simp only [Option.bind_some]
        cases thB l.length t with
        | false =>
          rw [if_neg (show ¬ (false = true) by decide)]
          exact f
        | true =>
          rw [if_pos (show true = true from rfl)]
          refine Ev.shift ?_
          simp only [impl_themeCode.j0, within_eq, Option.bind_some]
          refine Ev.neg (by decide) ?_
          by_cases h3 : 1 ≤ x ∧ x ≤ 32
          · rw [if_pos h3]
            exact Ev.pos (decide_eq_true h3) (Ev.now _)
          · rw [if_neg h3]
            exact Ev.neg (by rw [decide_eq_true_iff]; exact h3) (Ev.now _)
theorem sAsk (l : List S92) (t : List Int) (hl : l.length ≤ 8796093022208) (ht : t.length ≤ 35184372088832) : Ev (fun k => spec_l20Ask.f k l t) (thCode l t 1) := by
  unfold spec_l20Ask.f thCode
  have hs := sSyls l hl
  cases v : sylsB l with
  | false =>
    rw [v] at hs
    rw [if_neg (show ¬ (false = true) by decide)]
    exact Ev.bind hs (Ev.neg (by decide) (Ev.now _))
  | true =>
    rw [v] at hs
    rw [if_pos (show true = true from rfl), if_pos (show (1 : Int) ≤ 1 ∧ (1 : Int) ≤ 32 by omega)]
    refine Ev.bind hs (Ev.pos rfl ?_)
    have hst := sTheme l t hl ht
    cases h : thB l.length t with
    | false =>
      rw [h] at hst
      rw [if_neg (show ¬ (false = true) by decide)]
      exact Ev.bind hst (Ev.neg (by decide) (Ev.now _))
    | true =>
      rw [h] at hst
      rw [if_pos (show true = true from rfl)]
      exact Ev.bind hst (Ev.pos rfl (Ev.now _))
theorem thCode_zero {l : List S92} {t : List Int} (h : thCode l t 1 = 0) : 1 ≤ t.length ∧ t.length ≤ 32 := by
  unfold thCode at h
  split at h
  · split at h
    · rename_i h2
      unfold thB at h2
      rw [Bool.and_eq_true, decide_eq_true_iff] at h2
      exact h2.2
    · cases h
  · cases h
def peQ (t : List Int) (p j : Nat) : Bool := decide (t.getD j 0 = t.getD (j - p) 0)
theorem sPer_off (t : List Int) (h32 : t.length ≤ 32) (p : Nat) (hp : 1 ≤ p ∧ p ≤ 32) (r : Int × Int) (hr : Ev (fun k => spec_PeriodOf.l0 k t ((p + 1 : Nat) : Int)) r) (d : Nat) : ∀ (i : Nat), i + d = t.length → Ev (fun k => spec_PeriodOf.l1 k t p false i) r := by
  induction d with
  | zero =>
    intro i h1
    have w : wrap64 ((p : Int) + 1) = ((p + 1 : Nat) : Int) := by rw [wid (by omega)]; rfl
    refine Ev.shift ?_
    simp only [spec_PeriodOf.l1, w]
    exact Ev.neg (by omega) (Ev.neg (by decide) hr)
  | succ d ih =>
    intro i h1
    have w1 : wrap64 ((i : Int) + 1) = ((i + 1 : Nat) : Int) := by rw [wid (by omega)]; rfl
    refine Ev.shift ?_
    simp only [spec_PeriodOf.l1, w1]
    exact Ev.pos (by omega) (Ev.neg (by decide) (ih (i + 1) (by omega)))
theorem sPer_on (t : List Int) (h32 : t.length ≤ 32) (p : Nat) (hp : 1 ≤ p ∧ p ≤ 32) (r : Int × Int) (hr : Ev (fun k => spec_PeriodOf.l0 k t ((p + 1 : Nat) : Int)) r) (d : Nat) : ∀ (i : Nat), i + d = t.length → p ≤ i → allF (peQ t p) t.length i = false → Ev (fun k => spec_PeriodOf.l1 k t p true i) r := by
  induction d with
  | zero =>
    intro i h1 h2 h3
    rw [allF_end _ (by omega)] at h3
    cases h3
  | succ d ih =>
    intro i h1 h2 h3
    have w1 : wrap64 ((i : Int) + 1) = ((i + 1 : Nat) : Int) := by rw [wid (by omega)]; rfl
    have w2 : wrap64 ((i : Int) - (p : Int)) = ((i - p : Nat) : Int) := by rw [wid (by omega)]; omega
    refine Ev.shift ?_
    simp only [spec_PeriodOf.l1, w1, w2, rd_nat]
    refine Ev.pos (by omega) (Ev.pos trivial (Ev.pos (by omega) (Ev.pos (by omega) (Ev.pos (by omega) ?_))))
    cases hq : peQ t p i with
    | true =>
      rw [allF_yes _ hq] at h3
      rw [show (t.getD i 0 == t.getD (i - p) 0) = true from hq]
      exact ih (i + 1) (by omega) (by omega) h3
    | false =>
      rw [show (t.getD i 0 == t.getD (i - p) 0) = false from hq]
      exact sPer_off t h32 p hp r hr d (i + 1) (by omega)
theorem sPer_yes (t : List Int) (h32 : t.length ≤ 32) (p : Nat) (hp : 1 ≤ p ∧ p ≤ 32) (d : Nat) : ∀ (i : Nat), i + d = t.length → p ≤ i → allF (peQ t p) t.length i = true → Ev (fun k => spec_PeriodOf.l1 k t p true i) ((p : Int), 0) := by
  induction d with
  | zero =>
    intro i h1 h2 h3
    refine Ev.shift ?_
    simp only [spec_PeriodOf.l1]
    exact Ev.neg (by omega) (Ev.pos trivial (Ev.now _))
  | succ d ih =>
    intro i h1 h2 h3
    have w1 : wrap64 ((i : Int) + 1) = ((i + 1 : Nat) : Int) := by rw [wid (by omega)]; rfl
    have w2 : wrap64 ((i : Int) - (p : Int)) = ((i - p : Nat) : Int) := by rw [wid (by omega)]; omega
    refine Ev.shift ?_
    simp only [spec_PeriodOf.l1, w1, w2, rd_nat]
    refine Ev.pos (by omega) (Ev.pos trivial (Ev.pos (by omega) (Ev.pos (by omega) (Ev.pos (by omega) ?_))))
    cases hq : peQ t p i with
    | true =>
      rw [allF_yes _ hq] at h3
      rw [show (t.getD i 0 == t.getD (i - p) 0) = true from hq]
      exact ih (i + 1) (by omega) (by omega) h3
    | false =>
      rw [allF_no _ (by omega) hq] at h3
      cases h3
theorem equal_l0 (a b : List Int) (ha : a.length ≤ 32) (hab : a.length = b.length) (d : Nat) : ∀ (i : Nat), i + d = a.length → Ev (fun k => slices_Equal_int64_int64.l0 k a b (a.length : Int) i) (allF (fun j => decide (a.getD j 0 = b.getD j 0)) a.length i) := by
  induction d with
  | zero =>
    intro i h1
    refine Ev.shift ?_
    simp only [slices_Equal_int64_int64.l0]
    exact Ev.neg (by omega) (Ev.some (by rw [allF_end _ (by omega)]))
  | succ d ih =>
    intro i h1
    have w1 : wrap64 ((i : Int) + 1) = ((i + 1 : Nat) : Int) := by rw [wid (by omega)]; rfl
    refine Ev.shift ?_
    simp only [slices_Equal_int64_int64.l0, w1, rd_nat]
    refine Ev.pos (by omega) (Ev.pos (by omega) (Ev.pos (by omega) (Ev.pos (by omega) ?_)))
    by_cases h : a.getD i 0 = b.getD i 0
    · rw [allF_yes (fun j => decide (a.getD j 0 = b.getD j 0)) (decide_eq_true h)]
      exact Ev.pos h (ih (i + 1) (by omega))
    · rw [allF_no (fun j => decide (a.getD j 0 = b.getD j 0)) (by omega) (decide_eq_false h)]
      exact Ev.neg h (Ev.now _)
theorem iPer_eq (t : List Int) (h32 : t.length ≤ 32) (p : Nat) (hp : 1 ≤ p ∧ p ≤ t.length) : Ev (fun k => slices_Equal_int64_int64.f k (t.drop p) (t.take (t.length - p))) (allF (peQ t p) t.length p) := by
  have l1 : (t.drop p).length = t.length - p := List.length_drop
  have l2 : (t.take (t.length - p)).length = t.length - p := by rw [List.length_take]; omega
  unfold slices_Equal_int64_int64.f
  refine Ev.pos (by omega) (Ev.same (equal_l0 _ _ (by omega) (by omega) (t.drop p).length 0 (by omega)) ?_)
  rw [Bool.eq_iff_iff, allF_iff, allF_iff, l1]
  have g1 : ∀ j, (t.drop p).getD j 0 = t.getD (p + j) 0 := fun j => by rw [List.getD_eq_getElem?_getD, List.getElem?_drop, List.getD_eq_getElem?_getD]
  have g2 : ∀ j, j < t.length - p → (t.take (t.length - p)).getD j 0 = t.getD j 0 := fun j hj => by rw [List.getD_eq_getElem?_getD, List.getElem?_take, if_pos hj, List.getD_eq_getElem?_getD]
  constructor
  · intro h j hj hpj
    have := of_decide_eq_true (h (j - p) (by omega) (Nat.zero_le _))
    rw [g1, g2 _ (by omega), show p + (j - p) = j by omega] at this
    exact decide_eq_true this
  · intro h j hj _
    have := of_decide_eq_true (h (p + j) (by omega) (by omega))
    rw [show p + j - p = j by omega] at this
    refine decide_eq_true ?_
    rw [g1, g2 _ hj]
    exact this
theorem period_both (t : List Int) (h1 : 1 ≤ t.length ∧ t.length ≤ 32) (d : Nat) : ∀ (p : Nat), p + d = t.length → 1 ≤ p → ∃ r, Ev (fun k => spec_PeriodOf.l0 k t p) r ∧ Ev (fun k => impl_PeriodOf.l0 k t p) r := by
  induction d with
  | zero =>
    intro p hp h
    have w : wrap64 ((t.length : Int) - p) = ((t.length - p : Nat) : Int) := by rw [wid (by omega)]; omega
    have e := iPer_eq t h1.2 p (by omega)
    rw [allF_end _ (by omega)] at e
    refine ⟨((p : Int), 0), Ev.shift ?_, Ev.shift ?_⟩
    · simp only [spec_PeriodOf.l0]
      exact sPer_yes t h1.2 p (by omega) 0 p (by omega) (Nat.le_refl _) (allF_end _ (by omega))
    · simp only [impl_PeriodOf.l0, w, Int.toNat_natCast]
      exact Ev.pos (by omega) (Ev.pos (by omega) (Ev.pos (by omega) (Ev.pos (by omega) (Ev.bind e (Ev.pos rfl (Ev.now _))))))
  | succ d ih =>
    intro p hp h
    have w : wrap64 ((t.length : Int) - p) = ((t.length - p : Nat) : Int) := by rw [wid (by omega)]; omega
    have w1 : wrap64 ((p : Int) + 1) = ((p + 1 : Nat) : Int) := by rw [wid (by omega)]; rfl
    have e := iPer_eq t h1.2 p (by omega)
    obtain ⟨r, x, y⟩ := ih (p + 1) (by omega) (by omega)
    cases ha : allF (peQ t p) t.length p with
    | true =>
      rw [ha] at e
      refine ⟨((p : Int), 0), Ev.shift ?_, Ev.shift ?_⟩
      · simp only [spec_PeriodOf.l0]
        exact sPer_yes t h1.2 p (by omega) (d + 1) p (by omega) (Nat.le_refl _) ha
      · simp only [impl_PeriodOf.l0, w, Int.toNat_natCast]
        exact Ev.pos (by omega) (Ev.pos (by omega) (Ev.pos (by omega) (Ev.pos (by omega) (Ev.bind e (Ev.pos rfl (Ev.now _))))))
    | false =>
      rw [ha] at e
      refine ⟨r, Ev.shift ?_, Ev.shift ?_⟩
      · simp only [spec_PeriodOf.l0]
        exact sPer_on t h1.2 p (by omega) r x (d + 1) p (by omega) (Nat.le_refl _) ha
      · simp only [impl_PeriodOf.l0, w, w1, Int.toNat_natCast]
        exact Ev.pos (by omega) (Ev.pos (by omega) (Ev.pos (by omega) (Ev.pos (by omega) (Ev.bind e (Ev.neg (by decide) y)))))
theorem periodOf (l : List S92) (t : List Int) (hl : l.length ≤ 8796093022208) (ht : t.length ≤ 35184372088832) : ∃ r, Ev (fun k => spec_PeriodOf.f k l t) r ∧ Ev (fun k => impl_PeriodOf.f k l t) r := by
  unfold spec_PeriodOf.f impl_PeriodOf.f
  have hs := sAsk l t hl ht
  have hi := iTheme l t 1 hl
  by_cases h : thCode l t 1 = 0
  · obtain ⟨r, x, y⟩ := period_both t (thCode_zero h) (t.length - 1) 1 (by have := thCode_zero h; omega) (Nat.le_refl _)
    exact ⟨r, Ev.bind hs (Ev.pos h x), Ev.bind hi (Ev.pos h y)⟩
  · exact ⟨(0, thCode l t 1), Ev.bind hs (Ev.neg h (Ev.now _)), Ev.bind hi (Ev.neg h (Ev.now _))⟩
theorem FnExactPeriodOf : laws_FnExactPeriodOf.Pure := by
  intro l t hm hm2
  refine Ev.rounds (g := fun k => laws_FnExactPeriodOf.f k l t) ?_
  unfold laws_FnExactPeriodOf.f
  by_cases ht : (t.length : Int) > 1048576
  · exact Ev.pos ht (Ev.now _)
  refine Ev.neg ht ?_
  obtain ⟨s, hz, hb⟩ := szSyllable l hm.1 (fun z hz => (hm.2 z hz).1)
  refine Ev.bind hz ?_
  by_cases h0 : s < 0
  · exact Ev.pos h0 (Ev.now _)
  refine Ev.neg h0 ?_
  have hl := hb (by omega)
  have hl' : l.length ≤ 8796093022208 := by omega
  have ht' : t.length ≤ 35184372088832 := by omega
  have hc : (cpSyllable l).length ≤ 8796093022208 := by rw [cpSyllable_length]; exact hl'
  obtain ⟨⟨r, c⟩, hS, hI⟩ := periodOf (cpSyllable l) t hc ht'
  repeat (first | exact Ev.now _ | refine Ev.bind hS ?_ | refine Ev.bind hI ?_ | refine Ev.bind (toSyllable l hl') ?_ | refine Ev.bind (eqSyllable _ hc) ?_ | refine Ev.bind (toI _ (by assumption)) ?_ | refine Ev.bind (eqI _ (by assumption)) ?_ | refine Ev.pos (by with_reducible rfl) ?_ | refine Ev.neg (by omega) ?_ | refine Ev.neg (by simp; done) ?_ | refine Ev.pos (by omega) ?_ | (refine Ev.shift ?_; simp only [laws_FnExactPeriodOf.j0]))

end Go.Proofs.Ytjdmfkmagcnakaa.Pure
