/- The pure statement of the law FnExactCountComposed: what the Go functions compute, told by plain Lean functions, is what the law asks, for all arguments. No condition beyond the printed ones. -/
import Derived.Test.YtlcciappjbppfaaPFnExactCountComposedxo
import Derived.Test.YtlcciappjbppfaaXW
namespace Go.Proofs.Ytlcciappjbppfaa.Pure
open Go.RowKit Go.Proofs.Ytlcciappjbppfaa.PFnExactCountComposed Go.Proofs.YtlcciappjbppfaaW.PrintWords Go.Proofs.YtlcciappjbppfaaW.PrintLast Go.Proofs.YtlcciappjbppfaaW.PrintMore Go.Proofs.YtlcciappjbppfaaXW
set_option linter.unusedVariables false
set_option linter.unusedSimpArgs false
def risQ (l : List Int) (lo hi : Int) (j : Nat) : Bool := decide (lo ≤ l.getD j 0 ∧ l.getD j 0 ≤ hi) && (decide (j = 0) || decide (l.getD (j - 1) 0 < l.getD j 0))
theorem in_eq (a b c : Int) : spec_l00In.f a b c = some (decide (b ≤ a ∧ a ≤ c)) := by
  unfold spec_l00In.f; split <;> simp_all; omega
theorem within_eq (a b c : Int) : impl_within.f a b c = some (decide (b ≤ a ∧ a ≤ c)) := by
  unfold impl_within.f; split <;> simp_all; omega
def cpSyllable (l : List S41) : List S49 := l.map fun x => ⟨x.f0, x.f1, x.f2⟩
theorem cpSyllable_length (l : List S41) : (cpSyllable l).length = l.length := List.length_map _
theorem toSyllable_l0 (l : List S41) (hl : l.length ≤ 8796093022208) (d : Nat) : ∀ (i : Nat) (acc : List S49), i + d = l.length → acc.length = l.length → acc.take i = (cpSyllable l).take i → Ev (fun k => laws_toSyllableS.l0 k l acc i) (cpSyllable l) := by
  have hc : (cpSyllable l).length = l.length := List.length_map _
  induction d with
  | zero =>
    intro i acc h1 h2 h3
    refine Ev.shift ?_
    simp only [laws_toSyllableS.l0]
    refine Ev.neg (by omega) (Ev.some ?_)
    rw [List.take_of_length_le (by omega), List.take_of_length_le (by omega)] at h3
    rw [h3]
  | succ d ih =>
    intro i acc h1 h2 h3
    refine Ev.shift ?_
    simp only [laws_toSyllableS.l0, laws_toSyllable.f, Option.bind_some]
    refine Ev.pos (by omega) (Ev.pos (by omega) (Ev.pos (by omega) ?_))
    rw [wid (by omega), Int.toNat_natCast]
    refine ih (i + 1) _ (by omega) (by rw [List.length_set, h2]) ?_
    rw [List.take_succ_eq_append_getElem (by rw [List.length_set]; omega), List.take_succ_eq_append_getElem (by omega), List.take_set_of_le (by omega), List.getElem_set_self, h3]
    have e : rd_T41 l (i : Int) = l[i] := by
      unfold rd_T41
      rw [Int.toNat_natCast, List.getD_eq_getElem?_getD, List.getElem?_eq_getElem (by omega), Option.getD_some]
    simp only [cpSyllable, List.getElem_map, e]
theorem toSyllable (l : List S41) (hl : l.length ≤ 8796093022208) : Ev (fun k => laws_toSyllableS.f k l) (cpSyllable l) := by
  unfold laws_toSyllableS.f
  refine Ev.pos (by omega) (Ev.pos (by omega) ?_)
  rw [Int.toNat_natCast]
  exact toSyllable_l0 l hl l.length 0 _ (by omega) (by simp) (by simp)
theorem eqSyllable_l0 (l : List S49) (hl : l.length ≤ 8796093022208) (d : Nat) : ∀ (i : Nat), i + d = l.length → Ev (fun k => laws_eqSyllableS.l0 k l l i) true := by
  induction d with
  | zero =>
    intro i h1
    refine Ev.shift ?_
    simp only [laws_eqSyllableS.l0]
    exact Ev.neg (by omega) (Ev.now _)
  | succ d ih =>
    intro i h1
    refine Ev.shift ?_
    simp only [laws_eqSyllableS.l0, laws_eqSyllable.f, Option.bind_some, if_true]
    refine Ev.pos (by omega) (Ev.pos (by omega) (Ev.pos (by omega) ?_))
    rw [wid (by omega)]
    exact ih (i + 1) (by omega)
theorem eqSyllable (l : List S49) (hl : l.length ≤ 8796093022208) : Ev (fun k => laws_eqSyllableS.f k l l) true := by
  unfold laws_eqSyllableS.f
  exact Ev.pos rfl (eqSyllable_l0 l hl l.length 0 (by omega))
theorem szSyllable_l0 (l : List S41) (hl : l.length ≤ 1048576) (hm : ∀ z ∈ l, z.f0.size ≤ maxLen) (d : Nat) : ∀ (i : Nat) (t : Int), i + d = l.length → 0 ≤ t ∧ t ≤ 1048576 → ∃ r, r ≤ 1048576 ∧ Ev (fun k => laws_szSyllableS.l0 k l t i) r := by
  induction d with
  | zero =>
    intro i t h1 ht
    refine ⟨t, by omega, Ev.shift ?_⟩
    simp only [laws_szSyllableS.l0]
    exact Ev.neg (by omega) (Ev.now _)
  | succ d ih =>
    intro i t h1 ht
    have e : rd_T41 l (i : Int) ∈ l := by
      unfold rd_T41
      rw [Int.toNat_natCast, List.getD_eq_getElem?_getD, List.getElem?_eq_getElem (by omega), Option.getD_some]
      exact List.getElem_mem _
    have hz := hm _ e
    unfold maxLen at hz
    have w1 : wrap64 ((i : Int) + 1) = ((i + 1 : Nat) : Int) := by rw [wid (by omega)]; rfl
    by_cases c : t - ((rd_T41 l (i : Int)).f0.size : Int) < 0
    · refine ⟨-1, by omega, Ev.shift ?_⟩
      simp only [laws_szSyllableS.l0, laws_szSyllable.f]
      rw [wid (x := t - _) (by omega), if_pos c]
      simp only [Option.bind_some]
      exact Ev.pos (by omega) (Ev.pos (by omega) (Ev.pos (by omega) (Ev.now _)))
    · obtain ⟨r, hb, hr⟩ := ih (i + 1) (t - ((rd_T41 l (i : Int)).f0.size : Int)) (by omega) (by omega)
      refine ⟨r, hb, Ev.shift ?_⟩
      simp only [laws_szSyllableS.l0, laws_szSyllable.f, w1]
      rw [wid (x := t - _) (by omega), if_neg c]
      simp only [Option.bind_some]
      exact Ev.pos (by omega) (Ev.pos (by omega) (Ev.neg c hr))
theorem szSyllable2 (l : List S41) (hl : l.length ≤ maxLen) (hm : ∀ z ∈ l, z.f0.size ≤ maxLen) : ∃ r, Ev (fun k => laws_szSyllableS.f k l 1048576) r ∧ r ≤ 1048576 ∧ (0 ≤ r → l.length ≤ 1048576) := by
  unfold laws_szSyllableS.f
  unfold maxLen at hl
  rw [wid (by omega)]
  by_cases h : l.length ≤ 1048576
  · obtain ⟨r, hb, hr⟩ := szSyllable_l0 l h hm l.length 0 (1048576 - (l.length : Int)) (by omega) (by omega)
    exact ⟨r, Ev.neg (by omega) hr, hb, fun _ => h⟩
  · exact ⟨-1, Ev.pos (by omega) (Ev.now _), by omega, fun h => by omega⟩
theorem szSyllable (l : List S41) (hl : l.length ≤ maxLen) (hm : ∀ z ∈ l, z.f0.size ≤ maxLen) : ∃ r, Ev (fun k => laws_szSyllableS.f k l 1048576) r ∧ (0 ≤ r → l.length ≤ 1048576) := by
  obtain ⟨r, h1, _, h2⟩ := szSyllable2 l hl hm
  exact ⟨r, h1, h2⟩
def chQ (s : ByteArray) (j : Nat) : Bool := decide (97 ≤ bt s j ∧ bt s j ≤ 122) || decide (48 ≤ bt s j ∧ bt s j ≤ 57)
def nameB (s : ByteArray) : Bool := decide (1 ≤ s.size ∧ s.size ≤ 10) && (decide (97 ≤ bt s 0 ∧ bt s 0 ≤ 122) && allF (chQ s) s.size 0)
theorem small_eq (a : Int) : spec_l01Small.f a = some (decide (97 ≤ a ∧ a ≤ 122)) := by
  unfold spec_l01Small.f; split <;> simp_all; omega
theorem digit_eq (a : Int) : spec_l01Digit.f a = some (decide (48 ≤ a ∧ a ≤ 57)) := by
  unfold spec_l01Digit.f; split <;> simp_all; omega
theorem sName_l0 (s : ByteArray) (hs : s.size ≤ 10) (d : Nat) : ∀ (i : Nat), i + d = s.size → Ev (fun k => spec_l01Name.l0 k s i) (allF (chQ s) s.size i) := by
  induction d with
  | zero =>
    intro i h1
    refine Ev.shift ?_
    simp only [spec_l01Name.l0]
    exact Ev.neg (by omega) (Ev.some (by rw [allF_end _ (by omega)]))
  | succ d ih =>
    intro i h1
    have w1 : wrap64 ((i : Int) + 1) = ((i + 1 : Nat) : Int) := by rw [wid (by omega)]; rfl
    refine Ev.shift ?_
    simp only [spec_l01Name.l0, small_eq, digit_eq, Option.bind_some, w1]
    refine Ev.pos (by omega) (Ev.pos (by omega) ?_)
    by_cases a : 97 ≤ bt s i ∧ bt s i ≤ 122
    · rw [allF_yes _ (show chQ s i = true by unfold chQ; rw [decide_eq_true a]; rfl)]
      exact Ev.pos (decide_eq_true a) (ih (i + 1) (by omega))
    · refine Ev.neg (by rw [decide_eq_true_iff]; exact a) ?_
      by_cases b : 48 ≤ bt s i ∧ bt s i ≤ 57
      · rw [allF_yes _ (show chQ s i = true by unfold chQ; rw [decide_eq_true b, Bool.or_true])]
        exact Ev.pos (decide_eq_true b) (ih (i + 1) (by omega))
      · rw [allF_no _ (by omega) (show chQ s i = false by unfold chQ; rw [decide_eq_false a, decide_eq_false b]; rfl)]
        exact Ev.neg (by rw [decide_eq_true_iff]; exact b) (Ev.now _)
theorem sName (s : ByteArray) : Ev (fun k => spec_l01Name.f k s) (nameB s) := by
  unfold spec_l01Name.f nameB
  simp only [small_eq, Option.bind_some]
  have e : s.toList.length = s.size := by rw [ByteArray.toList_eq]; simp
  have f : Ev (fun k => spec_l01Name.j0 k s true) false := by
    refine Ev.shift ?_
    simp only [spec_l01Name.j0]
    exact Ev.pos trivial (Ev.now _)
  by_cases h0 : s.toList = []
  · refine Ev.pos h0 ?_
    rw [h0] at e
    rw [decide_eq_false (by simp at e; omega)]
    exact f
  · refine Ev.neg h0 ?_
    have hp : 0 < s.toList.length := List.length_pos_iff.2 h0
    by_cases h1 : (s.size : Int) > 10
    · refine Ev.pos h1 ?_
      rw [decide_eq_false (show ¬ (1 ≤ s.size ∧ s.size ≤ 10) by omega)]
      exact f
    · refine Ev.neg h1 (Ev.pos (by omega) ?_)
      rw [decide_eq_true (show 1 ≤ s.size ∧ s.size ≤ 10 by omega), Bool.true_and]
      cases hb : decide (97 ≤ bt s 0 ∧ bt s 0 ≤ 122) with
      | false => exact f
      | true =>
        refine Ev.shift ?_
        simp only [spec_l01Name.j0]
        exact Ev.neg (by decide) (sName_l0 s (by omega) s.size 0 (by omega))
theorem iName_l0 (s : ByteArray) (hs : s.size ≤ 10) (d : Nat) : ∀ (i : Nat), i + d = s.size → Ev (fun k => impl_onlyNameBytes.l0 k s (s.size : Int) i) (allF (chQ s) s.size i) := by
  induction d with
  | zero =>
    intro i h1
    refine Ev.shift ?_
    simp only [impl_onlyNameBytes.l0]
    exact Ev.neg (by omega) (Ev.some (by rw [allF_end _ (by omega)]))
  | succ d ih =>
    intro i h1
    have w1 : wrap64 ((i : Int) + 1) = ((i + 1 : Nat) : Int) := by rw [wid (by omega)]; rfl
    refine Ev.shift ?_
    simp only [impl_onlyNameBytes.l0, w1]
    refine Ev.pos (by omega) (Ev.pos (by omega) (Ev.pos (by omega) ?_))
    by_cases a : 97 ≤ bt s i ∧ bt s i ≤ 122
    · rw [allF_yes _ (show chQ s i = true by unfold chQ; rw [decide_eq_true a]; rfl)]
      exact Ev.neg (by omega) (Ev.neg (by omega) (ih (i + 1) (by omega)))
    · by_cases b : 48 ≤ bt s i ∧ bt s i ≤ 57
      · rw [allF_yes _ (show chQ s i = true by unfold chQ; rw [decide_eq_true b, Bool.or_true])]
        exact Ev.pos (by omega) (Ev.neg (by omega) (Ev.neg (by omega) (ih (i + 1) (by omega))))
      · rw [allF_no _ (by omega) (show chQ s i = false by unfold chQ; rw [decide_eq_false a, decide_eq_false b]; rfl)]
        by_cases c : bt s i < 97
        · refine Ev.pos c ?_
          by_cases c2 : bt s i < 48
          · exact Ev.pos c2 (Ev.now _)
          · exact Ev.neg c2 (Ev.pos (by omega) (Ev.now _))
        · exact Ev.neg c (Ev.pos (by omega) (Ev.neg (by omega) (Ev.pos (by omega) (Ev.now _))))
theorem iName (s : ByteArray) : Ev (fun k => impl_IsName.f k s) (nameB s) := by
  unfold impl_IsName.f nameB impl_onlyNameBytes.f
  by_cases h0 : (s.size : Int) < 1
  · rw [decide_eq_false (show ¬ (1 ≤ s.size ∧ s.size ≤ 10) by omega)]
    exact Ev.pos h0 (Ev.now _)
  · refine Ev.neg h0 ?_
    by_cases h1 : (s.size : Int) > 10
    · rw [decide_eq_false (show ¬ (1 ≤ s.size ∧ s.size ≤ 10) by omega)]
      exact Ev.pos h1 (Ev.now _)
    · rw [decide_eq_true (show 1 ≤ s.size ∧ s.size ≤ 10 by omega), Bool.true_and]
      refine Ev.neg h1 (Ev.pos (by omega) ?_)
      by_cases a : bt s 0 < 97
      · rw [decide_eq_false (show ¬ (97 ≤ bt s 0 ∧ bt s 0 ≤ 122) by omega)]
        exact Ev.pos a (Ev.now _)
      · refine Ev.neg a ?_
        by_cases b : bt s 0 > 122
        · rw [decide_eq_false (show ¬ (97 ≤ bt s 0 ∧ bt s 0 ≤ 122) by omega)]
          exact Ev.pos b (Ev.now _)
        · rw [decide_eq_true (show 97 ≤ bt s 0 ∧ bt s 0 ≤ 122 by omega), Bool.true_and]
          exact Ev.neg b (Ev.bind (iName_l0 s (by omega) s.size 0 (by omega)) (Ev.now _))
def sylB (x : S49) : Bool := nameB x.f0 && (decide ((x.f0.size : Int) ≤ 6) && (decide (1 ≤ x.f1 ∧ x.f1 ≤ 3) && decide (1 ≤ x.f2 ∧ x.f2 ≤ 8)))
theorem dec_and (p q : Prop) [Decidable p] [Decidable q] : (decide p && decide q) = decide (p ∧ q) := by
  by_cases p <;> by_cases q <;> simp [*]
theorem sSyl (x : S49) : Ev (fun k => spec_l18One_at.f k x.f0 x.f1 x.f2) (sylB x) := by
  unfold spec_l18One_at.f
  refine Ev.bind (sName x.f0) (Ev.same (Ev.now _) ?_)
  unfold sylB
  rw [dec_and, dec_and]
theorem rdSy (l : List S49) (i : Nat) : rd_T49 l (i : Int) = l.getD i z49 := by
  unfold rd_T49
  rw [Int.toNat_natCast]
def syQ (l : List S49) (j : Nat) : Bool := sylB (l.getD j z49) && (decide (j = 0) || Op.bytesLess (l.getD (j - 1) z49).f0.toList (l.getD j z49).f0.toList)
def sylsB (l : List S49) : Bool := allF (syQ l) l.length 0 && decide ((l.length : Int) ≤ 16)
theorem sSyls_l0 (l : List S49) (hl : l.length ≤ 8796093022208) (d : Nat) : ∀ (i : Nat), i + d = l.length → Ev (fun k => spec_l18Ok.l0 k l i) (allF (syQ l) l.length i && decide ((l.length : Int) ≤ 16)) := by
  induction d with
  | zero =>
    intro i h1
    refine Ev.shift ?_
    simp only [spec_l18Ok.l0]
    exact Ev.neg (by omega) (Ev.some (by rw [allF_end _ (by omega), Bool.true_and]))
  | succ d ih =>
    intro i h1
    have w1 : wrap64 ((i : Int) + 1) = ((i + 1 : Nat) : Int) := by rw [wid (by omega)]; rfl
    refine Ev.shift ?_
    simp only [spec_l18Ok.l0, rdSy, w1]
    refine Ev.pos (by omega) (Ev.pos (by omega) (Ev.bind (sSyl _) ?_))
    cases hb : sylB (l.getD i z49) with
    | false =>
      rw [allF_no _ (by omega) (show syQ l i = false by unfold syQ; rw [hb]; rfl)]
      exact Ev.neg (by decide) (Ev.now _)
    | true =>
      refine Ev.pos rfl ?_
      cases i with
      | zero =>
        rw [allF_yes _ (show syQ l 0 = true by unfold syQ; rw [hb]; rfl)]
        exact Ev.neg (by omega) (ih 1 (by omega))
      | succ i =>
        refine Ev.pos (by omega) ?_
        have e1 : wrap64 (((i + 1 : Nat) : Int) - 1) = (i : Int) := by rw [wid (by omega)]; omega
        rw [e1, rdSy]
        refine Ev.pos (by omega) (Ev.pos (by omega) ?_)
        have e2 : syQ l (i + 1) = Op.bytesLess (l.getD i z49).f0.toList (l.getD (i + 1) z49).f0.toList := by
          unfold syQ
          rw [hb, decide_eq_false (by omega), Bool.true_and, Bool.false_or]
          rfl
        cases hc : Op.bytesLess (l.getD i z49).f0.toList (l.getD (i + 1) z49).f0.toList with
        | true =>
          rw [allF_yes _ (e2.trans hc)]
          exact Ev.pos rfl (ih (i + 2) (by omega))
        | false =>
          rw [allF_no _ (by omega) (e2.trans hc)]
          exact Ev.neg (by decide) (Ev.now _)
theorem sSyls (l : List S49) (hl : l.length ≤ 8796093022208) : Ev (fun k => spec_l18Ok.f k l) (sylsB l) :=
  sSyls_l0 l hl l.length 0 (by omega)
theorem iSyl (x : S49) : Ev (fun k => impl_ValidSyllable.f k x.f0 x.f1 x.f2) (sylB x) := by
  unfold impl_ValidSyllable.f sylB
  simp only [within_eq, Option.bind_some]
  refine Ev.bind (iName x.f0) ?_
  cases nameB x.f0 with
  | false => exact Ev.neg (by decide) (Ev.now _)
  | true =>
    refine Ev.pos rfl ?_
    rw [Bool.true_and]
    by_cases h : (x.f0.size : Int) ≤ 6
    · rw [decide_eq_true h, Bool.true_and]
      refine Ev.pos h ?_
      cases decide (1 ≤ x.f1 ∧ x.f1 ≤ 3) with
      | false => exact Ev.neg (by decide) (Ev.now _)
      | true => exact Ev.pos rfl (Ev.now _)
    · rw [decide_eq_false h, Bool.false_and]
      exact Ev.neg h (Ev.now _)
theorem iSyls_l0 (l : List S49) (hl : l.length ≤ 16) (d : Nat) : ∀ (i : Nat), i + d = l.length → Ev (fun k => impl_ValidSyllables.l0 k l l (l.length : Int) i) (allF (syQ l) l.length i) := by
  induction d with
  | zero =>
    intro i h1
    refine Ev.shift ?_
    simp only [impl_ValidSyllables.l0]
    exact Ev.neg (by omega) (Ev.some (by rw [allF_end _ (by omega)]))
  | succ d ih =>
    intro i h1
    have w1 : wrap64 ((i : Int) + 1) = ((i + 1 : Nat) : Int) := by rw [wid (by omega)]; rfl
    refine Ev.shift ?_
    simp only [impl_ValidSyllables.l0, rdSy, w1]
    refine Ev.pos (by omega) (Ev.pos (by omega) (Ev.pos (by omega) (Ev.bind (iSyl _) ?_)))
    cases hb : sylB (l.getD i z49) with
    | false =>
      rw [allF_no _ (by omega) (show syQ l i = false by unfold syQ; rw [hb]; rfl)]
      exact Ev.neg (by decide) (Ev.now _)
    | true =>
      refine Ev.pos rfl ?_
      cases i with
      | zero =>
        rw [allF_yes _ (show syQ l 0 = true by unfold syQ; rw [hb]; rfl)]
        exact Ev.neg (by omega) (ih 1 (by omega))
      | succ i =>
        refine Ev.pos (by omega) ?_
        have e1 : wrap64 (((i + 1 : Nat) : Int) - 1) = (i : Int) := by rw [wid (by omega)]; omega
        rw [e1, rdSy]
        refine Ev.pos (by omega) (Ev.pos (by omega) ?_)
        have e2 : syQ l (i + 1) = Op.bytesLess (l.getD i z49).f0.toList (l.getD (i + 1) z49).f0.toList := by
          unfold syQ
          rw [hb, decide_eq_false (by omega), Bool.true_and, Bool.false_or]
          rfl
        cases hc : Op.bytesLess (l.getD i z49).f0.toList (l.getD (i + 1) z49).f0.toList with
        | true =>
          rw [allF_yes _ (e2.trans hc)]
          exact Ev.pos rfl (ih (i + 2) (by omega))
        | false =>
          rw [allF_no _ (by omega) (e2.trans hc)]
          exact Ev.neg (by decide) (Ev.now _)
theorem iSyls (l : List S49) : Ev (fun k => impl_ValidSyllables.f k l) (sylsB l) := by
  unfold impl_ValidSyllables.f sylsB
  by_cases h : (l.length : Int) > 16
  · rw [decide_eq_false (show ¬ (l.length : Int) ≤ 16 by omega), Bool.and_false]
    exact Ev.pos h (Ev.now _)
  · rw [decide_eq_true (show (l.length : Int) ≤ 16 by omega), Bool.and_true]
    exact Ev.neg h (iSyls_l0 l (by omega) l.length 0 (by omega))
def nxS (x : S49) (a b : Int) : Int × Int := if x.f1 = 1 then (a + 1, 0) else if x.f1 = 2 then (0, b + 1) else (a + 1, b + 1)
def cL (most B : Int) (rec : Int → Int → Int → Int → Int × Int × Bool) (u a b : Int) : List S49 → Int → Int → Int × Int × Bool
  | [], n, nd => (n, nd, false)
  | x :: xs, n, nd => if x.f2 > u ∨ (nxS x a b).1 > most ∨ (nxS x a b).2 > most then cL most B rec u a b xs n nd else if nd = B then (n, nd, true) else if (rec (u - x.f2) (nxS x a b).1 (nxS x a b).2 (nd + 1)).2.2 = true then (n + (rec (u - x.f2) (nxS x a b).1 (nxS x a b).2 (nd + 1)).1, (rec (u - x.f2) (nxS x a b).1 (nxS x a b).2 (nd + 1)).2.1, true) else cL most B rec u a b xs (n + (rec (u - x.f2) (nxS x a b).1 (nxS x a b).2 (nd + 1)).1) (rec (u - x.f2) (nxS x a b).1 (nxS x a b).2 (nd + 1)).2.1
def cR (L : List S49) (most B : Int) : Nat → Int → Int → Int → Int → Int × Int × Bool
  | 0, _, _, _, nd => (1, nd, false)
  | d + 1, u, a, b, nd => if u = 0 then (1, nd, false) else cL most B (cR L most B d) u a b L 0 nd
theorem cL_skip {most B : Int} {rec : Int → Int → Int → Int → Int × Int × Bool} {u a b : Int} {x : S49} {xs : List S49} {n nd : Int} (h : x.f2 > u ∨ (nxS x a b).1 > most ∨ (nxS x a b).2 > most) : cL most B rec u a b (x :: xs) n nd = cL most B rec u a b xs n nd := by
  rw [cL, if_pos h]
theorem cL_full {most B : Int} {rec : Int → Int → Int → Int → Int × Int × Bool} {u a b : Int} {x : S49} {xs : List S49} {n nd : Int} (h : ¬ (x.f2 > u ∨ (nxS x a b).1 > most ∨ (nxS x a b).2 > most)) (e : nd = B) : cL most B rec u a b (x :: xs) n nd = (n, nd, true) := by
  rw [cL, if_neg h, if_pos e]
theorem cL_stop {most B : Int} {rec : Int → Int → Int → Int → Int × Int × Bool} {u a b : Int} {x : S49} {xs : List S49} {n nd m nd' : Int} (h : ¬ (x.f2 > u ∨ (nxS x a b).1 > most ∨ (nxS x a b).2 > most)) (e : nd ≠ B) (f : rec (u - x.f2) (nxS x a b).1 (nxS x a b).2 (nd + 1) = (m, nd', true)) : cL most B rec u a b (x :: xs) n nd = (n + m, nd', true) := by
  rw [cL, if_neg h, if_neg e, f, if_pos rfl]
theorem cL_go {most B : Int} {rec : Int → Int → Int → Int → Int × Int × Bool} {u a b : Int} {x : S49} {xs : List S49} {n nd m nd' : Int} (h : ¬ (x.f2 > u ∨ (nxS x a b).1 > most ∨ (nxS x a b).2 > most)) (e : nd ≠ B) (f : rec (u - x.f2) (nxS x a b).1 (nxS x a b).2 (nd + 1) = (m, nd', false)) : cL most B rec u a b (x :: xs) n nd = cL most B rec u a b xs (n + m) nd' := by
  rw [cL, if_neg h, if_neg e, f, if_neg (by simp)]
def okS (x : S49) : Prop := 1 ≤ x.f2 ∧ x.f2 ≤ 8
theorem nxS_b (x : S49) (a b : Int) (ha : 0 ≤ a ∧ a ≤ 64) (hb : 0 ≤ b ∧ b ≤ 64) : 0 ≤ (nxS x a b).1 ∧ (nxS x a b).1 ≤ 65 ∧ 0 ≤ (nxS x a b).2 ∧ (nxS x a b).2 ≤ 65 := by
  unfold nxS
  split
  · exact ⟨by simp only; omega, by simp only; omega, by simp only; omega, by simp only; omega⟩
  · split
    · exact ⟨by simp only; omega, by simp only; omega, by simp only; omega, by simp only; omega⟩
    · exact ⟨by simp only; omega, by simp only; omega, by simp only; omega, by simp only; omega⟩
def bR (B : Int) (rec : Int → Int → Int → Int → Int × Int × Bool) (d : Nat) : Prop := ∀ u a b nd : Int, 0 ≤ u → u ≤ (d : Int) → 0 ≤ nd → nd ≤ B → 0 ≤ (rec u a b nd).1 ∧ nd ≤ (rec u a b nd).2.1 ∧ (rec u a b nd).2.1 ≤ B ∧ (rec u a b nd).1 ≤ (rec u a b nd).2.1 - nd + 1 ∧ ((rec u a b nd).2.2 = true → (rec u a b nd).2.1 = B)
theorem cL_b (most B : Int) (rec : Int → Int → Int → Int → Int × Int × Bool) (d : Nat) (hrec : bR B rec d) (u a b : Int) (hu : 0 ≤ u ∧ u ≤ d + 1) : ∀ (xs : List S49) (n nd : Int), (∀ x ∈ xs, okS x) → 0 ≤ n → 0 ≤ nd → nd ≤ B → n ≤ (cL most B rec u a b xs n nd).1 ∧ nd ≤ (cL most B rec u a b xs n nd).2.1 ∧ (cL most B rec u a b xs n nd).2.1 ≤ B ∧ (cL most B rec u a b xs n nd).1 - n ≤ (cL most B rec u a b xs n nd).2.1 - nd ∧ ((cL most B rec u a b xs n nd).2.2 = true → (cL most B rec u a b xs n nd).2.1 = B)
  | [], n, nd, _, h0, h1, h2 => by
    unfold cL
    exact ⟨by simp, by simp, h2, by simp, fun h => by simp at h⟩
  | x :: xs, n, nd, hx, h0, h1, h2 => by
    have hxs := fun y hy => hx y (List.mem_cons_of_mem _ hy)
    have h3 : okS x := hx x List.mem_cons_self
    unfold cL
    by_cases c : x.f2 > u ∨ (nxS x a b).1 > most ∨ (nxS x a b).2 > most
    · rw [if_pos c]
      exact cL_b most B rec d hrec u a b hu xs n nd hxs h0 h1 h2
    · rw [if_neg c]
      by_cases e : nd = B
      · rw [if_pos e]
        exact ⟨by simp, by simp, h2, by simp, fun _ => e⟩
      · rw [if_neg e]
        unfold okS at h3
        obtain ⟨r0, r1, r2, r3, r4⟩ := hrec (u - x.f2) (nxS x a b).1 (nxS x a b).2 (nd + 1) (by omega) (by omega) (by omega) (by omega)
        generalize rec (u - x.f2) (nxS x a b).1 (nxS x a b).2 (nd + 1) = R at *
        by_cases f : R.2.2 = true
        · rw [if_pos f]
          exact ⟨by simp only; omega, by simp only; omega, r2, by simp only; omega, fun _ => r4 f⟩
        · rw [if_neg f]
          obtain ⟨q0, q1, q2, q3, q4⟩ := cL_b most B rec d hrec u a b hu xs (n + R.1) R.2.1 hxs (by omega) (by omega) r2
          exact ⟨by omega, by omega, q2, by omega, q4⟩
theorem cR_b (L : List S49) (most B : Int) (hL : ∀ x ∈ L, okS x) : ∀ d : Nat, bR B (cR L most B d) d
  | 0 => fun u a b nd h0 h1 h2 h3 => by
    unfold cR
    exact ⟨by simp, by simp, h3, by simp, fun h => by simp at h⟩
  | d + 1 => fun u a b nd h0 h1 h2 h3 => by
    unfold cR
    by_cases c : u = 0
    · rw [if_pos c]
      exact ⟨by simp, by simp, h3, by simp, fun h => by simp at h⟩
    · rw [if_neg c]
      obtain ⟨q0, q1, q2, q3, q4⟩ := cL_b most B (cR L most B d) d (cR_b L most B hL d) u a b ⟨h0, by omega⟩ L 0 nd hL (by omega) h2 h3
      exact ⟨q0, q1, q2, by omega, q4⟩
theorem rdSg (l : List S49) (i : Nat) (hi : i < l.length) : rd_T49 l (i : Int) = l[i] := by
  rw [rdSy, List.getD_eq_getElem?_getD, List.getElem?_eq_getElem hi]; rfl
theorem nextS (x : S49) (a b : Int) (ha : 0 ≤ a ∧ a ≤ 64) (hb : 0 ≤ b ∧ b ≤ 64) : spec_l18Next_at.f x.f0 x.f1 x.f2 a b = some (nxS x a b) := by
  unfold spec_l18Next_at.f nxS
  rw [wid (x := a + 1) (by omega), wid (x := b + 1) (by omega)]
  split
  · rfl
  · split <;> rfl
theorem nextI (x : S49) (a b : Int) (ha : 0 ≤ a ∧ a ≤ 64) (hb : 0 ≤ b ∧ b ≤ 64) : impl_playedRuns_next.f a b x.f0 x.f1 x.f2 = some (nxS x a b) := by
  unfold impl_playedRuns_next.f nxS
  rw [wid (x := a + 1) (by omega), wid (x := b + 1) (by omega)]
  split
  · rfl
  · split <;> rfl
/-- what spec's run does -/
def sSays (L : List S49) (most B : Int) (rec : Int → Int → Int → Int → Int × Int × Bool) (d : Nat) : Prop := ∀ u a b nd c : Int, 0 ≤ u → u ≤ (d : Int) → 0 ≤ a ∧ a ≤ most → 0 ≤ b ∧ b ≤ most → 0 ≤ nd → nd ≤ B → 0 ≤ c → c ≤ 100000 + nd → Ev (fun k => spec_l18Search_run.f k L most c nd B false u a b) (most, c + (rec u a b nd).1, (rec u a b nd).2.1, B, (rec u a b nd).2.2)
set_option maxHeartbeats 4000000 in
theorem sLoop (L : List S49) (hL : ∀ x ∈ L, okS x) (hlen : L.length ≤ 16) (most B : Int) (hm : 1 ≤ most ∧ most ≤ 64) (hB : 1 ≤ B ∧ B ≤ 20000) (rec : Int → Int → Int → Int → Int × Int × Bool) (d : Nat) (hd : d ≤ 64) (hrec : bR B rec d) (hs : sSays L most B rec d) (u a b : Int) (hu : 0 ≤ u ∧ u ≤ d + 1) (ha : 0 ≤ a ∧ a ≤ most) (hb : 0 ≤ b ∧ b ≤ most) (c0 : Int) (hc0 : 0 ≤ c0) (q : Nat) :
    ∀ (i : Nat) (n nd : Int), i + q = L.length → 0 ≤ n → 0 ≤ nd → nd ≤ B → c0 + n ≤ 100000 + nd → Ev (fun k => spec_l18Search_run.l0 k u a b i L most (c0 + n) nd B false) (most, c0 + (cL most B rec u a b (L.drop i) n nd).1, (cL most B rec u a b (L.drop i) n nd).2.1, B, (cL most B rec u a b (L.drop i) n nd).2.2) := by
  induction q with
  | zero =>
    intro i n nd h1 h2 h3 h4 h5
    refine Ev.shift ?_
    simp only [spec_l18Search_run.l0]
    refine Ev.neg (by omega) (Ev.shift ?_)
    simp only [spec_l18Search_run.j1]
    refine Ev.neg (by decide) (Ev.some ?_)
    rw [List.drop_of_length_le (by omega)]
    rfl
  | succ q ih =>
    intro i n nd h1 h2 h3 h4 h5
    have hi : i < L.length := by omega
    have e1 : (0 : Int) ≤ (i : Int) := Int.natCast_nonneg i
    have e2 : (i : Int) < (L.length : Int) := Int.ofNat_lt.2 hi
    have hx : okS L[i] := hL _ (List.getElem_mem hi)
    have hn := nextS L[i] a b (by omega) (by omega)
    have hnb := nxS_b L[i] a b (by omega) (by omega)
    have w1 : wrap64 ((i : Int) + 1) = ((i + 1 : Nat) : Int) := by rw [wid (by omega)]; rfl
    rw [List.drop_eq_getElem_cons (i := i) hi]
    refine Ev.shift ?_
    simp only [spec_l18Search_run.l0]
    refine Ev.pos e2 (Ev.shift ?_)
    simp only [spec_l18Search_run.j1]
    rw [rdSg L i hi, hn]
    simp only [Option.bind_some]
    refine Ev.pos (by trivial) (Ev.pos e1 (Ev.pos e2 ?_))
    have hrc := hrec (u - L[i].f2) (nxS L[i] a b).1 (nxS L[i] a b).2 (nd + 1)
    have hsc := hs (u - L[i].f2) (nxS L[i] a b).1 (nxS L[i] a b).2 (nd + 1) (c0 + n)
    have kS := @cL_skip most B rec u a b L[i] (L.drop (i + 1)) n nd
    have kF := @cL_full most B rec u a b L[i] (L.drop (i + 1)) n nd
    have kP := @cL_stop most B rec u a b L[i] (L.drop (i + 1)) n nd
    have kG := @cL_go most B rec u a b L[i] (L.drop (i + 1)) n nd
    generalize cL most B rec u a b (L[i] :: L.drop (i + 1)) n nd = G at kS kF kP kG ⊢
    generalize rec (u - L[i].f2) (nxS L[i] a b).1 (nxS L[i] a b).2 (nd + 1) = R at hrc hsc kP kG
    generalize (nxS L[i] a b).1 = a' at *
    generalize (nxS L[i] a b).2 = b' at *
    have skip : (L[i].f2 > u ∨ a' > most ∨ b' > most) → Ev (fun k => spec_l18Search_run.j2 k u a b i a' b' true L most (c0 + n) nd B false) (most, c0 + G.1, G.2.1, B, G.2.2) := by
      intro c
      rw [kS c]
      refine Ev.shift ?_
      simp only [spec_l18Search_run.j2]
      rw [w1]
      exact Ev.pos (by trivial) (ih (i + 1) n nd (by omega) h2 h3 h4 h5)
    by_cases c1 : L[i].f2 > u
    · exact Ev.pos c1 (skip (.inl c1))
    · refine Ev.neg c1 ?_
      by_cases c2 : a' > most
      · exact Ev.pos c2 (skip (.inr (.inl c2)))
      · refine Ev.neg c2 ?_
        by_cases c3 : b' > most
        · rw [decide_eq_true c3]
          exact skip (.inr (.inr c3))
        · have cc : ¬ (L[i].f2 > u ∨ a' > most ∨ b' > most) := by omega
          clear skip
          rw [decide_eq_false c3]
          refine Ev.shift ?_
          simp only [spec_l18Search_run.j2]
          refine Ev.neg (by decide) ?_
          by_cases e : nd = B
          · rw [kF cc e]
            exact Ev.pos e (Ev.some rfl)
          · unfold okS at hx
            refine Ev.neg e (Ev.pos e1 (Ev.pos e2 ?_))
            rw [rdSg L i hi, wid (x := nd + 1) (by omega), wid (x := u - L[i].f2) (by omega), w1]
            have hr := hrc (by omega) (by omega) (by omega) (by omega)
            have hS := hsc (by omega) (by omega) ⟨by omega, by omega⟩ ⟨by omega, by omega⟩ (by omega) (by omega) (by omega) (by omega)
            clear hrc hsc
            obtain ⟨m, nd', fl⟩ := R
            simp only at hr hS
            refine Ev.bind hS ?_
            cases fl with
            | true =>
              rw [kP cc e rfl]
              refine Ev.shift ?_
              simp only [spec_l18Search_run.l0]
              have J : ∀ z : Bool, z = false → Ev (fun k => spec_l18Search_run.j1 k u a b ((i + 1 : Nat) : Int) z L most (c0 + n + m) nd' B true) (most, c0 + (n + m), nd', B, true) := by
                rintro z rfl
                refine Ev.shift ?_
                simp only [spec_l18Search_run.j1]
                exact Ev.neg (by decide) (Ev.some (by rw [Int.add_assoc]))
              by_cases g : ((i + 1 : Nat) : Int) < (L.length : Int)
              · exact Ev.pos g (J _ rfl)
              · exact Ev.neg g (J _ rfl)
            | false =>
              rw [kG cc e rfl]
              have := ih (i + 1) (n + m) nd' (by omega) (by omega) (by omega) (by omega) (by omega)
              rw [← Int.add_assoc] at this
              exact this
theorem sAll (L : List S49) (hL : ∀ x ∈ L, okS x) (hlen : L.length ≤ 16) (most B : Int) (hm : 1 ≤ most ∧ most ≤ 64) (hB : 1 ≤ B ∧ B ≤ 20000) : ∀ d : Nat, d ≤ 64 → sSays L most B (cR L most B d) d
  | 0, _ => fun u a b nd c h0 h1 ha hb h2 h3 h4 h5 => by
    have hu : u = 0 := by omega
    unfold cR
    refine Ev.shift ?_
    simp only [spec_l18Search_run.f]
    exact Ev.pos hu (Ev.some (by rw [wid (by omega)]))
  | d + 1, hd => fun u a b nd c h0 h1 ha hb h2 h3 h4 h5 => by
    refine Ev.shift ?_
    simp only [spec_l18Search_run.f]
    unfold cR
    by_cases hu : u = 0
    · rw [if_pos hu]
      exact Ev.pos hu (Ev.some (by rw [wid (by omega)]))
    · rw [if_neg hu]
      refine Ev.neg hu ?_
      have := sLoop L hL hlen most B hm hB (cR L most B d) d (by omega) (cR_b L most B hL d) (sAll L hL hlen most B hm hB d (by omega)) u a b ⟨h0, by omega⟩ ha hb c h4 L.length 0 0 nd (by omega) (by omega) h2 h3 (by omega)
      rw [Int.add_zero, List.drop_zero] at this
      exact this
def iOut (most B : Int) (R : Int × Int × Bool) : Int × Int × Int × Option Nat := if R.2.2 = true then (0, most, -1, none) else (R.1, most, B - R.2.1, none)
def iSays (L : List S49) (most B : Int) (rec : Int → Int → Int → Int → Int × Int × Bool) (d : Nat) : Prop := ∀ u a b nd : Int, 0 ≤ u → u ≤ (d : Int) → 0 ≤ a ∧ a ≤ most → 0 ≤ b ∧ b ≤ most → 0 ≤ nd → nd ≤ B → Ev (fun k => impl_composedSearch_count.f k L most (B - nd) none [] a b u) (iOut most B (rec u a b nd))
set_option maxHeartbeats 4000000 in
theorem iLoop (L : List S49) (hL : ∀ x ∈ L, okS x) (hlen : L.length ≤ 16) (most B : Int) (hm : 1 ≤ most ∧ most ≤ 64) (hB : 1 ≤ B ∧ B ≤ 20000) (rec : Int → Int → Int → Int → Int × Int × Bool) (d : Nat) (hd : d ≤ 64) (hrec : bR B rec d) (hs : iSays L most B rec d) (u a b : Int) (hu : 0 ≤ u ∧ u ≤ d + 1) (ha : 0 ≤ a ∧ a ≤ most) (hb : 0 ≤ b ∧ b ≤ most) (q : Nat) :
    ∀ (i : Nat) (n nd : Int), i + q = L.length → 0 ≤ n → n ≤ 100000 + nd → 0 ≤ nd → nd ≤ B → Ev (fun k => impl_composedSearch_count.l0 k u n L (L.length : Int) i L most (B - nd) none [] a b) (iOut most B (cL most B rec u a b (L.drop i) n nd)) := by
  induction q with
  | zero =>
    intro i n nd h1 h2 h5 h3 h4
    refine Ev.shift ?_
    simp only [impl_composedSearch_count.l0]
    refine Ev.neg (by omega) (Ev.some ?_)
    rw [List.drop_of_length_le (by omega)]
    rfl
  | succ q ih =>
    intro i n nd h1 h2 h5 h3 h4
    have hi : i < L.length := by omega
    have e1 : (0 : Int) ≤ (i : Int) := Int.natCast_nonneg i
    have e2 : (i : Int) < (L.length : Int) := Int.ofNat_lt.2 hi
    have hx : okS L[i] := hL _ (List.getElem_mem hi)
    have hn := nextI L[i] a b (by omega) (by omega)
    have hnb := nxS_b L[i] a b (by omega) (by omega)
    have w1 : wrap64 ((i : Int) + 1) = ((i + 1 : Nat) : Int) := by rw [wid (by omega)]; rfl
    rw [List.drop_eq_getElem_cons (i := i) hi]
    refine Ev.shift ?_
    simp only [impl_composedSearch_count.l0]
    rw [rdSg L i hi, hn]
    simp only [Option.bind_some]
    refine Ev.pos e2 (Ev.pos e1 (Ev.pos e2 ?_))
    have hrc := hrec (u - L[i].f2) (nxS L[i] a b).1 (nxS L[i] a b).2 (nd + 1)
    have hsc := hs (u - L[i].f2) (nxS L[i] a b).1 (nxS L[i] a b).2 (nd + 1)
    have kS := @cL_skip most B rec u a b L[i] (L.drop (i + 1)) n nd
    have kF := @cL_full most B rec u a b L[i] (L.drop (i + 1)) n nd
    have kP := @cL_stop most B rec u a b L[i] (L.drop (i + 1)) n nd
    have kG := @cL_go most B rec u a b L[i] (L.drop (i + 1)) n nd
    generalize cL most B rec u a b (L[i] :: L.drop (i + 1)) n nd = G at kS kF kP kG ⊢
    generalize rec (u - L[i].f2) (nxS L[i] a b).1 (nxS L[i] a b).2 (nd + 1) = R at hrc hsc kP kG
    generalize (nxS L[i] a b).1 = a' at *
    generalize (nxS L[i] a b).2 = b' at *
    by_cases c : L[i].f2 > u ∨ a' > most ∨ b' > most
    · rw [kS c]
      have J : ∀ z : Bool, z = true → Ev (fun k => impl_composedSearch_count.j1 k u n L (L.length : Int) i z L most (B - nd) none [] a b L[i].f0 L[i].f1 L[i].f2 a' b') (iOut most B (cL most B rec u a b (L.drop (i + 1)) n nd)) := by
        rintro z rfl
        refine Ev.shift ?_
        simp only [impl_composedSearch_count.j1]
        rw [w1]
        exact Ev.pos (by trivial) (ih (i + 1) n nd (by omega) h2 h5 h3 h4)
      by_cases c1 : L[i].f2 > u
      · exact Ev.pos c1 (J _ rfl)
      · refine Ev.neg c1 ?_
        unfold impl_playedRuns_longest.f
        simp only [Option.bind_some]
        refine J _ (decide_eq_true ?_)
        unfold mx
        split <;> omega
    · refine Ev.neg (by omega) ?_
      unfold impl_playedRuns_longest.f
      simp only [Option.bind_some]
      rw [decide_eq_false (by unfold mx; split <;> omega)]
      refine Ev.shift ?_
      simp only [impl_composedSearch_count.j1]
      refine Ev.neg (by decide) ?_
      rw [wid (x := B - nd - 1) (by omega)]
      by_cases e : nd = B
      · rw [kF c e]
        refine Ev.pos (by omega) (Ev.some ?_)
        unfold iOut
        rw [if_pos rfl, show B - nd - 1 = -1 by omega]
      · unfold okS at hx
        refine Ev.neg (by omega) ?_
        rw [wid (x := u - L[i].f2) (by omega)]
        have hr := hrc (by omega) (by omega) (by omega) (by omega)
        have hS := hsc (by omega) (by omega) ⟨by omega, by omega⟩ ⟨by omega, by omega⟩ (by omega) (by omega)
        clear hrc hsc
        rw [show B - (nd + 1) = B - nd - 1 by omega] at hS
        obtain ⟨m, nd', fl⟩ := R
        simp only at hr
        refine Ev.bind hS ?_
        cases fl with
        | true =>
          rw [kP c e rfl]
          unfold iOut
          rw [if_pos rfl, if_pos rfl]
          exact Ev.pos (by show (-1 : Int) < 0; decide) (Ev.some rfl)
        | false =>
          rw [kG c e rfl]
          unfold iOut
          rw [if_neg (by simp)]
          simp only
          refine Ev.neg (by omega) ?_
          rw [wid (x := n + m) (by omega), w1]
          exact ih (i + 1) (n + m) nd' (by omega) (by omega) (by omega) (by omega) (by omega)
theorem iAll (L : List S49) (hL : ∀ x ∈ L, okS x) (hlen : L.length ≤ 16) (most B : Int) (hm : 1 ≤ most ∧ most ≤ 64) (hB : 1 ≤ B ∧ B ≤ 20000) : ∀ d : Nat, d ≤ 64 → iSays L most B (cR L most B d) d
  | 0, _ => fun u a b nd h0 h1 ha hb h2 h3 => by
    have hu : u = 0 := by omega
    unfold cR
    refine Ev.shift ?_
    simp only [impl_composedSearch_count.f]
    exact Ev.pos hu (Ev.some rfl)
  | d + 1, hd => fun u a b nd h0 h1 ha hb h2 h3 => by
    refine Ev.shift ?_
    simp only [impl_composedSearch_count.f]
    unfold cR
    by_cases hu : u = 0
    · rw [if_pos hu]
      exact Ev.pos hu (Ev.some rfl)
    · rw [if_neg hu]
      refine Ev.neg hu ?_
      have := iLoop L hL hlen most B hm hB (cR L most B d) d (by omega) (cR_b L most B hL d) (iAll L hL hlen most B hm hB d (by omega)) u a b ⟨h0, by omega⟩ ha hb L.length 0 0 nd (by omega) (by omega) (by omega) h2 h3
      rw [List.drop_zero] at this
      exact this
def ccR (L : List S49) (u m B : Int) : Int × Int := if sylsB L = true then (if 0 ≤ u ∧ u ≤ 64 then (if 1 ≤ m ∧ m ≤ 64 then (if 1 ≤ B ∧ B ≤ 20000 then (if (cR L m B 64 u 0 0 0).2.2 = true then (0, 5) else ((cR L m B 64 u 0 0 0).1, 0)) else (0, 2)) else (0, 2)) else (0, 2)) else (0, 1)
theorem syls_ok {L : List S49} (h : sylsB L = true) : (∀ x ∈ L, okS x) ∧ L.length ≤ 16 := by
  unfold sylsB at h
  rw [Bool.and_eq_true, allF_iff, decide_eq_true_iff] at h
  refine ⟨fun x hx => ?_, by omega⟩
  obtain ⟨j, hj, rfl⟩ := List.getElem_of_mem hx
  have := h.1 j hj (Nat.zero_le _)
  unfold syQ sylB at this
  rw [List.getD_eq_getElem?_getD, List.getElem?_eq_getElem hj, Option.getD_some] at this
  simp only [Bool.and_eq_true, decide_eq_true_eq] at this
  exact ⟨this.1.2.2.2.1, this.1.2.2.2.2⟩
theorem sCC (L : List S49) (u m B : Int) (hl : L.length ≤ 8796093022208) : Ev (fun k => spec_CountComposed.f k L u m B) (ccR L u m B) := by
  unfold spec_CountComposed.f ccR
  refine Ev.bind (sSyls L hl) ?_
  cases v : sylsB L with
  | false =>
    rw [if_neg (by decide)]
    exact Ev.neg (by decide) (Ev.now _)
  | true =>
    obtain ⟨hL, h16⟩ := syls_ok v
    rw [if_pos rfl]
    refine Ev.pos rfl ?_
    simp only [spec_l18Most.f, in_eq, Option.bind_some]
    have J : Ev (fun k => spec_CountComposed.j0 k L u m B true) (0, 2) := by
      refine Ev.shift ?_
      simp only [spec_CountComposed.j0]
      exact Ev.pos (by trivial) (Ev.now _)
    by_cases c1 : 0 ≤ u ∧ u ≤ 64
    · rw [if_pos c1]
      refine Ev.pos (decide_eq_true c1) ?_
      by_cases c2 : 1 ≤ m ∧ m ≤ 64
      · rw [if_pos c2]
        refine Ev.pos (decide_eq_true c2) ?_
        by_cases c3 : 1 ≤ B ∧ B ≤ 20000
        · rw [if_pos c3, decide_eq_true c3]
          refine Ev.shift ?_
          simp only [spec_CountComposed.j0]
          refine Ev.neg (by decide) (Ev.bind (sAll L hL h16 m B c2 c3 64 (by omega) u 0 0 0 0 c1.1 (by omega) ⟨by omega, by omega⟩ ⟨by omega, by omega⟩ (by omega) (by omega) (by omega) (by omega)) ?_)
          by_cases f : (cR L m B 64 u 0 0 0).2.2 = true
          · simp only [if_pos f]
            exact Ev.now _
          · simp only [if_neg f]
            exact Ev.some (by rw [Int.zero_add])
        · rw [if_neg c3, decide_eq_false c3]
          exact J
      · rw [if_neg c2]
        exact Ev.neg (by rw [decide_eq_true_iff]; exact c2) J
    · rw [if_neg c1]
      exact Ev.neg (by rw [decide_eq_true_iff]; exact c1) J
theorem iCC (L : List S49) (u m B : Int) : Ev (fun k => impl_CountComposed.f k L u m B) (ccR L u m B) := by
  unfold impl_CountComposed.f ccR
  refine Ev.bind (iSyls L) ?_
  cases v : sylsB L with
  | false =>
    rw [if_neg (by decide)]
    exact Ev.neg (by decide) (Ev.now _)
  | true =>
    obtain ⟨hL, h16⟩ := syls_ok v
    rw [if_pos rfl]
    refine Ev.pos rfl ?_
    by_cases c1 : 0 ≤ u ∧ u ≤ 64
    · rw [if_pos c1]
      refine Ev.pos c1 ?_
      by_cases c2 : 1 ≤ m ∧ m ≤ 64
      · rw [if_pos c2]
        refine Ev.pos c2 ?_
        by_cases c3 : 1 ≤ B ∧ B ≤ 20000
        · rw [if_pos c3]
          refine Ev.pos c3 ?_
          have h := iAll L hL h16 m B c2 c3 64 (by omega) u 0 0 0 c1.1 (by omega) ⟨by omega, by omega⟩ ⟨by omega, by omega⟩ (by omega) (by omega)
          have hb := cR_b L m B hL 64 u 0 0 0 c1.1 (by omega) (by omega) (by omega)
          rw [Int.sub_zero] at h
          refine Ev.bind h ?_
          unfold iOut
          by_cases f : (cR L m B 64 u 0 0 0).2.2 = true
          · rw [if_pos f, if_pos f]
            exact Ev.pos (by show (-1 : Int) < 0; decide) (Ev.now _)
          · rw [if_neg f, if_neg f]
            exact Ev.neg (by simp only; omega) (Ev.now _)
        · rw [if_neg c3]
          exact Ev.neg c3 (Ev.now _)
      · rw [if_neg c2]
        exact Ev.neg c2 (Ev.now _)
    · rw [if_neg c1]
      exact Ev.neg c1 (Ev.now _)
theorem FnExactCountComposed : laws_FnExactCountComposed.Pure := by
  intro l u m B hm _ _ _
  refine Ev.rounds (g := fun k => laws_FnExactCountComposed.f k l u m B) ?_
  unfold laws_FnExactCountComposed.f
  obtain ⟨s, hz, hb⟩ := szSyllable l hm.1 (fun z hz => (hm.2 z hz).1)
  refine Ev.bind hz ?_
  by_cases h0 : s < 0
  · exact Ev.pos h0 (Ev.now _)
  refine Ev.neg h0 ?_
  have hl := hb (by omega)
  have hl' : l.length ≤ 8796093022208 := by omega
  have hc : (cpSyllable l).length ≤ 8796093022208 := by rw [cpSyllable_length]; exact hl'
  have hS := sCC (cpSyllable l) u m B hc
  have hI := iCC (cpSyllable l) u m B
  generalize ccR (cpSyllable l) u m B = R at hS hI
  obtain ⟨r, c⟩ := R
  repeat (first | exact Ev.now _ | refine Ev.bind hS ?_ | refine Ev.bind hI ?_ | refine Ev.bind (toSyllable l hl') ?_ | refine Ev.bind (eqSyllable _ hc) ?_ | refine Ev.pos (by with_reducible rfl) ?_ | refine Ev.neg (by omega) ?_ | refine Ev.neg (by simp; done) ?_ | refine Ev.pos (by omega) ?_ | (refine Ev.shift ?_; simp only [laws_FnExactCountComposed.j0]))

end Go.Proofs.Ytlcciappjbppfaa.Pure
